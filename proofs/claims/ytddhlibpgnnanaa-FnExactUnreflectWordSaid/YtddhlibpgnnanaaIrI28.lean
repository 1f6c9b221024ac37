import Derived.Test.YtddhlibpgnnanaaCatFun
namespace Go.Cat
/-- loop.example/g03401/impl.areSteps -/
def ir_impl_areSteps : IF := ⟨1, 2, [1],
 (.seq (.reg [⟨[], [], .cs .v (.b false)⟩] [some 0, none])
 ((.seq (.reg [⟨[], [], .nop⟩, ⟨[], [], .ca 66 [(.e 0), (.c (.y 117))] 1⟩, ⟨[], [], .nop⟩, ⟨[], [], .ca 66 [(.e 0), (.c (.y 100))] 1⟩, ⟨[], [], .bi .add (.e 2) (.e 3)⟩, ⟨[], [], .nop⟩, ⟨[], [], .sn (.e 0)⟩, ⟨[], [], .bi .eql (.e 4) (.e 5)⟩, ⟨[], [], .nop⟩] [none, some 6])
 (.ret))))⟩

end Go.Cat
