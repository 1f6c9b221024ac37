import Derived.Test.YtddhlibpgnnanaaCatFun
namespace Go.Cat
/-- loop.example/g03401/laws.FnExactIsBad -/
def ir_laws_FnExactIsBad : IF := ⟨1, 6, [1],
 (.seq (.reg [⟨[], [], .cs .v (.b false)⟩] [some 0, none, none, none, none, none])
 ((.seq ((.seq (.reg [⟨[], [], .nop⟩, ⟨[], [], .sn (.e 0)⟩, ⟨[], [], .bi .gtr (.e 6) (.c (.n 1048576))⟩] [some 0, none, none, none, some 7, none])
 (.cond 4 ((.seq (.reg [⟨[], [], .cs .v (.b true)⟩] [none, some 6, none, none, none, none])
  (.ret))) (.skip))))
 ((.seq (.reg [⟨[], [], .nop⟩, ⟨[], [], .ca 39 [(.e 0)] 1⟩, ⟨[], [], .nop⟩] [some 0, none, some 6, none, none, none])
 ((.seq (.reg [⟨[], [], .nop⟩, ⟨[], [], .ca 40 [(.e 0)] 1⟩, ⟨[], [], .nop⟩] [none, none, some 2, some 6, none, none])
 ((.seq ((.seq (.reg [⟨[], [], .nop⟩, ⟨[], [], .nop⟩, ⟨[], [], .bb .neq (.e 3) (.e 2)⟩] [none, none, none, none, none, some 6])
 (.cond 5 ((.seq (.reg [⟨[], [], .cs .v (.b false)⟩] [none, some 6, none, none, none, none])
  (.ret))) (.skip))))
 ((.seq (.reg [⟨[], [], .cs .v (.b true)⟩] [none, some 6, none, none, none, none])
 (.ret))))))))))))⟩

end Go.Cat
