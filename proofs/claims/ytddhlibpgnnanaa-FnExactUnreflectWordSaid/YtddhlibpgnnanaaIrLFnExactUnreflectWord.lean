import Derived.Test.YtddhlibpgnnanaaCatFun
namespace Go.Cat
/-- loop.example/g03401/laws.FnExactUnreflectWord -/
def ir_laws_FnExactUnreflectWord : IF := ⟨1, 8, [1],
 (.seq (.reg [⟨[], [], .cs .v (.b false)⟩] [some 0, none, none, none, none, none, none, none])
 ((.seq ((.seq (.reg [⟨[], [], .nop⟩, ⟨[], [], .sn (.e 0)⟩, ⟨[], [], .bi .gtr (.e 8) (.c (.n 1048576))⟩] [some 0, none, none, none, none, none, some 9, none])
 (.cond 6 ((.seq (.reg [⟨[], [], .cs .v (.b true)⟩] [none, some 8, none, none, none, none, none, none])
  (.ret))) (.skip))))
 ((.seq (.reg [⟨[], [], .nop⟩, ⟨[], [], .ca 53 [(.e 0)] 2⟩, ⟨[], [], .nop⟩, ⟨[], [], .nop⟩, ⟨[], [], .nop⟩, ⟨[], [], .nop⟩, ⟨[], [], .nop⟩] [some 0, none, some 8, some 9, none, none, none, none])
 ((.seq (.reg [⟨[], [], .nop⟩, ⟨[], [], .ca 54 [(.e 0)] 2⟩, ⟨[], [], .nop⟩, ⟨[], [], .nop⟩, ⟨[], [], .nop⟩, ⟨[], [], .nop⟩, ⟨[], [], .nop⟩] [none, none, some 2, some 3, some 8, some 9, none, none])
 ((.seq ((.seq (.reg [⟨[], [], .nop⟩, ⟨[], [], .nop⟩, ⟨[], [], .bi .neq (.e 4) (.e 2)⟩, ⟨[], [], .nop⟩, ⟨[], [(8, false)], .cy (.e 5)⟩, ⟨[], [(8, false)], .cy (.e 3)⟩, ⟨[], [(8, false)], .bb .neq (.e 9) (.e 10)⟩, ⟨[], [], .pk (.e 8) (.c (.b true)) (.e 11)⟩] [none, none, none, none, none, none, none, some 12])
 (.cond 7 ((.seq (.reg [⟨[], [], .cs .v (.b false)⟩] [none, some 8, none, none, none, none, none, none])
  (.ret))) (.skip))))
 ((.seq (.reg [⟨[], [], .cs .v (.b true)⟩] [none, some 8, none, none, none, none, none, none])
 (.ret))))))))))))⟩

end Go.Cat
