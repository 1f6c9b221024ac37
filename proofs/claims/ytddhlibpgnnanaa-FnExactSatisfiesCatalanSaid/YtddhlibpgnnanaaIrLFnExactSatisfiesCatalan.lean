import Derived.Test.YtddhlibpgnnanaaCatFun
namespace Go.Cat
/-- loop.example/g03401/laws.FnExactSatisfiesCatalan -/
def ir_laws_FnExactSatisfiesCatalan : IF := ⟨1, 8, [1],
 (.seq (.reg [⟨[], [], .cs .v (.b false)⟩] [some 0, none, none, none, none, none, none, none])
 ((.seq ((.seq (.reg [⟨[], [], .nop⟩, ⟨[], [], .ln (.e 0) []⟩, ⟨[], [], .bi .gtr (.e 8) (.c (.n 1048576))⟩] [some 0, none, none, none, none, some 9, none, none])
 (.cond 5 ((.seq (.reg [⟨[], [], .cs .v (.b true)⟩] [none, some 8, none, none, none, none, none, none])
  (.ret))) (.skip))))
 ((.seq (.reg [⟨[], [], .nop⟩, ⟨[], [], .ca 42 [(.e 0)] 1⟩, ⟨[], [], .ca 47 [(.e 8)] 1⟩, ⟨[], [], .nop⟩] [some 0, none, some 9, none, none, none, none, none])
 ((.seq (.reg [⟨[], [], .nop⟩, ⟨[], [], .ca 42 [(.e 0)] 1⟩, ⟨[], [], .nop⟩] [some 0, none, some 2, some 8, none, none, none, none])
 ((.seq (.reg [⟨[], [], .nop⟩, ⟨[], [], .ca 48 [(.e 3)] 1⟩, ⟨[], [], .nop⟩] [some 0, none, some 2, some 3, some 8, none, none, none])
 ((.seq ((.seq (.reg [⟨[], [], .nop⟩, ⟨[], [], .nop⟩, ⟨[], [], .bb .neq (.e 4) (.e 2)⟩] [some 0, none, none, some 3, none, none, some 8, none])
 (.cond 6 ((.seq (.reg [⟨[], [], .cs .v (.b false)⟩] [none, some 8, none, none, none, none, none, none])
  (.ret))) (.skip))))
 ((.seq ((.seq (.reg [⟨[], [], .nop⟩, ⟨[], [], .nop⟩, ⟨[], [], .ca 42 [(.e 0)] 1⟩, ⟨[], [], .ca 44 [(.e 3), (.e 8)] 1⟩, ⟨[], [], .un .not (.e 9)⟩] [none, none, none, none, none, none, none, some 10])
 (.cond 7 ((.seq (.reg [⟨[], [], .cs .v (.b false)⟩] [none, some 8, none, none, none, none, none, none])
  (.ret))) (.skip))))
 ((.seq (.reg [⟨[], [], .cs .v (.b true)⟩] [none, some 8, none, none, none, none, none, none])
 (.ret))))))))))))))))⟩

end Go.Cat
