import Derived.Test.YtddhlibpgnnanaaCatFun
namespace Go.Cat
/-- loop.example/g03401/laws.FnExactKindNames -/
def ir_laws_FnExactKindNames : IF := ⟨0, 12, [0],
 (.seq (.reg [⟨[], [], .cs .v (.b false)⟩] [none, none, none, none, none, none, none, none, none, none, none, none])
 ((.seq (.reg [⟨[], [], .ca 13 [] 1⟩, ⟨[], [], .nop⟩] [none, some 12, none, none, none, none, none, none, none, none, none, none])
 ((.seq (.reg [⟨[], [], .ca 14 [] 1⟩, ⟨[], [], .nop⟩] [none, some 1, some 12, none, none, none, none, none, none, none, none, none])
 ((.seq ((.seq (.reg [⟨[], [], .nop⟩, ⟨[], [], .nop⟩, ⟨[], [], .ca 15 [(.e 2), (.e 1)] 1⟩, ⟨[], [], .un .not (.e 12)⟩] [none, some 1, some 2, none, none, none, some 13, none, none, none, none, none])
 (.cond 6 ((.seq (.reg [⟨[], [], .cs .v (.b false)⟩] [some 12, none, none, none, none, none, none, none, none, none, none, none])
  (.ret))) (.skip))))
 ((.seq (.reg [⟨[], [], .cs .v (.n 1)⟩] [none, some 1, some 2, some 12, none, none, none, none, none, none, none, none])
 ((.seq (.reg [⟨[], [], .nop⟩, ⟨[], [], .nop⟩, ⟨[], [], .ca 16 [(.e 2), (.e 3)] 2⟩, ⟨[], [], .nop⟩] [none, some 1, some 13, some 12, none, none, none, none, none, none, none, none])
 ((.seq (.reg [⟨[], [], .cs .v (.n 1)⟩] [none, some 1, some 2, some 3, some 12, none, none, none, none, none, none, none])
 ((.seq (.reg [⟨[], [], .nop⟩, ⟨[], [], .nop⟩, ⟨[], [], .ca 17 [(.e 2), (.e 4)] 1⟩, ⟨[], [], .nop⟩] [none, some 1, some 2, some 3, some 12, none, none, none, none, none, none, none])
 ((.seq ((.seq (.reg [⟨[], [], .nop⟩, ⟨[], [], .bi .lss (.e 4) (.c (.n 0))⟩] [none, some 1, some 2, some 3, some 4, none, none, some 12, none, none, none, none])
 (.cond 7 ((.seq (.reg [⟨[], [], .cs .v (.b false)⟩] [some 12, none, none, none, none, none, none, none, none, none, none, none])
  (.ret))) (.skip))))
 ((.seq ((.seq (.reg [⟨[], [], .nop⟩, ⟨[], [], .nop⟩, ⟨[], [], .bi .neq (.e 4) (.e 3)⟩] [none, some 1, some 2, some 3, none, none, none, none, some 12, none, none, none])
 (.cond 8 ((.seq (.reg [⟨[], [], .cs .v (.b false)⟩] [some 12, none, none, none, none, none, none, none, none, none, none, none])
  (.ret))) (.skip))))
 ((.seq (.reg [⟨[], [], .ca 14 [] 1⟩, ⟨[], [], .nop⟩] [none, some 1, some 2, some 3, none, some 12, none, none, none, none, none, none])
 ((.seq ((.seq (.reg [⟨[], [], .nop⟩, ⟨[], [], .nop⟩, ⟨[], [], .ca 15 [(.e 5), (.e 1)] 1⟩, ⟨[], [], .un .not (.e 12)⟩] [none, none, some 2, some 3, none, none, none, none, none, some 13, none, none])
 (.cond 9 ((.seq (.reg [⟨[], [], .cs .v (.b false)⟩] [some 12, none, none, none, none, none, none, none, none, none, none, none])
  (.ret))) (.skip))))
 ((.seq (.reg [⟨[], [], .cs .v (.n 1)⟩] [none, none, some 2, some 3, some 12, none, none, none, none, none, none, none])
 ((.seq (.reg [⟨[], [], .nop⟩, ⟨[], [], .nop⟩, ⟨[], [], .ca 17 [(.e 2), (.e 4)] 1⟩, ⟨[], [], .nop⟩] [none, none, none, some 3, some 12, none, none, none, none, none, none, none])
 ((.seq ((.seq (.reg [⟨[], [], .nop⟩, ⟨[], [], .bi .lss (.e 4) (.c (.n 0))⟩] [none, none, none, some 3, some 4, none, none, none, none, none, some 12, none])
 (.cond 10 ((.seq (.reg [⟨[], [], .cs .v (.b false)⟩] [some 12, none, none, none, none, none, none, none, none, none, none, none])
  (.ret))) (.skip))))
 ((.seq ((.seq (.reg [⟨[], [], .nop⟩, ⟨[], [], .nop⟩, ⟨[], [], .bi .neq (.e 4) (.e 3)⟩] [none, none, none, none, none, none, none, none, none, none, none, some 12])
 (.cond 11 ((.seq (.reg [⟨[], [], .cs .v (.b false)⟩] [some 12, none, none, none, none, none, none, none, none, none, none, none])
  (.ret))) (.skip))))
 ((.seq (.reg [⟨[], [], .cs .v (.b true)⟩] [some 12, none, none, none, none, none, none, none, none, none, none, none])
 (.ret))))))))))))))))))))))))))))))))))⟩

end Go.Cat
