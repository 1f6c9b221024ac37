import Derived.Test.YtddhlibpgnnanaaCatFun
namespace Go.Cat
/-- loop.example/g03401/laws.FnExactCatalanSeries -/
def ir_laws_FnExactCatalanSeries : IF := ⟨1, 16, [1],
 (.seq (.reg [⟨[], [], .cs .v (.b false)⟩] [some 0, none, none, none, none, none, none, none, none, none, none, none, none, none, none, none])
 ((.seq (.reg [⟨[], [], .nop⟩, ⟨[], [], .ca 59 [(.e 0)] 2⟩, ⟨[], [], .nop⟩, ⟨[], [], .nop⟩, ⟨[], [], .nop⟩, ⟨[], [], .nop⟩, ⟨[], [], .nop⟩] [some 0, none, some 16, some 17, none, none, none, none, none, none, none, none, none, none, none, none])
 ((.seq (.reg [⟨[], [], .nop⟩, ⟨[], [], .ca 60 [(.e 0)] 2⟩, ⟨[], [], .nop⟩, ⟨[], [], .nop⟩, ⟨[], [], .nop⟩, ⟨[], [], .nop⟩, ⟨[], [], .nop⟩] [some 0, none, some 2, some 3, some 16, some 17, none, none, none, none, none, none, none, none, none, none])
 ((.seq ((.seq (.reg [⟨[], [], .nop⟩, ⟨[], [], .nop⟩, ⟨[], [], .ca 44 [(.e 4), (.e 2)] 1⟩, ⟨[], [], .un .not (.e 16)⟩, ⟨[], [], .nop⟩, ⟨[], [(17, false)], .cy (.e 5)⟩, ⟨[], [(17, false)], .cy (.e 3)⟩, ⟨[], [(17, false)], .bb .neq (.e 18) (.e 19)⟩, ⟨[], [], .pk (.e 17) (.c (.b true)) (.e 20)⟩] [some 0, none, some 2, some 3, some 4, none, none, none, none, none, some 21, none, none, none, none, none])
 (.cond 10 ((.seq (.reg [⟨[], [], .cs .v (.b false)⟩] [none, some 16, none, none, none, none, none, none, none, none, none, none, none, none, none, none])
  (.ret))) (.skip))))
 ((.seq (.reg [⟨[], [], .cs .v (.n 1)⟩] [some 0, none, some 2, some 3, some 4, none, some 16, none, none, none, none, none, none, none, none, none])
 ((.seq (.reg [⟨[], [], .nop⟩, ⟨[], [], .nop⟩, ⟨[], [], .ca 45 [(.e 4), (.e 6)] 2⟩, ⟨[], [], .nop⟩] [some 0, none, some 2, some 3, some 17, none, some 16, none, none, none, none, none, none, none, none, none])
 ((.seq (.reg [⟨[], [], .cs .v (.n 1)⟩] [some 0, none, some 2, some 3, some 4, none, some 6, some 16, none, none, none, none, none, none, none, none])
 ((.seq (.reg [⟨[], [], .nop⟩, ⟨[], [], .nop⟩, ⟨[], [], .ca 46 [(.e 4), (.e 7)] 1⟩, ⟨[], [], .nop⟩] [some 0, none, some 2, some 3, some 4, none, some 6, some 16, none, none, none, none, none, none, none, none])
 ((.seq ((.seq (.reg [⟨[], [], .nop⟩, ⟨[], [], .bi .lss (.e 7) (.c (.n 0))⟩] [some 0, none, some 2, some 3, some 4, none, some 6, some 7, none, none, none, some 16, none, none, none, none])
 (.cond 11 ((.seq (.reg [⟨[], [], .cs .v (.b false)⟩] [none, some 16, none, none, none, none, none, none, none, none, none, none, none, none, none, none])
  (.ret))) (.skip))))
 ((.seq ((.seq (.reg [⟨[], [], .nop⟩, ⟨[], [], .nop⟩, ⟨[], [], .bi .neq (.e 7) (.e 6)⟩] [some 0, none, some 2, some 3, some 4, none, some 6, none, none, none, none, none, some 16, none, none, none])
 (.cond 12 ((.seq (.reg [⟨[], [], .cs .v (.b false)⟩] [none, some 16, none, none, none, none, none, none, none, none, none, none, none, none, none, none])
  (.ret))) (.skip))))
 ((.seq (.reg [⟨[], [], .nop⟩, ⟨[], [], .ca 60 [(.e 0)] 2⟩, ⟨[], [], .nop⟩, ⟨[], [], .nop⟩, ⟨[], [], .nop⟩, ⟨[], [], .nop⟩, ⟨[], [], .nop⟩] [none, none, some 2, some 3, some 4, none, some 6, none, some 16, some 17, none, none, none, none, none, none])
 ((.seq ((.seq (.reg [⟨[], [], .nop⟩, ⟨[], [], .nop⟩, ⟨[], [], .ca 44 [(.e 8), (.e 2)] 1⟩, ⟨[], [], .un .not (.e 16)⟩, ⟨[], [], .nop⟩, ⟨[], [(17, false)], .cy (.e 9)⟩, ⟨[], [(17, false)], .cy (.e 3)⟩, ⟨[], [(17, false)], .bb .neq (.e 18) (.e 19)⟩, ⟨[], [], .pk (.e 17) (.c (.b true)) (.e 20)⟩] [none, none, none, none, some 4, none, some 6, none, none, none, none, none, none, some 21, none, none])
 (.cond 13 ((.seq (.reg [⟨[], [], .cs .v (.b false)⟩] [none, some 16, none, none, none, none, none, none, none, none, none, none, none, none, none, none])
  (.ret))) (.skip))))
 ((.seq (.reg [⟨[], [], .cs .v (.n 1)⟩] [none, none, none, none, some 4, none, some 6, some 16, none, none, none, none, none, none, none, none])
 ((.seq (.reg [⟨[], [], .nop⟩, ⟨[], [], .nop⟩, ⟨[], [], .ca 46 [(.e 4), (.e 7)] 1⟩, ⟨[], [], .nop⟩] [none, none, none, none, none, none, some 6, some 16, none, none, none, none, none, none, none, none])
 ((.seq ((.seq (.reg [⟨[], [], .nop⟩, ⟨[], [], .bi .lss (.e 7) (.c (.n 0))⟩] [none, none, none, none, none, none, some 6, some 7, none, none, none, none, none, none, some 16, none])
 (.cond 14 ((.seq (.reg [⟨[], [], .cs .v (.b false)⟩] [none, some 16, none, none, none, none, none, none, none, none, none, none, none, none, none, none])
  (.ret))) (.skip))))
 ((.seq ((.seq (.reg [⟨[], [], .nop⟩, ⟨[], [], .nop⟩, ⟨[], [], .bi .neq (.e 7) (.e 6)⟩] [none, none, none, none, none, none, none, none, none, none, none, none, none, none, none, some 16])
 (.cond 15 ((.seq (.reg [⟨[], [], .cs .v (.b false)⟩] [none, some 16, none, none, none, none, none, none, none, none, none, none, none, none, none, none])
  (.ret))) (.skip))))
 ((.seq (.reg [⟨[], [], .cs .v (.b true)⟩] [none, some 16, none, none, none, none, none, none, none, none, none, none, none, none, none, none])
 (.ret))))))))))))))))))))))))))))))))))⟩

end Go.Cat
