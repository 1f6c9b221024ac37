import Derived.Test.YtddhlibpgnnanaaCatFun
namespace Go.Cat
/-- loop.example/g03401/spec.FormatInt -/
def ir_spec_FormatInt : IF := ⟨1, 9, [1],
 (.seq (.reg [⟨[], [], .cs .v (.s [])⟩] [some 0, none, none, none, none, none, none, none, none])
 ((.seq ((.seq (.reg [⟨[], [], .nop⟩, ⟨[], [], .bi .eql (.e 0) (.c (.n 0))⟩] [some 0, none, none, none, none, some 9, none, none, none])
 (.cond 5 ((.seq (.reg [⟨[], [], .cs .v (.s [48])⟩] [none, some 9, none, none, none, none, none, none, none])
  (.ret))) (.skip))))
 ((.seq (.reg [⟨[], [], .cs .v (.s [])⟩] [some 0, none, some 9, none, none, none, none, none, none])
 ((.seq (.reg [⟨[], [], .nop⟩, ⟨[], [], .bi .lss (.e 0) (.c (.n 0))⟩, ⟨[], [], .nop⟩] [some 0, none, some 2, some 9, none, none, none, none, none])
 ((.seq (.block 0 (.loop ((.seq ((.seq (.reg [⟨[], [], .nop⟩, ⟨[], [], .bi .neq (.e 0) (.c (.n 0))⟩] [some 0, none, some 2, some 3, none, none, some 9, none, none])
   (.cond 6 (.skip) (.exit 0))))
   (.block 1 ((.seq (.reg [⟨[], [], .nop⟩, ⟨[], [], .bi .rem (.e 0) (.c (.n 10))⟩, ⟨[], [], .nop⟩] [some 0, none, some 2, some 3, some 9, none, none, none, none])
    ((.seq ((.seq (.reg [⟨[], [], .nop⟩, ⟨[], [], .bi .lss (.e 4) (.c (.n 0))⟩] [some 0, none, some 2, some 3, some 4, none, none, some 9, none])
    (.cond 7 (.reg [⟨[], [], .nop⟩, ⟨[], [], .un .neg (.e 4)⟩, ⟨[], [], .nop⟩] [some 0, none, some 2, some 3, some 9, none, none, none, none]) (.skip))))
    ((.seq (.reg [⟨[], [], .nop⟩, ⟨[], [], .bi .add (.c (.n 48)) (.e 4)⟩, ⟨[], [], .cv .u8 (.e 9)⟩, ⟨[], [], .li (.o .v) [(.e 10)]⟩, ⟨[], [], .bs (.e 11)⟩, ⟨[], [], .nop⟩, ⟨[], [], .bi .add (.e 12) (.e 2)⟩, ⟨[], [], .nop⟩] [some 0, none, some 13, some 3, none, none, none, none, none])
    (.reg [⟨[], [], .nop⟩, ⟨[], [], .bi .quo (.e 0) (.c (.n 10))⟩, ⟨[], [], .nop⟩] [some 9, none, some 2, some 3, none, none, none, none, none]))))))))))))
 ((.seq ((.seq (.reg [⟨[], [], .nop⟩] [none, none, some 2, none, none, none, none, none, some 3])
 (.cond 8 ((.seq (.reg [⟨[], [], .nop⟩, ⟨[], [], .bi .add (.c (.s [45])) (.e 2)⟩, ⟨[], [], .nop⟩] [none, some 9, none, none, none, none, none, none, none])
  (.ret))) (.skip))))
 ((.seq (.reg [⟨[], [], .nop⟩, ⟨[], [], .nop⟩] [none, some 2, none, none, none, none, none, none, none])
 (.ret))))))))))))))⟩

/-- loop.example/g03401/spec.l1In -/
def ir_spec_l1In : IF := ⟨3, 4, [3],
 (.seq (.reg [⟨[], [], .cs .v (.b false)⟩] [some 0, some 1, some 2, none])
 ((.seq (.reg [⟨[], [], .nop⟩, ⟨[], [], .nop⟩, ⟨[], [], .bi .geq (.e 0) (.e 1)⟩, ⟨[], [], .nop⟩, ⟨[], [(4, true)], .cy (.e 0)⟩, ⟨[], [(4, true)], .cy (.e 2)⟩, ⟨[], [(4, true)], .bi .leq (.e 5) (.e 6)⟩, ⟨[], [], .pk (.e 4) (.e 7) (.c (.b false))⟩, ⟨[], [], .nop⟩] [none, none, none, some 8])
 (.ret))))⟩

end Go.Cat
