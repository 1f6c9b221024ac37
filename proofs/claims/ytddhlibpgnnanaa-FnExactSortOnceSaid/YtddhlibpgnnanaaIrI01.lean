import Derived.Test.YtddhlibpgnnanaaCatFun
namespace Go.Cat
/-- loop.example/g03401/impl.FormatInt -/
def ir_impl_FormatInt : IF := ⟨1, 12, [1],
 (.seq (.reg [⟨[], [], .cs .v (.s [])⟩] [some 0, none, none, none, none, none, none, none, none, none, none, none])
 ((.seq ((.seq (.reg [⟨[], [], .nop⟩, ⟨[], [], .bi .eql (.e 0) (.c (.n 0))⟩] [some 0, none, none, none, none, none, none, some 12, none, none, none, none])
 (.cond 7 ((.seq (.reg [⟨[], [], .cs .v (.s [48])⟩] [none, some 12, none, none, none, none, none, none, none, none, none, none])
  (.ret))) (.skip))))
 ((.seq (.reg [⟨[], [], .li (.o .v) []⟩, ⟨[], [], .nop⟩] [some 0, none, some 12, none, none, none, none, none, none, none, none, none])
 ((.seq ((.seq (.reg [⟨[], [], .nop⟩, ⟨[], [], .nop⟩] [some 0, none, some 2, some 0, none, none, none, none, none, none, none, none])
 (.block 0 (.loop ((.seq ((.seq (.reg [⟨[], [], .nop⟩, ⟨[], [], .bi .neq (.e 3) (.c (.n 0))⟩] [some 0, none, some 2, some 3, none, none, none, none, some 12, none, none, none])
   (.cond 8 (.skip) (.exit 0))))
   ((.seq (.block 1 ((.seq (.reg [⟨[], [], .nop⟩, ⟨[], [], .bi .rem (.e 3) (.c (.n 10))⟩, ⟨[], [], .nop⟩] [some 0, none, some 2, some 3, some 12, none, none, none, none, none, none, none])
    ((.seq ((.seq (.reg [⟨[], [], .nop⟩, ⟨[], [], .bi .lss (.e 4) (.c (.n 0))⟩] [some 0, none, some 2, some 3, some 4, none, none, none, none, some 12, none, none])
    (.cond 9 (.reg [⟨[], [], .nop⟩, ⟨[], [], .un .neg (.e 4)⟩, ⟨[], [], .nop⟩] [some 0, none, some 2, some 3, some 12, none, none, none, none, none, none, none]) (.skip))))
    (.reg [⟨[], [], .nop⟩, ⟨[], [], .nop⟩, ⟨[], [], .bi .add (.c (.n 48)) (.e 4)⟩, ⟨[], [], .cv .u8 (.e 12)⟩, ⟨[], [], .li (.o .v) [(.e 13)]⟩, ⟨[], [], .ap false (.e 2) (.e 14)⟩, ⟨[], [], .nop⟩] [some 0, none, some 15, some 3, none, none, none, none, none, none, none, none]))))))
   (.reg [⟨[], [], .nop⟩, ⟨[], [], .bi .quo (.e 3) (.c (.n 10))⟩, ⟨[], [], .nop⟩] [some 0, none, some 2, some 12, none, none, none, none, none, none, none, none])))))))))
 ((.seq ((.seq (.reg [⟨[], [], .nop⟩, ⟨[], [], .bi .lss (.e 0) (.c (.n 0))⟩] [none, none, some 2, none, none, none, none, none, none, none, some 12, none])
 (.cond 10 (.reg [⟨[], [], .nop⟩, ⟨[], [], .li (.o .v) [(.c (.y 45))]⟩, ⟨[], [], .ap false (.e 2) (.e 12)⟩, ⟨[], [], .nop⟩] [none, none, some 13, none, none, none, none, none, none, none, none, none]) (.skip))))
 ((.seq ((.seq (.reg [⟨[], [], .nop⟩, ⟨[], [], .ln (.e 2) []⟩, ⟨[], [], .bi .sub (.e 12) (.c (.n 1))⟩, ⟨[], [], .cs .v (.n 0)⟩, ⟨[], [], .nop⟩] [none, none, some 2, none, none, some 14, some 13, none, none, none, none, none])
 (.block 2 (.loop ((.seq ((.seq (.reg [⟨[], [], .nop⟩, ⟨[], [], .nop⟩, ⟨[], [], .bi .lss (.e 5) (.e 6)⟩] [none, none, some 2, none, none, some 5, some 6, none, none, none, none, some 12])
   (.cond 11 (.skip) (.exit 2))))
   ((.seq (.block 3 (.reg [⟨[], [], .nop⟩, ⟨[], [], .nop⟩, ⟨[], [], .nop⟩, ⟨[], [], .nop⟩, ⟨[], [], .nop⟩, ⟨[], [], .nop⟩, ⟨[], [], .ix (.e 2) [] (.e 6)⟩, ⟨[], [], .nop⟩, ⟨[], [], .nop⟩, ⟨[], [], .nop⟩, ⟨[], [], .ix (.e 2) [] (.e 5)⟩, ⟨[], [], .nop⟩, ⟨[], [], .ix (.e 2) [] (.e 5)⟩, ⟨[], [], .up 2 [.e 5] (.e 12)⟩, ⟨[], [], .ix (.e 15) [] (.e 6)⟩, ⟨[], [], .up 15 [.e 6] (.e 13)⟩] [none, none, some 17, none, none, some 5, some 6, none, none, none, none, none]))
   (.reg [⟨[], [], .nop⟩, ⟨[], [], .bi .add (.e 5) (.c (.n 1))⟩, ⟨[], [], .nop⟩, ⟨[], [], .bi .sub (.e 6) (.c (.n 1))⟩, ⟨[], [], .nop⟩, ⟨[], [], .nop⟩] [none, none, some 2, none, none, some 12, some 13, none, none, none, none, none])))))))))
 ((.seq (.reg [⟨[], [], .nop⟩, ⟨[], [], .bs (.e 2)⟩, ⟨[], [], .nop⟩] [none, some 12, none, none, none, none, none, none, none, none, none, none])
 (.ret))))))))))))))⟩

/-- loop.example/g03401/impl.within -/
def ir_impl_within : IF := ⟨3, 4, [3],
 (.seq (.reg [⟨[], [], .cs .v (.b false)⟩] [some 0, some 1, some 2, none])
 ((.seq (.reg [⟨[], [], .nop⟩, ⟨[], [], .nop⟩, ⟨[], [], .bi .geq (.e 0) (.e 1)⟩, ⟨[], [], .nop⟩, ⟨[], [(4, true)], .cy (.e 0)⟩, ⟨[], [(4, true)], .cy (.e 2)⟩, ⟨[], [(4, true)], .bi .leq (.e 5) (.e 6)⟩, ⟨[], [], .pk (.e 4) (.e 7) (.c (.b false))⟩, ⟨[], [], .nop⟩] [none, none, none, some 8])
 (.ret))))⟩

end Go.Cat
