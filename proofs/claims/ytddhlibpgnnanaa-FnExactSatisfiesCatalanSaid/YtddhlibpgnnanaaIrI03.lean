import Derived.Test.YtddhlibpgnnanaaCatFun
namespace Go.Cat
/-- loop.example/g03401/impl.BallotNumber -/
def ir_impl_BallotNumber : IF := ⟨2, 15, [2],
 (.seq (.reg [⟨[], [], .cs .v (.n 0)⟩] [some 0, some 1, none, none, none, none, none, none, none, none, none, none, none, none, none])
 ((.seq ((.seq (.reg [⟨[], [], .nop⟩, ⟨[], [], .ca 23 [(.e 0), (.c (.n 0)), (.c (.n 15))] 1⟩, ⟨[], [], .un .not (.e 15)⟩, ⟨[], [], .nop⟩, ⟨[], [(16, false)], .cy (.e 1)⟩, ⟨[], [(16, false)], .cy (.e 0)⟩, ⟨[], [(16, false)], .ca 23 [(.e 17), (.e 18), (.c (.n 15))] 1⟩, ⟨[], [(16, false)], .un .not (.e 19)⟩, ⟨[], [], .pk (.e 16) (.c (.b true)) (.e 20)⟩] [some 0, some 1, none, none, none, none, none, none, some 21, none, none, none, none, none, none])
 (.cond 8 ((.seq (.reg [⟨[], [], .cs .v (.n 0)⟩] [none, none, some 15, none, none, none, none, none, none, none, none, none, none, none, none])
  (.ret))) (.skip))))
 ((.seq (.reg [⟨[], [], .nop⟩, ⟨[], [], .bi .add (.e 1) (.c (.n 1))⟩, ⟨[], [], .mk (.n 0) (.e 15) (.e 15)⟩, ⟨[], [], .nop⟩] [some 0, some 1, none, some 16, none, none, none, none, none, none, none, none, none, none, none])
 ((.seq ((.seq (.reg [⟨[], [], .nop⟩, ⟨[], [], .ln (.e 3) []⟩, ⟨[], [], .cs .v (.n 0)⟩] [some 0, some 1, none, some 3, none, none, none, none, none, some 15, some 16, none, none, none, none])
 (.block 0 (.loop ((.seq (.reg [⟨[], [], .bi .lss (.e 10) (.e 9)⟩] [some 0, some 1, none, some 3, none, none, none, none, none, some 9, some 10, some 15, none, none, none])
   ((.seq (.cond 11 (.skip) (.exit 0))
   ((.seq (.block 1 ((.seq (.reg [⟨[], [], .nop⟩, ⟨[], [], .nop⟩] [some 0, some 1, none, some 3, some 10, none, none, none, none, some 9, some 10, none, none, none, none])
    (.reg [⟨[], [], .nop⟩, ⟨[], [], .nop⟩, ⟨[], [], .ix (.e 3) [] (.e 4)⟩, ⟨[], [], .up 3 [.e 4] (.c (.n 1))⟩] [some 0, some 1, none, some 16, none, none, none, none, none, some 9, some 10, none, none, none, none]))))
   (.reg [⟨[], [], .bi .add (.e 10) (.c (.n 1))⟩, ⟨[], [], .nop⟩] [some 0, some 1, none, some 3, none, none, none, none, none, some 9, some 15, none, none, none, none])))))))))))
 ((.seq ((.seq (.reg [⟨[], [], .cs .v (.n 1)⟩] [some 0, some 1, none, some 3, none, some 15, none, none, none, none, none, none, none, none, none])
 (.block 2 (.loop ((.seq ((.seq (.reg [⟨[], [], .nop⟩, ⟨[], [], .nop⟩, ⟨[], [], .bi .leq (.e 5) (.e 0)⟩] [some 0, some 1, none, some 3, none, some 5, none, none, none, none, none, none, some 15, none, none])
   (.cond 12 (.skip) (.exit 2))))
   ((.seq (.block 3 ((.seq (.reg [⟨[], [], .nop⟩, ⟨[], [], .bi .add (.e 1) (.c (.n 1))⟩, ⟨[], [], .mk (.n 0) (.e 15) (.e 15)⟩, ⟨[], [], .nop⟩] [some 0, some 1, none, some 3, none, some 5, some 16, none, none, none, none, none, none, none, none])
    ((.seq ((.seq (.reg [⟨[], [], .nop⟩, ⟨[], [], .nop⟩] [some 0, some 1, none, some 3, none, some 5, some 6, some 5, none, none, none, none, none, none, none])
    (.block 4 (.loop ((.seq ((.seq (.reg [⟨[], [], .nop⟩, ⟨[], [], .nop⟩, ⟨[], [], .bi .leq (.e 7) (.e 1)⟩] [some 0, some 1, none, some 3, none, some 5, some 6, some 7, none, none, none, none, none, some 15, none])
      (.cond 13 (.skip) (.exit 4))))
      ((.seq (.block 5 ((.seq (.reg [⟨[], [], .nop⟩, ⟨[], [], .nop⟩, ⟨[], [], .nop⟩, ⟨[], [], .nop⟩, ⟨[], [], .ix (.e 3) [] (.e 7)⟩, ⟨[], [], .nop⟩, ⟨[], [], .ix (.e 6) [] (.e 7)⟩, ⟨[], [], .up 6 [.e 7] (.e 15)⟩] [some 0, some 1, none, some 3, none, some 5, some 17, some 7, none, none, none, none, none, none, none])
       ((.seq (.reg [⟨[], [], .nop⟩, ⟨[], [], .nop⟩, ⟨[], [], .bi .gtr (.e 7) (.e 5)⟩] [some 0, some 1, none, some 3, none, some 5, some 6, some 7, none, none, none, none, none, none, some 15])
       (.cond 14 (.reg [⟨[], [], .nop⟩, ⟨[], [], .nop⟩, ⟨[], [], .nop⟩, ⟨[], [], .nop⟩, ⟨[], [], .ix (.e 6) [] (.e 7)⟩, ⟨[], [], .nop⟩, ⟨[], [], .nop⟩, ⟨[], [], .nop⟩, ⟨[], [], .bi .sub (.e 7) (.c (.n 1))⟩, ⟨[], [], .ix (.e 6) [] (.e 16)⟩, ⟨[], [], .nop⟩, ⟨[], [], .bi .add (.e 15) (.e 17)⟩, ⟨[], [], .ix (.e 6) [] (.e 7)⟩, ⟨[], [], .up 6 [.e 7] (.e 18)⟩] [some 0, some 1, none, some 3, none, some 5, some 20, some 7, none, none, none, none, none, none, none]) (.skip)))))))
      (.reg [⟨[], [], .nop⟩, ⟨[], [], .bi .add (.e 7) (.c (.n 1))⟩, ⟨[], [], .nop⟩] [some 0, some 1, none, some 3, none, some 5, some 6, some 15, none, none, none, none, none, none, none])))))))))
    (.reg [⟨[], [], .nop⟩, ⟨[], [], .nop⟩] [some 0, some 1, none, some 6, none, some 5, none, none, none, none, none, none, none, none, none]))))))
   (.reg [⟨[], [], .nop⟩, ⟨[], [], .bi .add (.e 5) (.c (.n 1))⟩, ⟨[], [], .nop⟩] [some 0, some 1, none, some 3, none, some 15, none, none, none, none, none, none, none, none, none])))))))))
 ((.seq (.reg [⟨[], [], .nop⟩, ⟨[], [], .nop⟩, ⟨[], [], .ix (.e 3) [] (.e 1)⟩, ⟨[], [], .nop⟩, ⟨[], [], .nop⟩] [none, none, some 15, none, none, none, none, none, none, none, none, none, none, none, none])
 (.ret))))))))))))⟩

/-- loop.example/g03401/impl.CatalanNumber -/
def ir_impl_CatalanNumber : IF := ⟨1, 3, [1],
 (.seq (.reg [⟨[], [], .cs .v (.n 0)⟩] [some 0, none, none])
 ((.seq ((.seq (.reg [⟨[], [], .nop⟩, ⟨[], [], .ca 23 [(.e 0), (.c (.n 0)), (.c (.n 15))] 1⟩, ⟨[], [], .un .not (.e 3)⟩] [some 0, none, some 4])
 (.cond 2 ((.seq (.reg [⟨[], [], .cs .v (.n (-1))⟩] [none, some 3, none])
  (.ret))) (.skip))))
 ((.seq (.reg [⟨[], [], .nop⟩, ⟨[], [], .nop⟩, ⟨[], [], .ca 27 [(.e 0), (.e 0)] 1⟩, ⟨[], [], .nop⟩] [none, some 3, none])
 (.ret))))))⟩

/-- loop.example/g03401/impl.choose -/
def ir_impl_choose : IF := ⟨2, 7, [2],
 (.seq (.reg [⟨[], [], .cs .v (.n 0)⟩] [some 0, some 1, none, none, none, none, none])
 ((.seq ((.seq (.reg [⟨[], [], .nop⟩, ⟨[], [], .bi .lss (.e 1) (.c (.n 0))⟩, ⟨[], [], .nop⟩, ⟨[], [(7, false)], .cy (.e 1)⟩, ⟨[], [(7, false)], .cy (.e 0)⟩, ⟨[], [(7, false)], .bi .gtr (.e 8) (.e 9)⟩, ⟨[], [], .pk (.e 7) (.c (.b true)) (.e 10)⟩] [some 0, some 1, none, none, none, some 11, none])
 (.cond 5 ((.seq (.reg [⟨[], [], .cs .v (.n 0)⟩] [none, none, some 7, none, none, none, none])
  (.ret))) (.skip))))
 ((.seq (.reg [⟨[], [], .cs .v (.n 1)⟩] [some 0, some 1, none, some 7, none, none, none])
 ((.seq ((.seq (.reg [⟨[], [], .cs .v (.n 1)⟩] [some 0, some 1, none, some 3, some 7, none, none])
 (.block 0 (.loop ((.seq ((.seq (.reg [⟨[], [], .nop⟩, ⟨[], [], .nop⟩, ⟨[], [], .bi .leq (.e 4) (.e 1)⟩] [some 0, some 1, none, some 3, some 4, none, some 7])
   (.cond 6 (.skip) (.exit 0))))
   ((.seq (.block 1 (.reg [⟨[], [], .nop⟩, ⟨[], [], .nop⟩, ⟨[], [], .nop⟩, ⟨[], [], .bi .sub (.e 0) (.e 1)⟩, ⟨[], [], .nop⟩, ⟨[], [], .bi .add (.e 7) (.e 4)⟩, ⟨[], [], .bi .mul (.e 3) (.e 8)⟩, ⟨[], [], .nop⟩, ⟨[], [], .bi .quo (.e 9) (.e 4)⟩, ⟨[], [], .nop⟩] [some 0, some 1, none, some 10, some 4, none, none]))
   (.reg [⟨[], [], .nop⟩, ⟨[], [], .bi .add (.e 4) (.c (.n 1))⟩, ⟨[], [], .nop⟩] [some 0, some 1, none, some 3, some 7, none, none])))))))))
 ((.seq (.reg [⟨[], [], .nop⟩, ⟨[], [], .nop⟩] [none, none, some 3, none, none, none, none])
 (.ret))))))))))⟩

end Go.Cat
