import Derived.Test.YtddhlibpgnnanaaCatFun
namespace Go.Cat
/-- loop.example/g03401/impl.CountWithin -/
def ir_impl_CountWithin : IF := ⟨2, 12, [2],
 (.seq (.reg [⟨[], [], .cs .v (.n 0)⟩] [some 0, some 1, none, none, none, none, none, none, none, none, none, none])
 ((.seq ((.seq (.reg [⟨[], [], .nop⟩, ⟨[], [], .ca 23 [(.e 0), (.c (.n 0)), (.c (.n 14))] 1⟩, ⟨[], [], .un .not (.e 12)⟩, ⟨[], [], .nop⟩, ⟨[], [(13, false)], .cy (.e 1)⟩, ⟨[], [(13, false)], .ca 23 [(.e 14), (.c (.n 0)), (.c (.n 15))] 1⟩, ⟨[], [(13, false)], .un .not (.e 15)⟩, ⟨[], [], .pk (.e 13) (.c (.b true)) (.e 16)⟩] [some 0, some 1, none, none, none, none, some 17, none, none, none, none, none])
 (.cond 6 ((.seq (.reg [⟨[], [], .cs .v (.n (-1))⟩] [none, none, some 12, none, none, none, none, none, none, none, none, none])
  (.ret))) (.skip))))
 ((.seq (.reg [⟨[], [], .nop⟩, ⟨[], [], .bi .add (.e 1) (.c (.n 2))⟩, ⟨[], [], .mk (.n 0) (.e 12) (.e 12)⟩, ⟨[], [], .nop⟩] [some 0, some 1, none, some 13, none, none, none, none, none, none, none, none])
 ((.seq (.reg [⟨[], [], .nop⟩, ⟨[], [], .ix (.e 3) [] (.c (.n 0))⟩, ⟨[], [], .up 3 [.k 0] (.c (.n 1))⟩] [some 0, some 1, none, some 13, none, none, none, none, none, none, none, none])
 ((.seq ((.seq (.reg [⟨[], [], .nop⟩, ⟨[], [], .bi .mul (.c (.n 2)) (.e 0)⟩, ⟨[], [], .cs .v (.n 0)⟩] [none, some 1, none, some 3, none, none, none, some 12, some 13, none, none, none])
 (.block 0 (.loop ((.seq (.reg [⟨[], [], .bi .lss (.e 8) (.e 7)⟩] [none, some 1, none, some 3, none, none, none, some 7, some 8, some 12, none, none])
   ((.seq (.cond 9 (.skip) (.exit 0))
   ((.seq (.block 1 ((.seq (.reg [⟨[], [], .nop⟩, ⟨[], [], .bi .add (.e 1) (.c (.n 2))⟩, ⟨[], [], .mk (.n 0) (.e 12) (.e 12)⟩, ⟨[], [], .nop⟩] [none, some 1, none, some 3, some 13, none, none, some 7, some 8, none, none, none])
    ((.seq ((.seq (.reg [⟨[], [], .cs .v (.n 0)⟩] [none, some 1, none, some 3, some 4, some 12, none, some 7, some 8, none, none, none])
    (.block 2 (.loop ((.seq ((.seq (.reg [⟨[], [], .nop⟩, ⟨[], [], .nop⟩, ⟨[], [], .bi .leq (.e 5) (.e 1)⟩] [none, some 1, none, some 3, some 4, some 5, none, some 7, some 8, none, some 12, none])
      (.cond 10 (.skip) (.exit 2))))
      ((.seq (.block 3 ((.seq (.reg [⟨[], [], .nop⟩, ⟨[], [], .nop⟩, ⟨[], [], .nop⟩, ⟨[], [], .nop⟩, ⟨[], [], .bi .add (.e 5) (.c (.n 1))⟩, ⟨[], [], .ix (.e 3) [] (.e 12)⟩, ⟨[], [], .nop⟩, ⟨[], [], .ix (.e 4) [] (.e 5)⟩, ⟨[], [], .up 4 [.e 5] (.e 13)⟩] [none, some 1, none, some 3, some 15, some 5, none, some 7, some 8, none, none, none])
       ((.seq (.reg [⟨[], [], .nop⟩, ⟨[], [], .bi .gtr (.e 5) (.c (.n 0))⟩] [none, some 1, none, some 3, some 4, some 5, none, some 7, some 8, none, none, some 12])
       (.cond 11 (.reg [⟨[], [], .nop⟩, ⟨[], [], .nop⟩, ⟨[], [], .nop⟩, ⟨[], [], .nop⟩, ⟨[], [], .ix (.e 4) [] (.e 5)⟩, ⟨[], [], .nop⟩, ⟨[], [], .nop⟩, ⟨[], [], .nop⟩, ⟨[], [], .bi .sub (.e 5) (.c (.n 1))⟩, ⟨[], [], .ix (.e 3) [] (.e 13)⟩, ⟨[], [], .nop⟩, ⟨[], [], .bi .add (.e 12) (.e 14)⟩, ⟨[], [], .ix (.e 4) [] (.e 5)⟩, ⟨[], [], .up 4 [.e 5] (.e 15)⟩] [none, some 1, none, some 3, some 17, some 5, none, some 7, some 8, none, none, none]) (.skip)))))))
      (.reg [⟨[], [], .nop⟩, ⟨[], [], .bi .add (.e 5) (.c (.n 1))⟩, ⟨[], [], .nop⟩] [none, some 1, none, some 3, some 4, some 12, none, some 7, some 8, none, none, none])))))))))
    (.reg [⟨[], [], .nop⟩, ⟨[], [], .nop⟩] [none, some 1, none, some 4, none, none, none, some 7, some 8, none, none, none]))))))
   (.reg [⟨[], [], .bi .add (.e 8) (.c (.n 1))⟩, ⟨[], [], .nop⟩] [none, some 1, none, some 3, none, none, none, some 7, some 12, none, none, none])))))))))))
 ((.seq (.reg [⟨[], [], .nop⟩, ⟨[], [], .ix (.e 3) [] (.c (.n 0))⟩, ⟨[], [], .nop⟩, ⟨[], [], .nop⟩] [none, none, some 12, none, none, none, none, none, none, none, none, none])
 (.ret))))))))))))⟩

/-- loop.example/g03401/impl.IsBad -/
def ir_impl_IsBad : IF := ⟨1, 2, [1],
 (.seq (.reg [⟨[], [], .cs .v (.b false)⟩] [some 0, none])
 ((.seq (.reg [⟨[], [], .nop⟩, ⟨[], [], .sn (.e 0)⟩, ⟨[], [], .bi .leq (.e 2) (.c (.n 16))⟩, ⟨[], [], .nop⟩, ⟨[], [(3, true)], .cy (.e 0)⟩, ⟨[], [(3, true)], .ca 65 [(.e 4)] 1⟩, ⟨[], [], .pk (.e 3) (.e 5) (.c (.b false))⟩, ⟨[], [], .nop⟩, ⟨[], [(6, true)], .cy (.e 0)⟩, ⟨[], [(6, true)], .ca 66 [(.e 7), (.c (.y 117))] 1⟩, ⟨[], [(6, true)], .cy (.e 0)⟩, ⟨[], [(6, true)], .ca 66 [(.e 9), (.c (.y 100))] 1⟩, ⟨[], [(6, true)], .bi .eql (.e 8) (.e 10)⟩, ⟨[], [], .pk (.e 6) (.e 11) (.c (.b false))⟩, ⟨[], [], .nop⟩, ⟨[], [(12, true)], .cy (.e 0)⟩, ⟨[], [(12, true)], .ca 67 [(.e 13)] 1⟩, ⟨[], [(12, true)], .un .not (.e 14)⟩, ⟨[], [], .pk (.e 12) (.e 15) (.c (.b false))⟩, ⟨[], [], .nop⟩] [none, some 16])
 (.ret))))⟩

/-- loop.example/g03401/impl.UnreflectWord -/
def ir_impl_UnreflectWord : IF := ⟨1, 4, [1, 2],
 (.seq (.reg [⟨[], [], .cs .v (.s [])⟩, ⟨[], [], .cs .v (.b false)⟩] [some 0, none, none, none])
 ((.seq ((.seq (.reg [⟨[], [], .nop⟩, ⟨[], [], .sn (.e 0)⟩, ⟨[], [], .bi .gtr (.e 4) (.c (.n 16))⟩, ⟨[], [], .nop⟩, ⟨[], [(5, false)], .cy (.e 0)⟩, ⟨[], [(5, false)], .ca 65 [(.e 6)] 1⟩, ⟨[], [(5, false)], .un .not (.e 7)⟩, ⟨[], [], .pk (.e 5) (.c (.b true)) (.e 8)⟩, ⟨[], [], .nop⟩, ⟨[], [(9, false)], .cy (.e 0)⟩, ⟨[], [(9, false)], .ca 66 [(.e 10), (.c (.y 100))] 1⟩, ⟨[], [(9, false)], .cy (.e 0)⟩, ⟨[], [(9, false)], .ca 66 [(.e 12), (.c (.y 117))] 1⟩, ⟨[], [(9, false)], .bi .add (.e 13) (.c (.n 2))⟩, ⟨[], [(9, false)], .bi .neq (.e 11) (.e 14)⟩, ⟨[], [], .pk (.e 9) (.c (.b true)) (.e 15)⟩] [some 0, none, none, some 16])
 (.cond 3 ((.seq (.reg [⟨[], [], .cs .v (.s [])⟩, ⟨[], [], .cs .v (.b false)⟩] [none, some 4, some 5, none])
  (.ret))) (.skip))))
 ((.seq (.reg [⟨[], [], .nop⟩, ⟨[], [], .ca 77 [(.e 0)] 1⟩, ⟨[], [], .nop⟩, ⟨[], [], .cs .v (.b true)⟩] [none, some 4, some 5, none])
 (.ret))))))⟩

/-- loop.example/g03401/impl.reflected -/
def ir_impl_reflected : IF := ⟨1, 8, [1],
 (.seq (.reg [⟨[], [], .cs .v (.s [])⟩] [some 0, none, none, none, none, none, none, none])
 ((.seq (.reg [⟨[], [], .cs .v (.n 0)⟩] [some 0, none, some 8, none, none, none, none, none])
 ((.seq ((.seq (.reg [⟨[], [], .cs .v (.n 0)⟩] [some 0, none, some 2, some 8, none, none, none, none])
 (.block 0 (.loop ((.seq ((.seq (.reg [⟨[], [], .nop⟩, ⟨[], [], .nop⟩, ⟨[], [], .sn (.e 0)⟩, ⟨[], [], .bi .lss (.e 3) (.e 8)⟩] [some 0, none, some 2, some 3, none, some 9, none, none])
   (.cond 5 (.skip) (.exit 0))))
   ((.seq (.block 1 ((.seq ((.seq (.reg [⟨[], [], .nop⟩, ⟨[], [], .nop⟩, ⟨[], [], .sx (.e 0) (.e 3)⟩, ⟨[], [], .bi .eql (.e 8) (.c (.y 117))⟩] [some 0, none, some 2, some 3, none, none, some 9, none])
    (.cond 6 (.reg [⟨[], [], .nop⟩, ⟨[], [], .bi .add (.e 2) (.c (.n 1))⟩, ⟨[], [], .nop⟩] [some 0, none, some 8, some 3, none, none, none, none]) (.reg [⟨[], [], .nop⟩, ⟨[], [], .bi .sub (.e 2) (.c (.n 1))⟩, ⟨[], [], .nop⟩] [some 0, none, some 8, some 3, none, none, none, none]))))
    ((.seq (.reg [⟨[], [], .nop⟩, ⟨[], [], .bi .eql (.e 2) (.c (.n (-1)))⟩] [some 0, none, some 2, some 3, none, none, none, some 8])
    (.cond 7 ((.seq (.reg [⟨[], [], .nop⟩, ⟨[], [], .nop⟩, ⟨[], [], .bi .add (.e 3) (.c (.n 1))⟩, ⟨[], [], .ss (.e 0) (some (.e 8)) none⟩, ⟨[], [], .ca 83 [(.e 9), (.c (.s [117, 100])), (.c (.s [100, 117]))] 2⟩, ⟨[], [], .nop⟩, ⟨[], [], .nop⟩, ⟨[], [], .nop⟩, ⟨[], [], .nop⟩, ⟨[], [], .nop⟩] [some 0, none, none, some 3, some 10, none, none, none])
     ((.seq (.reg [⟨[], [], .nop⟩, ⟨[], [], .nop⟩, ⟨[], [], .bi .add (.e 3) (.c (.n 1))⟩, ⟨[], [], .ss (.e 0) none (some (.e 8))⟩, ⟨[], [], .nop⟩, ⟨[], [], .bi .add (.e 9) (.e 4)⟩, ⟨[], [], .nop⟩] [none, some 10, none, none, none, none, none, none])
     (.ret))))) (.skip)))))))
   (.reg [⟨[], [], .nop⟩, ⟨[], [], .bi .add (.e 3) (.c (.n 1))⟩, ⟨[], [], .nop⟩] [some 0, none, some 2, some 8, none, none, none, none])))))))))
 ((.seq (.reg [⟨[], [], .nop⟩, ⟨[], [], .nop⟩] [none, some 0, none, none, none, none, none, none])
 (.ret))))))))⟩

end Go.Cat
