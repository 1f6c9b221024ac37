import Derived.Test.YtddhlibpgnnanaaCatFun
namespace Go.Cat
/-- loop.example/g03401/spec.CountWithin -/
def ir_spec_CountWithin : IF := ⟨2, 11, [2],
 (.seq (.reg [⟨[], [], .cs .v (.n 0)⟩] [some 0, some 1, none, none, none, none, none, none, none, none, none])
 ((.seq ((.seq (.reg [⟨[], [], .nop⟩, ⟨[], [], .ca 22 [(.e 0), (.c (.n 0)), (.c (.n 14))] 1⟩, ⟨[], [], .un .not (.e 11)⟩, ⟨[], [], .nop⟩, ⟨[], [(12, false)], .cy (.e 1)⟩, ⟨[], [(12, false)], .ca 22 [(.e 13), (.c (.n 0)), (.c (.n 15))] 1⟩, ⟨[], [(12, false)], .un .not (.e 14)⟩, ⟨[], [], .pk (.e 12) (.c (.b true)) (.e 15)⟩] [some 0, some 1, none, none, none, none, none, some 16, none, none, none])
 (.cond 7 ((.seq (.reg [⟨[], [], .cs .v (.n (-1))⟩] [none, none, some 11, none, none, none, none, none, none, none, none])
  (.ret))) (.skip))))
 ((.seq (.reg [⟨[], [], .cs .v (.n 0)⟩] [some 0, some 1, none, some 11, none, none, none, none, none, none, none])
 ((.seq ((.seq (.reg [⟨[], [], .nop⟩, ⟨[], [], .un .neg (.e 0)⟩, ⟨[], [], .bi .sub (.e 11) (.c (.n 1))⟩, ⟨[], [], .nop⟩] [some 0, some 1, none, some 3, some 12, none, none, none, none, none, none])
 (.block 0 (.loop ((.seq ((.seq (.reg [⟨[], [], .nop⟩, ⟨[], [], .nop⟩, ⟨[], [], .bi .add (.e 0) (.c (.n 1))⟩, ⟨[], [], .bi .leq (.e 4) (.e 11)⟩] [some 0, some 1, none, some 3, some 4, none, none, none, some 12, none, none])
   (.cond 8 (.skip) (.exit 0))))
   ((.seq (.block 1 ((.seq (.reg [⟨[], [], .nop⟩, ⟨[], [], .nop⟩, ⟨[], [], .nop⟩, ⟨[], [], .bi .add (.e 1) (.c (.n 2))⟩, ⟨[], [], .bi .mul (.e 4) (.e 11)⟩, ⟨[], [], .bi .add (.e 0) (.e 12)⟩, ⟨[], [], .nop⟩] [some 0, some 1, none, some 3, some 4, some 13, none, none, none, none, none])
    ((.seq (.reg [⟨[], [], .nop⟩, ⟨[], [], .nop⟩, ⟨[], [], .nop⟩, ⟨[], [], .bi .add (.e 1) (.c (.n 2))⟩, ⟨[], [], .bi .mul (.e 4) (.e 11)⟩, ⟨[], [], .bi .add (.e 0) (.e 12)⟩, ⟨[], [], .bi .add (.e 13) (.c (.n 1))⟩, ⟨[], [], .nop⟩] [some 0, some 1, none, some 3, some 4, some 5, some 14, none, none, none, none])
    ((.seq ((.seq (.reg [⟨[], [], .nop⟩, ⟨[], [], .nop⟩, ⟨[], [], .bi .mul (.c (.n 2)) (.e 0)⟩, ⟨[], [], .ca 22 [(.e 5), (.c (.n 0)), (.e 11)] 1⟩] [some 0, some 1, none, some 3, some 4, some 5, some 6, none, none, some 12, none])
    (.cond 9 (.reg [⟨[], [], .nop⟩, ⟨[], [], .nop⟩, ⟨[], [], .bi .mul (.c (.n 2)) (.e 0)⟩, ⟨[], [], .nop⟩, ⟨[], [], .ca 24 [(.e 11), (.e 5)] 1⟩, ⟨[], [], .bi .add (.e 3) (.e 12)⟩, ⟨[], [], .nop⟩] [some 0, some 1, none, some 13, some 4, none, some 6, none, none, none, none]) (.skip))))
    ((.seq (.reg [⟨[], [], .nop⟩, ⟨[], [], .nop⟩, ⟨[], [], .bi .mul (.c (.n 2)) (.e 0)⟩, ⟨[], [], .ca 22 [(.e 6), (.c (.n 0)), (.e 11)] 1⟩] [some 0, some 1, none, some 3, some 4, none, some 6, none, none, none, some 12])
    (.cond 10 (.reg [⟨[], [], .nop⟩, ⟨[], [], .nop⟩, ⟨[], [], .bi .mul (.c (.n 2)) (.e 0)⟩, ⟨[], [], .nop⟩, ⟨[], [], .ca 24 [(.e 11), (.e 6)] 1⟩, ⟨[], [], .bi .sub (.e 3) (.e 12)⟩, ⟨[], [], .nop⟩] [some 0, some 1, none, some 13, some 4, none, none, none, none, none, none]) (.skip)))))))))))
   (.reg [⟨[], [], .nop⟩, ⟨[], [], .bi .add (.e 4) (.c (.n 1))⟩, ⟨[], [], .nop⟩] [some 0, some 1, none, some 3, some 11, none, none, none, none, none, none])))))))))
 ((.seq (.reg [⟨[], [], .nop⟩, ⟨[], [], .nop⟩] [none, none, some 3, none, none, none, none, none, none, none, none])
 (.ret))))))))))⟩

/-- loop.example/g03401/spec.IsBad -/
def ir_spec_IsBad : IF := ⟨1, 5, [1],
 (.seq (.reg [⟨[], [], .cs .v (.b false)⟩] [some 0, none, none, none, none])
 ((.seq (.reg [⟨[], [], .nop⟩, ⟨[], [], .ca 63 [(.e 0)] 3⟩, ⟨[], [], .nop⟩, ⟨[], [], .nop⟩, ⟨[], [], .nop⟩, ⟨[], [], .nop⟩, ⟨[], [], .nop⟩, ⟨[], [], .nop⟩, ⟨[], [], .nop⟩] [some 0, none, some 5, some 6, some 7])
 ((.seq (.reg [⟨[], [], .nop⟩, ⟨[], [], .nop⟩, ⟨[], [(4, true)], .cy (.e 2)⟩, ⟨[], [(4, true)], .cy (.e 3)⟩, ⟨[], [(4, true)], .bi .eql (.e 5) (.e 6)⟩, ⟨[], [], .pk (.e 4) (.e 7) (.c (.b false))⟩, ⟨[], [], .nop⟩, ⟨[], [(8, true)], .cy (.e 0)⟩, ⟨[], [(8, true)], .ca 64 [(.e 9)] 1⟩, ⟨[], [(8, true)], .un .not (.e 10)⟩, ⟨[], [], .pk (.e 8) (.e 11) (.c (.b false))⟩, ⟨[], [], .nop⟩] [none, some 12, none, none, none])
 (.ret))))))⟩

/-- loop.example/g03401/spec.UnreflectWord -/
def ir_spec_UnreflectWord : IF := ⟨1, 7, [1, 2],
 (.seq (.reg [⟨[], [], .cs .v (.s [])⟩, ⟨[], [], .cs .v (.b false)⟩] [some 0, none, none, none, none, none, none])
 ((.seq (.reg [⟨[], [], .nop⟩, ⟨[], [], .ca 63 [(.e 0)] 3⟩, ⟨[], [], .nop⟩, ⟨[], [], .nop⟩, ⟨[], [], .nop⟩, ⟨[], [], .nop⟩, ⟨[], [], .nop⟩, ⟨[], [], .nop⟩, ⟨[], [], .nop⟩] [some 0, none, none, some 7, some 8, some 9, none])
 ((.seq ((.seq (.reg [⟨[], [], .nop⟩, ⟨[], [], .un .not (.e 5)⟩, ⟨[], [], .nop⟩, ⟨[], [(7, false)], .cy (.e 4)⟩, ⟨[], [(7, false)], .cy (.e 3)⟩, ⟨[], [(7, false)], .bi .add (.e 9) (.c (.n 2))⟩, ⟨[], [(7, false)], .bi .neq (.e 8) (.e 10)⟩, ⟨[], [], .pk (.e 7) (.c (.b true)) (.e 11)⟩] [some 0, none, none, none, none, none, some 12])
 (.cond 6 ((.seq (.reg [⟨[], [], .cs .v (.s [])⟩, ⟨[], [], .cs .v (.b false)⟩] [none, some 7, some 8, none, none, none, none])
  (.ret))) (.skip))))
 ((.seq (.reg [⟨[], [], .nop⟩, ⟨[], [], .ca 76 [(.e 0), (.c (.n (-1)))] 1⟩, ⟨[], [], .nop⟩, ⟨[], [], .cs .v (.b true)⟩] [none, some 7, some 8, none, none, none, none])
 (.ret))))))))⟩

/-- loop.example/g03401/spec.l29Flip -/
def ir_spec_l29Flip : IF := ⟨2, 11, [2],
 (.seq (.reg [⟨[], [], .cs .v (.s [])⟩] [some 0, some 1, none, none, none, none, none, none, none, none, none])
 ((.seq (.reg [⟨[], [], .cs .v (.n 0)⟩] [some 0, some 1, none, some 11, none, none, none, none, none, none, none])
 ((.seq (.reg [⟨[], [], .cs .v (.s [])⟩] [some 0, some 1, none, some 3, some 11, none, none, none, none, none, none])
 ((.seq (.reg [⟨[], [], .cs .v (.b false)⟩] [some 0, some 1, none, some 3, some 4, some 11, none, none, none, none, none])
 ((.seq ((.seq (.reg [⟨[], [], .cs .v (.n 0)⟩] [some 0, some 1, none, some 3, some 4, some 5, some 11, none, none, none, none])
 (.block 0 (.loop ((.seq ((.seq (.reg [⟨[], [], .nop⟩, ⟨[], [], .nop⟩, ⟨[], [], .sn (.e 0)⟩, ⟨[], [], .bi .lss (.e 6) (.e 11)⟩] [some 0, some 1, none, some 3, some 4, some 5, some 6, some 12, none, none, none])
   (.cond 7 (.skip) (.exit 0))))
   ((.seq (.block 1 ((.seq ((.seq (.reg [⟨[], [], .nop⟩] [some 0, some 1, none, some 3, some 4, some 5, some 6, none, some 5, none, none])
    (.cond 8 ((.seq ((.seq (.reg [⟨[], [], .nop⟩, ⟨[], [], .nop⟩, ⟨[], [], .sx (.e 0) (.e 6)⟩, ⟨[], [], .bi .eql (.e 11) (.c (.y 117))⟩] [some 0, some 1, none, some 3, some 4, some 5, some 6, none, none, some 12, none])
     (.cond 9 (.reg [⟨[], [], .nop⟩, ⟨[], [], .bi .add (.e 4) (.c (.s [100]))⟩, ⟨[], [], .nop⟩] [some 0, some 1, none, some 3, some 11, some 5, some 6, none, none, none, none]) (.reg [⟨[], [], .nop⟩, ⟨[], [], .bi .add (.e 4) (.c (.s [117]))⟩, ⟨[], [], .nop⟩] [some 0, some 1, none, some 3, some 11, some 5, some 6, none, none, none, none]))))
     (.exit 1))) (.skip))))
    ((.seq (.reg [⟨[], [], .nop⟩, ⟨[], [], .nop⟩, ⟨[], [], .nop⟩, ⟨[], [], .nop⟩, ⟨[], [], .bi .add (.e 6) (.c (.n 1))⟩, ⟨[], [], .ss (.e 0) (some (.e 6)) (some (.e 11))⟩, ⟨[], [], .bi .add (.e 4) (.e 12)⟩, ⟨[], [], .nop⟩] [some 0, some 1, none, some 3, some 13, none, some 6, none, none, none, none])
    ((.seq ((.seq (.reg [⟨[], [], .nop⟩, ⟨[], [], .nop⟩, ⟨[], [], .sx (.e 0) (.e 6)⟩, ⟨[], [], .bi .eql (.e 11) (.c (.y 117))⟩] [some 0, some 1, none, some 3, some 4, none, some 6, none, none, none, some 12])
    (.cond 10 (.reg [⟨[], [], .nop⟩, ⟨[], [], .bi .add (.e 3) (.c (.n 1))⟩, ⟨[], [], .nop⟩] [some 0, some 1, none, some 11, some 4, none, some 6, none, none, none, none]) (.reg [⟨[], [], .nop⟩, ⟨[], [], .bi .sub (.e 3) (.c (.n 1))⟩, ⟨[], [], .nop⟩] [some 0, some 1, none, some 11, some 4, none, some 6, none, none, none, none]))))
    (.reg [⟨[], [], .nop⟩, ⟨[], [], .nop⟩, ⟨[], [], .bi .eql (.e 3) (.e 1)⟩, ⟨[], [], .nop⟩] [some 0, some 1, none, some 3, some 4, some 11, some 6, none, none, none, none]))))))))
   (.reg [⟨[], [], .nop⟩, ⟨[], [], .bi .add (.e 6) (.c (.n 1))⟩, ⟨[], [], .nop⟩] [some 0, some 1, none, some 3, some 4, some 5, some 11, none, none, none, none])))))))))
 ((.seq (.reg [⟨[], [], .nop⟩, ⟨[], [], .nop⟩] [none, none, some 4, none, none, none, none, none, none, none, none])
 (.ret))))))))))))⟩

/-- loop.example/g03401/spec.l29Word -/
def ir_spec_l29Word : IF := ⟨1, 11, [1, 2, 3],
 (.seq (.reg [⟨[], [], .cs .v (.n 0)⟩, ⟨[], [], .cs .v (.n 0)⟩, ⟨[], [], .cs .v (.b false)⟩] [some 0, none, none, none, none, none, none, none, none, none, none])
 ((.seq (.reg [⟨[], [], .cs .v (.n 0)⟩] [some 0, none, none, none, some 11, none, none, none, none, none, none])
 ((.seq (.reg [⟨[], [], .cs .v (.n 0)⟩] [some 0, none, none, none, some 4, some 11, none, none, none, none, none])
 ((.seq ((.seq (.reg [⟨[], [], .cs .v (.n 0)⟩] [some 0, none, none, none, some 4, some 5, some 11, none, none, none, none])
 (.block 0 (.loop ((.seq ((.seq (.reg [⟨[], [], .nop⟩, ⟨[], [], .nop⟩, ⟨[], [], .sn (.e 0)⟩, ⟨[], [], .bi .lss (.e 6) (.e 11)⟩] [some 0, none, none, none, some 4, some 5, some 6, some 12, none, none, none])
   (.cond 7 (.skip) (.exit 0))))
   ((.seq (.block 1 ((.seq (.reg [⟨[], [], .nop⟩, ⟨[], [], .nop⟩, ⟨[], [], .sx (.e 0) (.e 6)⟩] [some 0, none, none, none, some 4, some 5, some 6, none, some 11, none, none])
    (.block 2 ((.seq (.reg [⟨[], [], .bi .eql (.e 8) (.c (.y 117))⟩, ⟨[], [], .nop⟩] [some 0, none, none, none, some 4, some 5, some 6, none, some 8, some 11, none])
     (.cond 9 (.reg [⟨[], [], .nop⟩, ⟨[], [], .bi .add (.e 4) (.c (.n 1))⟩, ⟨[], [], .nop⟩] [some 0, none, none, none, some 11, some 5, some 6, none, none, none, none]) ((.seq (.reg [⟨[], [], .bi .eql (.e 8) (.c (.y 100))⟩, ⟨[], [], .nop⟩] [some 0, none, none, none, some 4, some 5, some 6, none, none, none, some 11])
      (.cond 10 (.reg [⟨[], [], .nop⟩, ⟨[], [], .bi .add (.e 5) (.c (.n 1))⟩, ⟨[], [], .nop⟩] [some 0, none, none, none, some 4, some 11, some 6, none, none, none, none]) ((.seq (.reg [⟨[], [], .cs .v (.n 0)⟩, ⟨[], [], .cs .v (.n 0)⟩, ⟨[], [], .cs .v (.b false)⟩] [none, some 11, some 12, some 13, none, none, none, none, none, none, none])
       (.ret)))))))))))))
   (.reg [⟨[], [], .nop⟩, ⟨[], [], .bi .add (.e 6) (.c (.n 1))⟩, ⟨[], [], .nop⟩] [some 0, none, none, none, some 4, some 5, some 11, none, none, none, none])))))))))
 ((.seq (.reg [⟨[], [], .nop⟩, ⟨[], [], .nop⟩, ⟨[], [], .nop⟩, ⟨[], [], .sn (.e 0)⟩, ⟨[], [], .bi .leq (.e 11) (.c (.n 16))⟩, ⟨[], [], .nop⟩, ⟨[], [], .nop⟩, ⟨[], [], .nop⟩] [none, some 4, some 5, some 12, none, none, none, none, none, none, none])
 (.ret))))))))))⟩

end Go.Cat
