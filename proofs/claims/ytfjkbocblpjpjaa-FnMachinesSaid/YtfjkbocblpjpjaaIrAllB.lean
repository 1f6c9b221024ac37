/-
  Texts of the little language.
-/
import Derived.Test.YtfjkbocblpjpjaaCatThree
namespace Go.Cat
/-- loop.example/g03401/impl.DyckOfMotzkin -/
def ir_impl_DyckOfMotzkin : IF := ⟨[], 1, 10, [1, 2],
 (.seq (.reg [⟨[], [], .cs .v (.s [])⟩, ⟨[], [], .cs .v (.b false)⟩] [some 0, none, none, none, none, none, none, none, none, none])
 ((.seq ((.seq (.reg [⟨[], [], .nop⟩, ⟨[], [], .ca 257 [(.e 0)] 1⟩, ⟨[], [], .un .not (.e 10)⟩, ⟨[], [], .nop⟩, ⟨[], [(11, false)], .cy (.e 0)⟩, ⟨[], [(11, false)], .sn (.e 12)⟩, ⟨[], [(11, false)], .bi .gtr (.e 13) (.c (.n 8))⟩, ⟨[], [], .pk (.e 11) (.c (.b true)) (.e 14)⟩] [some 0, none, none, none, none, some 15, none, none, none, none])
 (.cond 5 ((.seq (.reg [⟨[], [], .cs .v (.s [])⟩, ⟨[], [], .cs .v (.b false)⟩] [none, some 10, some 11, none, none, none, none, none, none, none])
  (.ret))) (.skip))))
 ((.seq (.reg [⟨[], [], .cs .v (.s [])⟩] [some 0, none, none, some 10, none, none, none, none, none, none])
 ((.seq ((.seq (.reg [⟨[], [], .cs .v (.n 0)⟩] [some 0, none, none, some 3, some 10, none, none, none, none, none])
 (.block 0 (.loop ((.seq ((.seq (.reg [⟨[], [], .nop⟩, ⟨[], [], .nop⟩, ⟨[], [], .sn (.e 0)⟩, ⟨[], [], .bi .lss (.e 4) (.e 10)⟩] [some 0, none, none, some 3, some 4, none, some 11, none, none, none])
   (.cond 6 (.skip) (.exit 0))))
   ((.seq (.block 1 ((.seq (.reg [⟨[], [], .nop⟩, ⟨[], [], .nop⟩, ⟨[], [], .sx (.e 0) (.e 4)⟩] [some 0, none, none, some 3, some 4, none, none, some 10, none, none])
    (.block 2 ((.seq (.reg [⟨[], [], .bi .eql (.e 7) (.c (.y 117))⟩, ⟨[], [], .nop⟩] [some 0, none, none, some 3, some 4, none, none, some 7, some 10, none])
     (.cond 8 (.reg [⟨[], [], .nop⟩, ⟨[], [], .bi .add (.e 3) (.c (.s [117, 117]))⟩, ⟨[], [], .nop⟩] [some 0, none, none, some 10, some 4, none, none, none, none, none]) ((.seq (.reg [⟨[], [], .bi .eql (.e 7) (.c (.y 100))⟩, ⟨[], [], .nop⟩] [some 0, none, none, some 3, some 4, none, none, none, none, some 10])
      (.cond 9 (.reg [⟨[], [], .nop⟩, ⟨[], [], .bi .add (.e 3) (.c (.s [100, 100]))⟩, ⟨[], [], .nop⟩] [some 0, none, none, some 10, some 4, none, none, none, none, none]) (.reg [⟨[], [], .nop⟩, ⟨[], [], .bi .add (.e 3) (.c (.s [117, 100]))⟩, ⟨[], [], .nop⟩] [some 0, none, none, some 10, some 4, none, none, none, none, none])))))))))))
   (.reg [⟨[], [], .nop⟩, ⟨[], [], .bi .add (.e 4) (.c (.n 1))⟩, ⟨[], [], .nop⟩] [some 0, none, none, some 3, some 10, none, none, none, none, none])))))))))
 ((.seq (.reg [⟨[], [], .nop⟩, ⟨[], [], .nop⟩, ⟨[], [], .cs .v (.b true)⟩] [none, some 3, some 10, none, none, none, none, none, none, none])
 (.ret))))))))))⟩

/-- loop.example/g03401/impl.IsMotzkin -/
def ir_impl_IsMotzkin : IF := ⟨[], 1, 2, [1],
 (.seq (.reg [⟨[], [], .cs .v (.b false)⟩] [some 0, none])
 ((.seq (.reg [⟨[], [], .nop⟩, ⟨[], [], .sn (.e 0)⟩, ⟨[], [], .bi .leq (.e 2) (.c (.n 12))⟩, ⟨[], [], .nop⟩, ⟨[], [(3, true)], .cy (.e 0)⟩, ⟨[], [(3, true)], .ca 311 [(.e 4)] 1⟩, ⟨[], [], .pk (.e 3) (.e 5) (.c (.b false))⟩, ⟨[], [], .nop⟩] [none, some 6])
 (.ret))))⟩

/-- loop.example/g03401/impl.LevelSteps -/
def ir_impl_LevelSteps : IF := ⟨[], 1, 3, [1],
 (.seq (.reg [⟨[], [], .cs .v (.n 0)⟩] [some 0, none, none])
 ((.seq ((.seq (.reg [⟨[], [], .nop⟩, ⟨[], [], .ca 257 [(.e 0)] 1⟩, ⟨[], [], .un .not (.e 3)⟩] [some 0, none, some 4])
 (.cond 2 ((.seq (.reg [⟨[], [], .cs .v (.n (-1))⟩] [none, some 3, none])
  (.ret))) (.skip))))
 ((.seq (.reg [⟨[], [], .nop⟩, ⟨[], [], .ca 66 [(.e 0), (.c (.y 108))] 1⟩, ⟨[], [], .nop⟩] [none, some 3, none])
 (.ret))))))⟩

/-- loop.example/g03401/impl.MotzkinNumber -/
def ir_impl_MotzkinNumber : IF := ⟨[], 1, 11, [1],
 (.seq (.reg [⟨[], [], .cs .v (.n 0)⟩] [some 0, none, none, none, none, none, none, none, none, none, none])
 ((.seq ((.seq (.reg [⟨[], [], .nop⟩, ⟨[], [], .ca 23 [(.e 0), (.c (.n 0)), (.c (.n 20))] 1⟩, ⟨[], [], .un .not (.e 11)⟩] [some 0, none, none, none, none, some 12, none, none, none, none, none])
 (.cond 5 ((.seq (.reg [⟨[], [], .cs .v (.n (-1))⟩] [none, some 11, none, none, none, none, none, none, none, none, none])
  (.ret))) (.skip))))
 ((.seq (.reg [⟨[], [], .nop⟩, ⟨[], [], .bi .add (.e 0) (.c (.n 2))⟩, ⟨[], [], .mk (.n 0) (.e 11) (.e 11)⟩, ⟨[], [], .nop⟩] [some 0, none, some 12, none, none, none, none, none, none, none, none])
 ((.seq (.reg [⟨[], [], .nop⟩, ⟨[], [], .ix (.e 2) [] (.c (.n 0))⟩, ⟨[], [], .up 2 [.k 0] (.c (.n 1))⟩] [some 0, none, some 12, none, none, none, none, none, none, none, none])
 ((.seq ((.seq (.reg [⟨[], [], .nop⟩, ⟨[], [], .cs .v (.n 0)⟩] [some 0, none, some 2, none, none, none, some 0, some 11, none, none, none])
 (.block 0 (.loop ((.seq (.reg [⟨[], [], .bi .lss (.e 7) (.e 6)⟩] [some 0, none, some 2, none, none, none, some 6, some 7, some 11, none, none])
   ((.seq (.cond 8 (.skip) (.exit 0))
   ((.seq (.block 1 ((.seq (.reg [⟨[], [], .nop⟩, ⟨[], [], .bi .add (.e 0) (.c (.n 2))⟩, ⟨[], [], .mk (.n 0) (.e 11) (.e 11)⟩, ⟨[], [], .nop⟩] [some 0, none, some 2, some 12, none, none, some 6, some 7, none, none, none])
    ((.seq ((.seq (.reg [⟨[], [], .cs .v (.n 0)⟩] [some 0, none, some 2, some 3, some 11, none, some 6, some 7, none, none, none])
    (.block 2 (.loop ((.seq ((.seq (.reg [⟨[], [], .nop⟩, ⟨[], [], .nop⟩, ⟨[], [], .bi .leq (.e 4) (.e 0)⟩] [some 0, none, some 2, some 3, some 4, none, some 6, some 7, none, some 11, none])
      (.cond 9 (.skip) (.exit 2))))
      ((.seq (.block 3 ((.seq (.reg [⟨[], [], .nop⟩, ⟨[], [], .nop⟩, ⟨[], [], .nop⟩, ⟨[], [], .nop⟩, ⟨[], [], .ix (.e 2) [] (.e 4)⟩, ⟨[], [], .nop⟩, ⟨[], [], .nop⟩, ⟨[], [], .nop⟩, ⟨[], [], .bi .add (.e 4) (.c (.n 1))⟩, ⟨[], [], .ix (.e 2) [] (.e 12)⟩, ⟨[], [], .nop⟩, ⟨[], [], .bi .add (.e 11) (.e 13)⟩, ⟨[], [], .ix (.e 3) [] (.e 4)⟩, ⟨[], [], .up 3 [.e 4] (.e 14)⟩] [some 0, none, some 2, some 16, some 4, none, some 6, some 7, none, none, none])
       ((.seq (.reg [⟨[], [], .nop⟩, ⟨[], [], .bi .gtr (.e 4) (.c (.n 0))⟩] [some 0, none, some 2, some 3, some 4, none, some 6, some 7, none, none, some 11])
       (.cond 10 (.reg [⟨[], [], .nop⟩, ⟨[], [], .nop⟩, ⟨[], [], .nop⟩, ⟨[], [], .nop⟩, ⟨[], [], .ix (.e 3) [] (.e 4)⟩, ⟨[], [], .nop⟩, ⟨[], [], .nop⟩, ⟨[], [], .nop⟩, ⟨[], [], .bi .sub (.e 4) (.c (.n 1))⟩, ⟨[], [], .ix (.e 2) [] (.e 12)⟩, ⟨[], [], .nop⟩, ⟨[], [], .bi .add (.e 11) (.e 13)⟩, ⟨[], [], .ix (.e 3) [] (.e 4)⟩, ⟨[], [], .up 3 [.e 4] (.e 14)⟩] [some 0, none, some 2, some 16, some 4, none, some 6, some 7, none, none, none]) (.skip)))))))
      (.reg [⟨[], [], .nop⟩, ⟨[], [], .bi .add (.e 4) (.c (.n 1))⟩, ⟨[], [], .nop⟩] [some 0, none, some 2, some 3, some 11, none, some 6, some 7, none, none, none])))))))))
    (.reg [⟨[], [], .nop⟩, ⟨[], [], .nop⟩] [some 0, none, some 3, none, none, none, some 6, some 7, none, none, none]))))))
   (.reg [⟨[], [], .bi .add (.e 7) (.c (.n 1))⟩, ⟨[], [], .nop⟩] [some 0, none, some 2, none, none, none, some 6, some 11, none, none, none])))))))))))
 ((.seq (.reg [⟨[], [], .nop⟩, ⟨[], [], .ix (.e 2) [] (.c (.n 0))⟩, ⟨[], [], .nop⟩, ⟨[], [], .nop⟩] [none, some 11, none, none, none, none, none, none, none, none, none])
 (.ret))))))))))))⟩

/-- loop.example/g03401/impl.MotzkinOf -/
def ir_impl_MotzkinOf : IF := ⟨[], 1, 11, [1, 2],
 (.seq (.reg [⟨[], [], .cs .v (.s [])⟩, ⟨[], [], .cs .v (.b false)⟩] [some 0, none, none, none, none, none, none, none, none, none, none])
 ((.seq ((.seq (.reg [⟨[], [], .nop⟩, ⟨[], [], .ca 67 [(.e 0)] 1⟩, ⟨[], [], .un .not (.e 11)⟩] [some 0, none, none, none, none, some 12, none, none, none, none, none])
 (.cond 5 ((.seq (.reg [⟨[], [], .cs .v (.s [])⟩, ⟨[], [], .cs .v (.b false)⟩] [none, some 11, some 12, none, none, none, none, none, none, none, none])
  (.ret))) (.skip))))
 ((.seq (.reg [⟨[], [], .cs .v (.s [])⟩] [some 0, none, none, some 11, none, none, none, none, none, none, none])
 ((.seq ((.seq (.reg [⟨[], [], .cs .v (.n 0)⟩] [some 0, none, none, some 3, some 11, none, none, none, none, none, none])
 (.block 0 (.loop ((.seq ((.seq (.reg [⟨[], [], .nop⟩, ⟨[], [], .nop⟩, ⟨[], [], .sn (.e 0)⟩, ⟨[], [], .bi .lss (.e 4) (.e 11)⟩] [some 0, none, none, some 3, some 4, none, some 12, none, none, none, none])
   (.cond 6 (.skip) (.exit 0))))
   ((.seq (.block 1 ((.seq (.reg [⟨[], [], .nop⟩, ⟨[], [], .nop⟩, ⟨[], [], .nop⟩, ⟨[], [], .bi .add (.e 4) (.c (.n 2))⟩, ⟨[], [], .ss (.e 0) (some (.e 4)) (some (.e 11))⟩] [some 0, none, none, some 3, some 4, none, none, some 12, none, none, none])
    (.block 2 ((.seq (.reg [⟨[], [], .bi .eql (.e 7) (.c (.s [117, 117]))⟩, ⟨[], [], .nop⟩] [some 0, none, none, some 3, some 4, none, none, some 7, some 11, none, none])
     (.cond 8 (.reg [⟨[], [], .nop⟩, ⟨[], [], .bi .add (.e 3) (.c (.s [117]))⟩, ⟨[], [], .nop⟩] [some 0, none, none, some 11, some 4, none, none, none, none, none, none]) ((.seq (.reg [⟨[], [], .bi .eql (.e 7) (.c (.s [100, 100]))⟩, ⟨[], [], .nop⟩] [some 0, none, none, some 3, some 4, none, none, some 7, none, some 11, none])
      (.cond 9 (.reg [⟨[], [], .nop⟩, ⟨[], [], .bi .add (.e 3) (.c (.s [100]))⟩, ⟨[], [], .nop⟩] [some 0, none, none, some 11, some 4, none, none, none, none, none, none]) ((.seq (.reg [⟨[], [], .bi .eql (.e 7) (.c (.s [117, 100]))⟩, ⟨[], [], .nop⟩] [some 0, none, none, some 3, some 4, none, none, none, none, none, some 11])
       (.cond 10 (.reg [⟨[], [], .nop⟩, ⟨[], [], .bi .add (.e 3) (.c (.s [108]))⟩, ⟨[], [], .nop⟩] [some 0, none, none, some 11, some 4, none, none, none, none, none, none]) ((.seq (.reg [⟨[], [], .cs .v (.s [])⟩, ⟨[], [], .cs .v (.b false)⟩] [none, some 11, some 12, none, none, none, none, none, none, none, none])
        (.ret))))))))))))))))
   (.reg [⟨[], [], .nop⟩, ⟨[], [], .bi .add (.e 4) (.c (.n 2))⟩, ⟨[], [], .nop⟩] [some 0, none, none, some 3, some 11, none, none, none, none, none, none])))))))))
 ((.seq (.reg [⟨[], [], .nop⟩, ⟨[], [], .nop⟩, ⟨[], [], .cs .v (.b true)⟩] [none, some 3, some 11, none, none, none, none, none, none, none, none])
 (.ret))))))))))⟩

/-- loop.example/g03401/impl.MotzkinPaths -/
def ir_impl_MotzkinPaths : IF := ⟨[], 1, 7, [2, 3],
 (.seq (.reg [⟨[], [], .bg 0 [((.e 0), 0)]⟩, ⟨[], [], .cs (.o .v) (.l [])⟩, ⟨[], [], .cs .v (.b false)⟩] [none, some 7, none, none, none, none, none])
 ((.seq (.reg [⟨[], [], .li (.o .v) []⟩, ⟨[], [], .cs (.b (.o .v)) (.g [(.l [])])⟩, ⟨[], [], .up 8 [.k 0] (.e 7)⟩] [none, some 1, none, none, some 9, none, none])
 ((.seq ((.seq (.reg [⟨[], [], .gt (.e 1) [.k 0]⟩, ⟨[], [], .ca 23 [(.e 7), (.c (.n 0)), (.c (.n 7))] 1⟩, ⟨[], [], .un .not (.e 8)⟩] [none, some 1, none, none, some 4, none, some 9])
 (.cond 6 ((.seq (.reg [⟨[], [], .tk 4⟩, ⟨[], [], .nop⟩, ⟨[], [], .cs .v (.b false)⟩] [none, none, some 7, some 9, none, none, none])
  (.ret))) (.skip))))
 ((.seq (.reg [⟨[], [], .cs (.b .v) (.g [.u])⟩] [none, some 1, none, none, some 4, some 7, none])
 ((.seq (.reg [⟨[], [], .nop⟩, ⟨[], [], .cb 5⟩, ⟨[], [], .nop⟩, ⟨[], [], .ca 309 [(.c (.s [])), (.c (.n 0)), (.e 1), (.e 4), (.e 7)] 2⟩] [none, none, none, none, some 9, none, none])
 ((.seq (.reg [⟨[], [], .tk 4⟩, ⟨[], [], .nop⟩, ⟨[], [], .cs .v (.b true)⟩] [none, none, some 7, some 9, none, none, none])
 (.ret))))))))))))⟩

/-- loop.example/g03401/impl.MotzkinPaths$1 -/
def ir_impl_MotzkinPaths_f1 : IF := ⟨[], 5, 8, [2, 3],
 (.seq (.reg [⟨[], [], .gt (.e 2) [.k 0]⟩, ⟨[], [], .nop⟩, ⟨[], [], .sn (.e 0)⟩, ⟨[], [], .bi .sub (.e 8) (.e 9)⟩, ⟨[], [], .nop⟩] [some 0, some 1, some 2, some 3, some 4, some 10, none, none])
 ((.seq ((.seq (.reg [⟨[], [], .nop⟩, ⟨[], [], .nop⟩, ⟨[], [], .bi .gtr (.e 1) (.e 5)⟩, ⟨[], [], .nop⟩, ⟨[], [(8, false)], .cy (.e 1)⟩, ⟨[], [(8, false)], .bi .lss (.e 9) (.c (.n 0))⟩, ⟨[], [], .pk (.e 8) (.c (.b true)) (.e 10)⟩] [some 0, some 1, some 2, some 3, some 4, some 5, some 11, none])
 (.cond 6 (.ret) (.skip))))
 ((.seq ((.seq (.reg [⟨[], [], .nop⟩, ⟨[], [], .bi .eql (.e 5) (.c (.n 0))⟩] [some 0, some 1, some 2, some 3, some 4, none, none, some 8])
 (.cond 7 ((.seq (.reg [⟨[], [], .tk 3⟩, ⟨[], [], .nop⟩, ⟨[], [], .li (.o .v) [(.e 0)]⟩, ⟨[], [], .ap false (.e 8) (.e 10)⟩, ⟨[], [], .up 9 [.k 0] (.e 11)⟩] [none, none, some 2, some 12, none, none, none, none])
  (.ret))) (.skip))))
 ((.seq (.reg [⟨[], [], .nop⟩, ⟨[], [], .nop⟩, ⟨[], [], .bi .add (.e 0) (.c (.s [117]))⟩, ⟨[], [], .nop⟩, ⟨[], [], .bi .add (.e 1) (.c (.n 1))⟩, ⟨[], [], .ca 309 [(.e 8), (.e 9), (.e 2), (.e 3), (.e 4)] 2⟩] [some 0, some 1, some 10, some 11, some 4, none, none, none])
 ((.seq (.reg [⟨[], [], .nop⟩, ⟨[], [], .nop⟩, ⟨[], [], .bi .add (.e 0) (.c (.s [108]))⟩, ⟨[], [], .nop⟩, ⟨[], [], .ca 309 [(.e 8), (.e 1), (.e 2), (.e 3), (.e 4)] 2⟩] [some 0, some 1, some 9, some 10, some 4, none, none, none])
 (.reg [⟨[], [], .nop⟩, ⟨[], [], .nop⟩, ⟨[], [], .bi .add (.e 0) (.c (.s [100]))⟩, ⟨[], [], .nop⟩, ⟨[], [], .bi .sub (.e 1) (.c (.n 1))⟩, ⟨[], [], .ca 309 [(.e 8), (.e 9), (.e 2), (.e 3), (.e 4)] 2⟩] [none, none, some 10, some 11, none, none, none, none]))))))))))⟩

/-- loop.example/g03401/impl.count -/
def ir_impl_count : IF := ⟨[], 2, 7, [2],
 (.seq (.reg [⟨[], [], .cs .v (.n 0)⟩] [some 0, some 1, none, none, none, none, none])
 ((.seq (.reg [⟨[], [], .cs .v (.n 0)⟩] [some 0, some 1, none, some 7, none, none, none])
 ((.seq ((.seq (.reg [⟨[], [], .cs .v (.n 0)⟩] [some 0, some 1, none, some 3, some 7, none, none])
 (.block 0 (.loop ((.seq ((.seq (.reg [⟨[], [], .nop⟩, ⟨[], [], .nop⟩, ⟨[], [], .sn (.e 0)⟩, ⟨[], [], .bi .lss (.e 4) (.e 7)⟩] [some 0, some 1, none, some 3, some 4, some 8, none])
   (.cond 5 (.skip) (.exit 0))))
   ((.seq (.block 1 ((.seq (.reg [⟨[], [], .nop⟩, ⟨[], [], .nop⟩, ⟨[], [], .sx (.e 0) (.e 4)⟩, ⟨[], [], .nop⟩, ⟨[], [], .bi .eql (.e 7) (.e 1)⟩] [some 0, some 1, none, some 3, some 4, none, some 8])
    (.cond 6 (.reg [⟨[], [], .nop⟩, ⟨[], [], .bi .add (.e 3) (.c (.n 1))⟩, ⟨[], [], .nop⟩] [some 0, some 1, none, some 7, some 4, none, none]) (.skip)))))
   (.reg [⟨[], [], .nop⟩, ⟨[], [], .bi .add (.e 4) (.c (.n 1))⟩, ⟨[], [], .nop⟩] [some 0, some 1, none, some 3, some 7, none, none])))))))))
 ((.seq (.reg [⟨[], [], .nop⟩, ⟨[], [], .nop⟩] [none, none, some 3, none, none, none, none])
 (.ret))))))))⟩

/-- loop.example/g03401/impl.rises -/
def ir_impl_rises : IF := ⟨[], 1, 10, [1],
 (.seq (.reg [⟨[], [], .cs .v (.b false)⟩] [some 0, none, none, none, none, none, none, none, none, none])
 ((.seq (.reg [⟨[], [], .cs .v (.n 0)⟩] [some 0, none, some 10, none, none, none, none, none, none, none])
 ((.seq ((.seq (.reg [⟨[], [], .cs .v (.n 0)⟩] [some 0, none, some 2, some 10, none, none, none, none, none, none])
 (.block 0 (.loop ((.seq ((.seq (.reg [⟨[], [], .nop⟩, ⟨[], [], .nop⟩, ⟨[], [], .sn (.e 0)⟩, ⟨[], [], .bi .lss (.e 3) (.e 10)⟩] [some 0, none, some 2, some 3, some 11, none, none, none, none, none])
   (.cond 4 (.skip) (.exit 0))))
   ((.seq (.block 1 ((.seq ((.seq (.reg [⟨[], [], .nop⟩, ⟨[], [], .nop⟩, ⟨[], [], .sx (.e 0) (.e 3)⟩] [some 0, none, some 2, some 3, none, some 10, none, none, none, none])
    (.block 2 ((.seq (.reg [⟨[], [], .bi .eql (.e 5) (.c (.y 117))⟩, ⟨[], [], .nop⟩] [some 0, none, some 2, some 3, none, some 5, some 10, none, none, none])
     (.cond 6 (.reg [⟨[], [], .nop⟩, ⟨[], [], .bi .add (.e 2) (.c (.n 1))⟩, ⟨[], [], .nop⟩] [some 0, none, some 10, some 3, none, none, none, none, none, none]) ((.seq (.reg [⟨[], [], .bi .eql (.e 5) (.c (.y 100))⟩, ⟨[], [], .nop⟩] [some 0, none, some 2, some 3, none, some 5, none, some 10, none, none])
      (.cond 7 (.reg [⟨[], [], .nop⟩, ⟨[], [], .bi .sub (.e 2) (.c (.n 1))⟩, ⟨[], [], .nop⟩] [some 0, none, some 10, some 3, none, none, none, none, none, none]) ((.seq (.reg [⟨[], [], .bi .eql (.e 5) (.c (.y 108))⟩, ⟨[], [], .nop⟩] [some 0, none, some 2, some 3, none, none, none, none, some 10, none])
       (.cond 8 (.skip) ((.seq (.reg [⟨[], [], .cs .v (.b false)⟩] [none, some 10, none, none, none, none, none, none, none, none])
        (.ret)))))))))))))))
    ((.seq (.reg [⟨[], [], .nop⟩, ⟨[], [], .bi .lss (.e 2) (.c (.n 0))⟩] [some 0, none, some 2, some 3, none, none, none, none, none, some 10])
    (.cond 9 ((.seq (.reg [⟨[], [], .cs .v (.b false)⟩] [none, some 10, none, none, none, none, none, none, none, none])
     (.ret))) (.skip)))))))
   (.reg [⟨[], [], .nop⟩, ⟨[], [], .bi .add (.e 3) (.c (.n 1))⟩, ⟨[], [], .nop⟩] [some 0, none, some 2, some 10, none, none, none, none, none, none])))))))))
 ((.seq (.reg [⟨[], [], .nop⟩, ⟨[], [], .bi .eql (.e 2) (.c (.n 0))⟩, ⟨[], [], .nop⟩] [none, some 10, none, none, none, none, none, none, none, none])
 (.ret))))))))⟩

end Go.Cat

namespace Go.Cat
/-- loop.example/g03401/impl.CircleOf -/
def ir_impl_CircleOf : IF := ⟨[], 2, 5, [2, 3],
 (.seq (.reg [⟨[], [], .cs .v (.s [])⟩, ⟨[], [], .cs .v (.b false)⟩] [some 0, some 1, none, none, none])
 ((.seq ((.seq (.reg [⟨[], [], .nop⟩, ⟨[], [], .ca 67 [(.e 0)] 1⟩, ⟨[], [], .un .not (.e 5)⟩] [some 0, some 1, none, none, some 6])
 (.cond 4 ((.seq (.reg [⟨[], [], .cs .v (.s [])⟩, ⟨[], [], .cs .v (.b false)⟩] [none, none, some 5, some 6, none])
  (.ret))) (.skip))))
 ((.seq (.reg [⟨[], [], .nop⟩, ⟨[], [], .bi .add (.e 0) (.c (.s [100]))⟩, ⟨[], [], .nop⟩, ⟨[], [], .ca 226 [(.e 5), (.e 1)] 2⟩, ⟨[], [], .nop⟩, ⟨[], [], .nop⟩, ⟨[], [], .nop⟩, ⟨[], [], .nop⟩] [none, none, some 6, some 7, none])
 (.ret))))))⟩

/-- loop.example/g03401/impl.CountGoodShifts -/
def ir_impl_CountGoodShifts : IF := ⟨[], 1, 9, [1],
 (.seq (.reg [⟨[], [], .cs .v (.n 0)⟩] [some 0, none, none, none, none, none, none, none, none])
 ((.seq ((.seq (.reg [⟨[], [], .nop⟩, ⟨[], [], .ca 176 [(.e 0)] 1⟩, ⟨[], [], .un .not (.e 9)⟩] [some 0, none, none, none, some 10, none, none, none, none])
 (.cond 4 ((.seq (.reg [⟨[], [], .cs .v (.n (-1))⟩] [none, some 9, none, none, none, none, none, none, none])
  (.ret))) (.skip))))
 ((.seq (.reg [⟨[], [], .cs .v (.n 0)⟩] [some 0, none, some 9, none, none, none, none, none, none])
 ((.seq ((.seq (.reg [⟨[], [], .nop⟩, ⟨[], [], .sn (.e 0)⟩, ⟨[], [], .cs .v (.n 0)⟩] [some 0, none, some 2, none, none, some 9, some 10, none, none])
 (.block 0 (.loop ((.seq (.reg [⟨[], [], .bi .lss (.e 6) (.e 5)⟩] [some 0, none, some 2, none, none, some 5, some 6, some 9, none])
   ((.seq (.cond 7 (.skip) (.exit 0))
   ((.seq (.block 1 ((.seq (.reg [⟨[], [], .nop⟩, ⟨[], [], .nop⟩] [some 0, none, some 2, some 6, none, some 5, some 6, none, none])
    ((.seq (.reg [⟨[], [], .nop⟩, ⟨[], [], .nop⟩, ⟨[], [], .ca 177 [(.e 0), (.e 3)] 1⟩] [some 0, none, some 2, none, none, some 5, some 6, none, some 9])
    (.cond 8 (.reg [⟨[], [], .nop⟩, ⟨[], [], .bi .add (.e 2) (.c (.n 1))⟩, ⟨[], [], .nop⟩] [some 0, none, some 9, none, none, some 5, some 6, none, none]) (.skip)))))))
   (.reg [⟨[], [], .bi .add (.e 6) (.c (.n 1))⟩, ⟨[], [], .nop⟩] [some 0, none, some 2, none, none, some 5, some 9, none, none])))))))))))
 ((.seq (.reg [⟨[], [], .nop⟩, ⟨[], [], .nop⟩] [none, some 2, none, none, none, none, none, none, none])
 (.ret))))))))))⟩

/-- loop.example/g03401/impl.DyckOfCircle -/
def ir_impl_DyckOfCircle : IF := ⟨[], 1, 7, [1, 2],
 (.seq (.reg [⟨[], [], .cs .v (.s [])⟩, ⟨[], [], .cs .v (.b false)⟩] [some 0, none, none, none, none, none, none])
 ((.seq (.reg [⟨[], [], .nop⟩, ⟨[], [], .ca 129 [(.e 0)] 2⟩, ⟨[], [], .nop⟩, ⟨[], [], .nop⟩, ⟨[], [], .nop⟩, ⟨[], [], .nop⟩, ⟨[], [], .nop⟩] [some 0, none, none, some 7, some 8, none, none])
 ((.seq ((.seq (.reg [⟨[], [], .nop⟩, ⟨[], [], .un .not (.e 4)⟩] [some 0, none, none, some 3, none, none, some 7])
 (.cond 6 ((.seq (.reg [⟨[], [], .cs .v (.s [])⟩, ⟨[], [], .cs .v (.b false)⟩] [none, some 7, some 8, none, none, none, none])
  (.ret))) (.skip))))
 ((.seq (.reg [⟨[], [], .nop⟩, ⟨[], [], .nop⟩, ⟨[], [], .ss (.e 0) (some (.e 3)) none⟩, ⟨[], [], .nop⟩, ⟨[], [], .nop⟩, ⟨[], [], .ss (.e 0) none (some (.e 3))⟩, ⟨[], [], .bi .add (.e 7) (.e 8)⟩, ⟨[], [], .nop⟩] [none, none, none, none, none, some 9, none])
 ((.seq (.reg [⟨[], [], .nop⟩, ⟨[], [], .nop⟩, ⟨[], [], .sn (.e 5)⟩, ⟨[], [], .bi .sub (.e 7) (.c (.n 1))⟩, ⟨[], [], .ss (.e 5) none (some (.e 8))⟩, ⟨[], [], .nop⟩, ⟨[], [], .cs .v (.b true)⟩] [none, some 9, some 10, none, none, none, none])
 (.ret))))))))))⟩

/-- loop.example/g03401/impl.GoodShift -/
def ir_impl_GoodShift : IF := ⟨[], 1, 9, [1, 2],
 (.seq (.reg [⟨[], [], .cs .v (.n 0)⟩, ⟨[], [], .cs .v (.b false)⟩] [some 0, none, none, none, none, none, none, none, none])
 ((.seq ((.seq (.reg [⟨[], [], .nop⟩, ⟨[], [], .ca 176 [(.e 0)] 1⟩, ⟨[], [], .un .not (.e 9)⟩] [some 0, none, none, none, some 10, none, none, none, none])
 (.cond 4 ((.seq (.reg [⟨[], [], .cs .v (.n 0)⟩, ⟨[], [], .cs .v (.b false)⟩] [none, some 9, some 10, none, none, none, none, none, none])
  (.ret))) (.skip))))
 ((.seq ((.seq (.reg [⟨[], [], .nop⟩, ⟨[], [], .sn (.e 0)⟩, ⟨[], [], .cs .v (.n 0)⟩] [some 0, none, none, none, none, some 9, some 10, none, none])
 (.block 0 (.loop ((.seq (.reg [⟨[], [], .bi .lss (.e 6) (.e 5)⟩] [some 0, none, none, none, none, some 5, some 6, some 9, none])
   ((.seq (.cond 7 (.skip) (.exit 0))
   ((.seq (.block 1 ((.seq (.reg [⟨[], [], .nop⟩, ⟨[], [], .nop⟩] [some 0, none, none, some 6, none, some 5, some 6, none, none])
    ((.seq (.reg [⟨[], [], .nop⟩, ⟨[], [], .nop⟩, ⟨[], [], .ca 177 [(.e 0), (.e 3)] 1⟩] [some 0, none, none, some 3, none, some 5, some 6, none, some 9])
    (.cond 8 ((.seq (.reg [⟨[], [], .nop⟩, ⟨[], [], .nop⟩, ⟨[], [], .cs .v (.b true)⟩] [none, some 3, some 9, none, none, none, none, none, none])
     (.ret))) (.skip)))))))
   (.reg [⟨[], [], .bi .add (.e 6) (.c (.n 1))⟩, ⟨[], [], .nop⟩] [some 0, none, none, none, none, some 5, some 9, none, none])))))))))))
 ((.seq (.reg [⟨[], [], .cs .v (.n 0)⟩, ⟨[], [], .cs .v (.b false)⟩] [none, some 9, some 10, none, none, none, none, none, none])
 (.ret))))))))⟩

/-- loop.example/g03401/impl.IsBalanced -/
def ir_impl_IsBalanced : IF := ⟨[], 1, 2, [1],
 (.seq (.reg [⟨[], [], .cs .v (.b false)⟩] [some 0, none])
 ((.seq (.reg [⟨[], [], .nop⟩, ⟨[], [], .sn (.e 0)⟩, ⟨[], [], .bi .leq (.e 2) (.c (.n 17))⟩, ⟨[], [], .nop⟩, ⟨[], [(3, true)], .cy (.e 0)⟩, ⟨[], [(3, true)], .ca 65 [(.e 4)] 1⟩, ⟨[], [], .pk (.e 3) (.e 5) (.c (.b false))⟩, ⟨[], [], .nop⟩, ⟨[], [(6, true)], .cy (.e 0)⟩, ⟨[], [(6, true)], .ca 66 [(.e 7), (.c (.y 100))] 1⟩, ⟨[], [(6, true)], .cy (.e 0)⟩, ⟨[], [(6, true)], .ca 66 [(.e 9), (.c (.y 117))] 1⟩, ⟨[], [(6, true)], .bi .add (.e 10) (.c (.n 1))⟩, ⟨[], [(6, true)], .bi .eql (.e 8) (.e 11)⟩, ⟨[], [], .pk (.e 6) (.e 12) (.c (.b false))⟩, ⟨[], [], .nop⟩] [none, some 13])
 (.ret))))⟩

/-- loop.example/g03401/impl.ShiftWord -/
def ir_impl_ShiftWord : IF := ⟨[], 2, 5, [2, 3],
 (.seq (.reg [⟨[], [], .cs .v (.s [])⟩, ⟨[], [], .cs .v (.b false)⟩] [some 0, some 1, none, none, none])
 ((.seq ((.seq (.reg [⟨[], [], .nop⟩, ⟨[], [], .sn (.e 0)⟩, ⟨[], [], .bi .gtr (.e 5) (.c (.n 17))⟩, ⟨[], [], .nop⟩, ⟨[], [(6, false)], .cy (.e 1)⟩, ⟨[], [(6, false)], .cy (.e 0)⟩, ⟨[], [(6, false)], .sn (.e 8)⟩, ⟨[], [(6, false)], .bi .sub (.e 9) (.c (.n 1))⟩, ⟨[], [(6, false)], .mx (.c (.n 0)) (.e 10)⟩, ⟨[], [(6, false)], .ca 23 [(.e 7), (.c (.n 0)), (.e 11)] 1⟩, ⟨[], [(6, false)], .un .not (.e 12)⟩, ⟨[], [], .pk (.e 6) (.c (.b true)) (.e 13)⟩] [some 0, some 1, none, none, some 14])
 (.cond 4 ((.seq (.reg [⟨[], [], .cs .v (.s [])⟩, ⟨[], [], .cs .v (.b false)⟩] [none, none, some 5, some 6, none])
  (.ret))) (.skip))))
 ((.seq (.reg [⟨[], [], .nop⟩, ⟨[], [], .nop⟩, ⟨[], [], .ss (.e 0) (some (.e 1)) none⟩, ⟨[], [], .nop⟩, ⟨[], [], .nop⟩, ⟨[], [], .ss (.e 0) none (some (.e 1))⟩, ⟨[], [], .bi .add (.e 5) (.e 6)⟩, ⟨[], [], .nop⟩, ⟨[], [], .cs .v (.b true)⟩] [none, none, some 7, some 8, none])
 (.ret))))))⟩

/-- loop.example/g03401/impl.areSteps -/
def ir_impl_areSteps : IF := ⟨[], 1, 2, [1],
 (.seq (.reg [⟨[], [], .cs .v (.b false)⟩] [some 0, none])
 ((.seq (.reg [⟨[], [], .nop⟩, ⟨[], [], .ca 66 [(.e 0), (.c (.y 117))] 1⟩, ⟨[], [], .nop⟩, ⟨[], [], .ca 66 [(.e 0), (.c (.y 100))] 1⟩, ⟨[], [], .bi .add (.e 2) (.e 3)⟩, ⟨[], [], .nop⟩, ⟨[], [], .sn (.e 0)⟩, ⟨[], [], .bi .eql (.e 4) (.e 5)⟩, ⟨[], [], .nop⟩] [none, some 6])
 (.ret))))⟩

/-- loop.example/g03401/impl.good -/
def ir_impl_good : IF := ⟨[], 2, 4, [2],
 (.seq (.reg [⟨[], [], .cs .v (.b false)⟩] [some 0, some 1, none, none])
 ((.seq (.reg [⟨[], [], .nop⟩, ⟨[], [], .nop⟩, ⟨[], [], .ss (.e 0) (some (.e 1)) none⟩, ⟨[], [], .nop⟩, ⟨[], [], .nop⟩, ⟨[], [], .ss (.e 0) none (some (.e 1))⟩, ⟨[], [], .bi .add (.e 4) (.e 5)⟩, ⟨[], [], .nop⟩] [none, none, none, some 6])
 ((.seq (.reg [⟨[], [], .nop⟩, ⟨[], [], .nop⟩, ⟨[], [], .sn (.e 3)⟩, ⟨[], [], .bi .sub (.e 4) (.c (.n 1))⟩, ⟨[], [], .sx (.e 3) (.e 5)⟩, ⟨[], [], .bi .eql (.e 6) (.c (.y 100))⟩, ⟨[], [], .nop⟩, ⟨[], [(7, true)], .cy (.e 3)⟩, ⟨[], [(7, true)], .cy (.e 3)⟩, ⟨[], [(7, true)], .sn (.e 9)⟩, ⟨[], [(7, true)], .bi .sub (.e 10) (.c (.n 1))⟩, ⟨[], [(7, true)], .ss (.e 8) none (some (.e 11))⟩, ⟨[], [(7, true)], .ca 67 [(.e 12)] 1⟩, ⟨[], [], .pk (.e 7) (.e 13) (.c (.b false))⟩, ⟨[], [], .nop⟩] [none, none, some 14, none])
 (.ret))))))⟩

end Go.Cat

namespace Go.Cat
/-- loop.example/g03401/laws.FnExactOutputOf -/
def ir_laws_FnExactOutputOf : IF := ⟨[], 2, 23, [2],
 (.seq (.reg [⟨[], [], .cs .v (.b false)⟩] [some 0, some 1, none, none, none, none, none, none, none, none, none, none, none, none, none, none, none, none, none, none, none, none, none])
 ((.seq ((.seq (.reg [⟨[], [], .nop⟩, ⟨[], [], .sn (.e 0)⟩, ⟨[], [], .bi .gtr (.e 23) (.c (.n 1048576))⟩] [some 0, some 1, none, none, none, none, none, none, none, none, none, none, none, some 24, none, none, none, none, none, none, none, none, none])
 (.cond 13 ((.seq (.reg [⟨[], [], .cs .v (.b true)⟩] [none, none, some 23, none, none, none, none, none, none, none, none, none, none, none, none, none, none, none, none, none, none, none, none])
  (.ret))) (.skip))))
 ((.seq ((.seq (.reg [⟨[], [], .nop⟩, ⟨[], [], .ln (.e 1) []⟩, ⟨[], [], .bi .gtr (.e 23) (.c (.n 1048576))⟩] [some 0, some 1, none, none, none, none, none, none, none, none, none, none, none, none, some 24, none, none, none, none, none, none, none, none])
 (.cond 14 ((.seq (.reg [⟨[], [], .cs .v (.b true)⟩] [none, none, some 23, none, none, none, none, none, none, none, none, none, none, none, none, none, none, none, none, none, none, none, none])
  (.ret))) (.skip))))
 ((.seq (.reg [⟨[], [], .nop⟩, ⟨[], [], .nop⟩, ⟨[], [], .ca 42 [(.e 1)] 1⟩, ⟨[], [], .ca 109 [(.e 0), (.e 23)] 2⟩, ⟨[], [], .nop⟩, ⟨[], [], .nop⟩, ⟨[], [], .nop⟩, ⟨[], [], .nop⟩, ⟨[], [], .nop⟩] [some 0, some 1, none, some 24, some 25, none, none, none, none, none, none, none, none, none, none, none, none, none, none, none, none, none, none])
 ((.seq (.reg [⟨[], [], .nop⟩, ⟨[], [], .ca 42 [(.e 1)] 1⟩, ⟨[], [], .nop⟩] [some 0, some 1, none, some 3, some 4, some 23, none, none, none, none, none, none, none, none, none, none, none, none, none, none, none, none, none])
 ((.seq (.reg [⟨[], [], .nop⟩, ⟨[], [], .nop⟩, ⟨[], [], .ca 110 [(.e 0), (.e 5)] 2⟩, ⟨[], [], .nop⟩, ⟨[], [], .nop⟩, ⟨[], [], .nop⟩, ⟨[], [], .nop⟩, ⟨[], [], .nop⟩] [some 0, some 1, none, some 3, some 4, some 5, some 23, some 24, none, none, none, none, none, none, none, none, none, none, none, none, none, none, none])
 ((.seq ((.seq (.reg [⟨[], [], .nop⟩, ⟨[], [], .nop⟩, ⟨[], [], .ca 44 [(.e 6), (.e 3)] 1⟩, ⟨[], [], .un .not (.e 23)⟩, ⟨[], [], .nop⟩, ⟨[], [(24, false)], .cy (.e 7)⟩, ⟨[], [(24, false)], .cy (.e 4)⟩, ⟨[], [(24, false)], .bb .neq (.e 25) (.e 26)⟩, ⟨[], [], .pk (.e 24) (.c (.b true)) (.e 27)⟩] [some 0, some 1, none, some 3, some 4, some 5, some 6, some 7, none, none, none, none, none, none, none, some 28, none, none, none, none, none, none, none])
 (.cond 15 ((.seq (.reg [⟨[], [], .cs .v (.b false)⟩] [none, none, some 23, none, none, none, none, none, none, none, none, none, none, none, none, none, none, none, none, none, none, none, none])
  (.ret))) (.skip))))
 ((.seq ((.seq (.reg [⟨[], [], .nop⟩, ⟨[], [], .nop⟩, ⟨[], [], .ca 42 [(.e 1)] 1⟩, ⟨[], [], .ca 44 [(.e 5), (.e 23)] 1⟩, ⟨[], [], .un .not (.e 24)⟩] [some 0, some 1, none, some 3, some 4, some 5, some 6, some 7, none, none, none, none, none, none, none, none, some 25, none, none, none, none, none, none])
 (.cond 16 ((.seq (.reg [⟨[], [], .cs .v (.b false)⟩] [none, none, some 23, none, none, none, none, none, none, none, none, none, none, none, none, none, none, none, none, none, none, none, none])
  (.ret))) (.skip))))
 ((.seq (.reg [⟨[], [], .cs .v (.n 1)⟩] [some 0, some 1, none, some 3, some 4, some 5, some 6, some 7, some 23, none, none, none, none, none, none, none, none, none, none, none, none, none, none])
 ((.seq (.reg [⟨[], [], .nop⟩, ⟨[], [], .nop⟩, ⟨[], [], .ca 45 [(.e 5), (.e 8)] 2⟩, ⟨[], [], .nop⟩] [some 0, some 1, none, some 3, some 4, none, some 6, some 7, some 23, none, none, none, none, none, none, none, none, none, none, none, none, none, none])
 ((.seq ((.seq (.reg [⟨[], [], .nop⟩, ⟨[], [], .bi .lss (.e 8) (.c (.n 0))⟩, ⟨[], [], .nop⟩, ⟨[], [(23, false)], .nop⟩, ⟨[], [(23, false)], .cy (.e 3)⟩, ⟨[], [(23, false)], .ca 44 [(.e 6), (.e 24)] 1⟩, ⟨[], [(23, false)], .un .not (.e 25)⟩, ⟨[], [], .pk (.e 23) (.c (.b true)) (.e 26)⟩, ⟨[], [], .nop⟩, ⟨[], [(27, false)], .cy (.e 7)⟩, ⟨[], [(27, false)], .cy (.e 4)⟩, ⟨[], [(27, false)], .bb .neq (.e 28) (.e 29)⟩, ⟨[], [], .pk (.e 27) (.c (.b true)) (.e 30)⟩] [some 0, some 1, none, some 3, some 4, none, some 6, none, none, none, none, none, none, none, none, none, none, some 31, none, none, none, none, none])
 (.cond 17 ((.seq (.reg [⟨[], [], .cs .v (.b false)⟩] [none, none, some 23, none, none, none, none, none, none, none, none, none, none, none, none, none, none, none, none, none, none, none, none])
  (.ret))) (.skip))))
 ((.seq (.reg [⟨[], [], .cs .v (.n 1)⟩] [some 0, some 1, none, some 3, some 4, none, some 6, none, none, some 23, none, none, none, none, none, none, none, none, none, none, none, none, none])
 ((.seq (.reg [⟨[], [], .nop⟩, ⟨[], [], .nop⟩, ⟨[], [], .ca 45 [(.e 6), (.e 9)] 2⟩, ⟨[], [], .nop⟩] [some 0, some 1, none, some 3, some 4, none, some 24, none, none, some 23, none, none, none, none, none, none, none, none, none, none, none, none, none])
 ((.seq (.reg [⟨[], [], .cs .v (.n 1)⟩] [some 0, some 1, none, some 3, some 4, none, some 6, none, none, some 9, some 23, none, none, none, none, none, none, none, none, none, none, none, none])
 ((.seq (.reg [⟨[], [], .nop⟩, ⟨[], [], .nop⟩, ⟨[], [], .ca 46 [(.e 6), (.e 10)] 1⟩, ⟨[], [], .nop⟩] [some 0, some 1, none, some 3, some 4, none, some 6, none, none, some 9, some 23, none, none, none, none, none, none, none, none, none, none, none, none])
 ((.seq ((.seq (.reg [⟨[], [], .nop⟩, ⟨[], [], .bi .lss (.e 10) (.c (.n 0))⟩] [some 0, some 1, none, some 3, some 4, none, some 6, none, none, some 9, some 10, none, none, none, none, none, none, none, some 23, none, none, none, none])
 (.cond 18 ((.seq (.reg [⟨[], [], .cs .v (.b false)⟩] [none, none, some 23, none, none, none, none, none, none, none, none, none, none, none, none, none, none, none, none, none, none, none, none])
  (.ret))) (.skip))))
 ((.seq ((.seq (.reg [⟨[], [], .nop⟩, ⟨[], [], .nop⟩, ⟨[], [], .bi .neq (.e 10) (.e 9)⟩] [some 0, some 1, none, some 3, some 4, none, some 6, none, none, some 9, none, none, none, none, none, none, none, none, none, some 23, none, none, none])
 (.cond 19 ((.seq (.reg [⟨[], [], .cs .v (.b false)⟩] [none, none, some 23, none, none, none, none, none, none, none, none, none, none, none, none, none, none, none, none, none, none, none, none])
  (.ret))) (.skip))))
 ((.seq (.reg [⟨[], [], .nop⟩, ⟨[], [], .nop⟩, ⟨[], [], .ca 42 [(.e 1)] 1⟩, ⟨[], [], .ca 110 [(.e 0), (.e 23)] 2⟩, ⟨[], [], .nop⟩, ⟨[], [], .nop⟩, ⟨[], [], .nop⟩, ⟨[], [], .nop⟩, ⟨[], [], .nop⟩] [none, none, none, some 3, some 4, none, some 6, none, none, some 9, none, some 24, some 25, none, none, none, none, none, none, none, none, none, none])
 ((.seq ((.seq (.reg [⟨[], [], .nop⟩, ⟨[], [], .nop⟩, ⟨[], [], .ca 44 [(.e 11), (.e 3)] 1⟩, ⟨[], [], .un .not (.e 23)⟩, ⟨[], [], .nop⟩, ⟨[], [(24, false)], .cy (.e 12)⟩, ⟨[], [(24, false)], .cy (.e 4)⟩, ⟨[], [(24, false)], .bb .neq (.e 25) (.e 26)⟩, ⟨[], [], .pk (.e 24) (.c (.b true)) (.e 27)⟩] [none, none, none, none, none, none, some 6, none, none, some 9, none, none, none, none, none, none, none, none, none, none, some 28, none, none])
 (.cond 20 ((.seq (.reg [⟨[], [], .cs .v (.b false)⟩] [none, none, some 23, none, none, none, none, none, none, none, none, none, none, none, none, none, none, none, none, none, none, none, none])
  (.ret))) (.skip))))
 ((.seq (.reg [⟨[], [], .cs .v (.n 1)⟩] [none, none, none, none, none, none, some 6, none, none, some 9, some 23, none, none, none, none, none, none, none, none, none, none, none, none])
 ((.seq (.reg [⟨[], [], .nop⟩, ⟨[], [], .nop⟩, ⟨[], [], .ca 46 [(.e 6), (.e 10)] 1⟩, ⟨[], [], .nop⟩] [none, none, none, none, none, none, none, none, none, some 9, some 23, none, none, none, none, none, none, none, none, none, none, none, none])
 ((.seq ((.seq (.reg [⟨[], [], .nop⟩, ⟨[], [], .bi .lss (.e 10) (.c (.n 0))⟩] [none, none, none, none, none, none, none, none, none, some 9, some 10, none, none, none, none, none, none, none, none, none, none, some 23, none])
 (.cond 21 ((.seq (.reg [⟨[], [], .cs .v (.b false)⟩] [none, none, some 23, none, none, none, none, none, none, none, none, none, none, none, none, none, none, none, none, none, none, none, none])
  (.ret))) (.skip))))
 ((.seq ((.seq (.reg [⟨[], [], .nop⟩, ⟨[], [], .nop⟩, ⟨[], [], .bi .neq (.e 10) (.e 9)⟩] [none, none, none, none, none, none, none, none, none, none, none, none, none, none, none, none, none, none, none, none, none, none, some 23])
 (.cond 22 ((.seq (.reg [⟨[], [], .cs .v (.b false)⟩] [none, none, some 23, none, none, none, none, none, none, none, none, none, none, none, none, none, none, none, none, none, none, none, none])
  (.ret))) (.skip))))
 ((.seq (.reg [⟨[], [], .cs .v (.b true)⟩] [none, none, some 23, none, none, none, none, none, none, none, none, none, none, none, none, none, none, none, none, none, none, none, none])
 (.ret))))))))))))))))))))))))))))))))))))))))))))))))⟩

end Go.Cat

