/-
  Texts of the little language.
-/
import Derived.Test.YtdifmcppfcbgdaaCatThree
namespace Go.Cat
/-- loop.example/g03401/impl.FormatInt -/
def ir_impl_FormatInt : IF := ⟨[], 1, 12, [1],
 (.seq (.reg [⟨[], [], .cs .v (.s [])⟩] [some 0, none, none, none, none, none, none, none, none, none, none, none])
 ((.seq ((.seq (.reg [⟨[], [], .nop⟩, ⟨[], [], .bi .eql (.e 0) (.c (.n 0))⟩] [some 0, none, none, none, none, none, none, some 12, none, none, none, none])
 (.cond 7 ((.seq (.reg [⟨[], [], .cs .v (.s [48])⟩] [none, some 12, none, none, none, none, none, none, none, none, none, none])
  (.ret))) (.skip))))
 ((.seq (.reg [⟨[], [], .li (.o .v) []⟩, ⟨[], [], .nop⟩] [some 0, none, some 12, none, none, none, none, none, none, none, none, none])
 ((.seq ((.seq (.reg [⟨[], [], .nop⟩, ⟨[], [], .nop⟩] [some 0, none, some 2, some 0, none, none, none, none, none, none, none, none])
 (.block 0 (.loop ((.seq ((.seq (.reg [⟨[], [], .nop⟩, ⟨[], [], .bi .neq (.e 3) (.c (.n 0))⟩] [some 0, none, some 2, some 3, none, none, none, none, some 12, none, none, none])
   (.cond 8 (.skip) (.exit 0))))
   ((.seq (.block 1 ((.seq (.reg [⟨[], [], .nop⟩, ⟨[], [], .bi .rem (.e 3) (.c (.n 10))⟩, ⟨[], [], .nop⟩] [some 0, none, some 2, some 3, some 12, none, none, none, none, none, none, none])
    ((.seq ((.seq (.reg [⟨[], [], .nop⟩, ⟨[], [], .bi .lss (.e 4) (.c (.n 0))⟩] [some 0, none, some 2, some 3, some 4, none, none, none, none, some 12, none, none])
    (.cond 9 (.reg [⟨[], [], .nop⟩, ⟨[], [], .un .neg (.e 4)⟩, ⟨[], [], .nop⟩] [some 0, none, some 2, some 3, some 12, none, none, none, none, none, none, none]) (.skip))))
    (.reg [⟨[], [], .nop⟩, ⟨[], [], .nop⟩, ⟨[], [], .bi .add (.c (.n 48)) (.e 4)⟩, ⟨[], [], .cv .u8 (.e 12)⟩, ⟨[], [], .li (.o .v) [(.e 13)]⟩, ⟨[], [], .ap false (.e 2) (.e 14)⟩, ⟨[], [], .nop⟩] [some 0, none, some 15, some 3, none, none, none, none, none, none, none, none]))))))
   (.reg [⟨[], [], .nop⟩, ⟨[], [], .bi .quo (.e 3) (.c (.n 10))⟩, ⟨[], [], .nop⟩] [some 0, none, some 2, some 12, none, none, none, none, none, none, none, none])))))))))
 ((.seq ((.seq (.reg [⟨[], [], .nop⟩, ⟨[], [], .bi .lss (.e 0) (.c (.n 0))⟩] [none, none, some 2, none, none, none, none, none, none, none, some 12, none])
 (.cond 10 (.reg [⟨[], [], .nop⟩, ⟨[], [], .li (.o .v) [(.c (.y 45))]⟩, ⟨[], [], .ap false (.e 2) (.e 12)⟩, ⟨[], [], .nop⟩] [none, none, some 13, none, none, none, none, none, none, none, none, none]) (.skip))))
 ((.seq ((.seq (.reg [⟨[], [], .nop⟩, ⟨[], [], .ln (.e 2) []⟩, ⟨[], [], .bi .sub (.e 12) (.c (.n 1))⟩, ⟨[], [], .cs .v (.n 0)⟩, ⟨[], [], .nop⟩] [none, none, some 2, none, none, some 14, some 13, none, none, none, none, none])
 (.block 2 (.loop ((.seq ((.seq (.reg [⟨[], [], .nop⟩, ⟨[], [], .nop⟩, ⟨[], [], .bi .lss (.e 5) (.e 6)⟩] [none, none, some 2, none, none, some 5, some 6, none, none, none, none, some 12])
   (.cond 11 (.skip) (.exit 2))))
   ((.seq (.block 3 (.reg [⟨[], [], .nop⟩, ⟨[], [], .nop⟩, ⟨[], [], .nop⟩, ⟨[], [], .nop⟩, ⟨[], [], .nop⟩, ⟨[], [], .nop⟩, ⟨[], [], .ix (.e 2) [] (.e 6)⟩, ⟨[], [], .nop⟩, ⟨[], [], .nop⟩, ⟨[], [], .nop⟩, ⟨[], [], .ix (.e 2) [] (.e 5)⟩, ⟨[], [], .nop⟩, ⟨[], [], .ix (.e 2) [] (.e 5)⟩, ⟨[], [], .up 2 [.e 5] (.e 12)⟩, ⟨[], [], .ix (.e 15) [] (.e 6)⟩, ⟨[], [], .up 15 [.e 6] (.e 13)⟩] [none, none, some 17, none, none, some 5, some 6, none, none, none, none, none]))
   (.reg [⟨[], [], .nop⟩, ⟨[], [], .bi .add (.e 5) (.c (.n 1))⟩, ⟨[], [], .nop⟩, ⟨[], [], .bi .sub (.e 6) (.c (.n 1))⟩, ⟨[], [], .nop⟩, ⟨[], [], .nop⟩] [none, none, some 2, none, none, some 12, some 13, none, none, none, none, none])))))))))
 ((.seq (.reg [⟨[], [], .nop⟩, ⟨[], [], .bs (.e 2)⟩, ⟨[], [], .nop⟩] [none, some 12, none, none, none, none, none, none, none, none, none, none])
 (.ret))))))))))))))⟩

/-- loop.example/g03401/impl.within -/
def ir_impl_within : IF := ⟨[], 3, 4, [3],
 (.seq (.reg [⟨[], [], .cs .v (.b false)⟩] [some 0, some 1, some 2, none])
 ((.seq (.reg [⟨[], [], .nop⟩, ⟨[], [], .nop⟩, ⟨[], [], .bi .geq (.e 0) (.e 1)⟩, ⟨[], [], .nop⟩, ⟨[], [(4, true)], .cy (.e 0)⟩, ⟨[], [(4, true)], .cy (.e 2)⟩, ⟨[], [(4, true)], .bi .leq (.e 5) (.e 6)⟩, ⟨[], [], .pk (.e 4) (.e 7) (.c (.b false))⟩, ⟨[], [], .nop⟩] [none, none, none, some 8])
 (.ret))))⟩

end Go.Cat

namespace Go.Cat
/-- loop.example/g03401/impl.AreaOf -/
def ir_impl_AreaOf : IF := ⟨[], 1, 8, [1],
 (.seq (.reg [⟨[], [], .cs .v (.n 0)⟩] [some 0, none, none, none, none, none, none, none])
 ((.seq ((.seq (.reg [⟨[], [], .nop⟩, ⟨[], [], .ca 67 [(.e 0)] 1⟩, ⟨[], [], .un .not (.e 8)⟩] [some 0, none, none, none, none, some 9, none, none])
 (.cond 5 ((.seq (.reg [⟨[], [], .cs .v (.n (-1))⟩] [none, some 8, none, none, none, none, none, none])
  (.ret))) (.skip))))
 ((.seq (.reg [⟨[], [], .cs .v (.n 0)⟩] [some 0, none, some 8, none, none, none, none, none])
 ((.seq (.reg [⟨[], [], .nop⟩, ⟨[], [], .ca 501 [(.e 0)] 1⟩, ⟨[], [], .nop⟩] [some 0, none, some 2, some 8, none, none, none, none])
 ((.seq ((.seq (.reg [⟨[], [], .cs .v (.n 0)⟩] [some 0, none, some 2, some 3, some 8, none, none, none])
 (.block 0 (.loop ((.seq ((.seq (.reg [⟨[], [], .nop⟩, ⟨[], [], .nop⟩, ⟨[], [], .sn (.e 0)⟩, ⟨[], [], .bi .lss (.e 4) (.e 8)⟩] [some 0, none, some 2, some 3, some 4, none, some 9, none])
   (.cond 6 (.skip) (.exit 0))))
   ((.seq (.block 1 ((.seq (.reg [⟨[], [], .nop⟩, ⟨[], [], .nop⟩, ⟨[], [], .sx (.e 0) (.e 4)⟩, ⟨[], [], .bi .eql (.e 8) (.c (.y 117))⟩] [some 0, none, some 2, some 3, some 4, none, none, some 9])
    (.cond 7 (.reg [⟨[], [], .nop⟩, ⟨[], [], .nop⟩, ⟨[], [], .nop⟩, ⟨[], [], .ix (.e 3) [] (.e 4)⟩, ⟨[], [], .nop⟩, ⟨[], [], .bi .add (.e 2) (.e 8)⟩, ⟨[], [], .nop⟩] [some 0, none, some 9, some 3, some 4, none, none, none]) (.skip)))))
   (.reg [⟨[], [], .nop⟩, ⟨[], [], .bi .add (.e 4) (.c (.n 1))⟩, ⟨[], [], .nop⟩] [some 0, none, some 2, some 3, some 8, none, none, none])))))))))
 ((.seq (.reg [⟨[], [], .nop⟩, ⟨[], [], .nop⟩] [none, some 2, none, none, none, none, none, none])
 (.ret))))))))))))⟩

/-- loop.example/g03401/impl.HeightsOf -/
def ir_impl_HeightsOf : IF := ⟨[], 1, 4, [1],
 (.seq (.reg [⟨[], [], .cs (.o .v) (.l [])⟩] [some 0, none, none, none])
 ((.seq ((.seq (.reg [⟨[], [], .nop⟩, ⟨[], [], .ca 67 [(.e 0)] 1⟩, ⟨[], [], .un .not (.e 4)⟩] [some 0, none, none, some 5])
 (.cond 3 ((.seq (.reg [⟨[], [], .li (.o .v) []⟩, ⟨[], [], .nop⟩] [none, some 4, none, none])
  (.ret))) (.skip))))
 ((.seq (.reg [⟨[], [], .nop⟩, ⟨[], [], .ca 82 [(.e 0)] 2⟩, ⟨[], [], .nop⟩, ⟨[], [], .nop⟩, ⟨[], [], .nop⟩, ⟨[], [], .nop⟩, ⟨[], [], .nop⟩] [none, none, some 4, none])
 ((.seq (.reg [⟨[], [], .nop⟩, ⟨[], [], .nop⟩] [none, some 2, none, none])
 (.ret))))))))⟩

/-- loop.example/g03401/impl.IsDyck -/
def ir_impl_IsDyck : IF := ⟨[], 1, 4, [1],
 (.seq (.reg [⟨[], [], .cs .v (.b false)⟩] [some 0, none, none, none])
 ((.seq ((.seq (.reg [⟨[], [], .nop⟩, ⟨[], [], .sn (.e 0)⟩, ⟨[], [], .bi .gtr (.e 4) (.c (.n 16))⟩] [some 0, none, none, some 5])
 (.cond 3 ((.seq (.reg [⟨[], [], .cs .v (.b false)⟩] [none, some 4, none, none])
  (.ret))) (.skip))))
 ((.seq (.reg [⟨[], [], .nop⟩, ⟨[], [], .ca 82 [(.e 0)] 2⟩, ⟨[], [], .nop⟩, ⟨[], [], .nop⟩, ⟨[], [], .nop⟩, ⟨[], [], .nop⟩, ⟨[], [], .nop⟩] [none, none, some 5, none])
 ((.seq (.reg [⟨[], [], .nop⟩, ⟨[], [], .nop⟩] [none, some 2, none, none])
 (.ret))))))))⟩

/-- loop.example/g03401/impl.PeaksOf -/
def ir_impl_PeaksOf : IF := ⟨[], 1, 7, [1],
 (.seq (.reg [⟨[], [], .cs .v (.n 0)⟩] [some 0, none, none, none, none, none, none])
 ((.seq ((.seq (.reg [⟨[], [], .nop⟩, ⟨[], [], .ca 67 [(.e 0)] 1⟩, ⟨[], [], .un .not (.e 7)⟩] [some 0, none, none, none, some 8, none, none])
 (.cond 4 ((.seq (.reg [⟨[], [], .cs .v (.n (-1))⟩] [none, some 7, none, none, none, none, none])
  (.ret))) (.skip))))
 ((.seq (.reg [⟨[], [], .cs .v (.n 0)⟩] [some 0, none, some 7, none, none, none, none])
 ((.seq ((.seq (.reg [⟨[], [], .cs .v (.n 1)⟩] [some 0, none, some 2, some 7, none, none, none])
 (.block 0 (.loop ((.seq ((.seq (.reg [⟨[], [], .nop⟩, ⟨[], [], .nop⟩, ⟨[], [], .sn (.e 0)⟩, ⟨[], [], .bi .lss (.e 3) (.e 7)⟩] [some 0, none, some 2, some 3, none, some 8, none])
   (.cond 5 (.skip) (.exit 0))))
   ((.seq (.block 1 ((.seq (.reg [⟨[], [], .nop⟩, ⟨[], [], .nop⟩, ⟨[], [], .bi .sub (.e 3) (.c (.n 1))⟩, ⟨[], [], .sx (.e 0) (.e 7)⟩, ⟨[], [], .bi .eql (.e 8) (.c (.y 117))⟩, ⟨[], [], .nop⟩, ⟨[], [(9, true)], .cy (.e 0)⟩, ⟨[], [(9, true)], .cy (.e 3)⟩, ⟨[], [(9, true)], .sx (.e 10) (.e 11)⟩, ⟨[], [(9, true)], .bi .eql (.e 12) (.c (.y 100))⟩, ⟨[], [], .pk (.e 9) (.e 13) (.c (.b false))⟩] [some 0, none, some 2, some 3, none, none, some 14])
    (.cond 6 (.reg [⟨[], [], .nop⟩, ⟨[], [], .bi .add (.e 2) (.c (.n 1))⟩, ⟨[], [], .nop⟩] [some 0, none, some 7, some 3, none, none, none]) (.skip)))))
   (.reg [⟨[], [], .nop⟩, ⟨[], [], .bi .add (.e 3) (.c (.n 1))⟩, ⟨[], [], .nop⟩] [some 0, none, some 2, some 7, none, none, none])))))))))
 ((.seq (.reg [⟨[], [], .nop⟩, ⟨[], [], .nop⟩] [none, some 2, none, none, none, none, none])
 (.ret))))))))))⟩

/-- loop.example/g03401/impl.ReturnsOf -/
def ir_impl_ReturnsOf : IF := ⟨[], 1, 10, [1],
 (.seq (.reg [⟨[], [], .cs .v (.n 0)⟩] [some 0, none, none, none, none, none, none, none, none, none])
 ((.seq ((.seq (.reg [⟨[], [], .nop⟩, ⟨[], [], .ca 67 [(.e 0)] 1⟩, ⟨[], [], .un .not (.e 10)⟩] [some 0, none, none, none, some 11, none, none, none, none, none])
 (.cond 4 ((.seq (.reg [⟨[], [], .cs .v (.n (-1))⟩] [none, some 10, none, none, none, none, none, none, none, none])
  (.ret))) (.skip))))
 ((.seq (.reg [⟨[], [], .cs .v (.n 0)⟩] [some 0, none, some 10, none, none, none, none, none, none, none])
 ((.seq ((.seq (.reg [⟨[], [], .nop⟩, ⟨[], [], .ca 501 [(.e 0)] 1⟩, ⟨[], [], .sb true (.e 10) (some (.c (.n 1))) none⟩, ⟨[], [], .ln (.e 11) []⟩, ⟨[], [], .cs .v (.n 0)⟩] [none, none, some 2, none, none, some 11, some 12, some 13, none, none])
 (.block 0 (.loop ((.seq (.reg [⟨[], [], .bi .lss (.e 7) (.e 6)⟩] [none, none, some 2, none, none, some 5, some 6, some 7, some 10, none])
   ((.seq (.cond 8 (.skip) (.exit 0))
   ((.seq (.block 1 ((.seq (.reg [⟨[], [], .ix (.e 5) [] (.e 7)⟩, ⟨[], [], .nop⟩, ⟨[], [], .nop⟩] [none, none, some 2, some 10, none, some 5, some 6, some 7, none, none])
    ((.seq (.reg [⟨[], [], .nop⟩, ⟨[], [], .bi .eql (.e 3) (.c (.n 0))⟩] [none, none, some 2, none, none, some 5, some 6, some 7, none, some 10])
    (.cond 9 (.reg [⟨[], [], .nop⟩, ⟨[], [], .bi .add (.e 2) (.c (.n 1))⟩, ⟨[], [], .nop⟩] [none, none, some 10, none, none, some 5, some 6, some 7, none, none]) (.skip)))))))
   (.reg [⟨[], [], .bi .add (.e 7) (.c (.n 1))⟩, ⟨[], [], .nop⟩] [none, none, some 2, none, none, some 5, some 6, some 10, none, none])))))))))))
 ((.seq (.reg [⟨[], [], .nop⟩, ⟨[], [], .nop⟩] [none, some 2, none, none, none, none, none, none, none, none])
 (.ret))))))))))⟩

/-- loop.example/g03401/impl.SizeOf -/
def ir_impl_SizeOf : IF := ⟨[], 1, 3, [1],
 (.seq (.reg [⟨[], [], .cs .v (.n 0)⟩] [some 0, none, none])
 ((.seq ((.seq (.reg [⟨[], [], .nop⟩, ⟨[], [], .ca 67 [(.e 0)] 1⟩, ⟨[], [], .un .not (.e 3)⟩] [some 0, none, some 4])
 (.cond 2 ((.seq (.reg [⟨[], [], .cs .v (.n (-1))⟩] [none, some 3, none])
  (.ret))) (.skip))))
 ((.seq (.reg [⟨[], [], .nop⟩, ⟨[], [], .sn (.e 0)⟩, ⟨[], [], .bi .quo (.e 3) (.c (.n 2))⟩, ⟨[], [], .nop⟩] [none, some 4, none])
 (.ret))))))⟩

/-- loop.example/g03401/impl.glued -/
def ir_impl_glued : IF := ⟨[], 2, 11, [2],
 (.seq (.reg [⟨[], [], .cs .v (.s [])⟩] [some 0, some 1, none, none, none, none, none, none, none, none, none])
 ((.seq (.reg [⟨[], [], .cs .v (.s [])⟩] [some 0, some 1, none, some 11, none, none, none, none, none, none, none])
 ((.seq ((.seq (.reg [⟨[], [], .nop⟩, ⟨[], [], .ln (.e 0) []⟩, ⟨[], [], .cs .v (.n 0)⟩] [none, some 1, none, some 3, none, none, some 0, some 11, some 12, none, none])
 (.block 0 (.loop ((.seq (.reg [⟨[], [], .bi .lss (.e 8) (.e 7)⟩] [none, some 1, none, some 3, none, none, some 6, some 7, some 8, some 11, none])
   ((.seq (.cond 9 (.skip) (.exit 0))
   ((.seq (.block 1 ((.seq (.reg [⟨[], [], .nop⟩, ⟨[], [], .iy (.e 6) (.e 8)⟩, ⟨[], [], .nop⟩, ⟨[], [], .nop⟩, ⟨[], [], .nop⟩] [none, some 1, none, some 3, some 8, some 11, some 6, some 7, some 8, none, none])
    ((.seq ((.seq (.reg [⟨[], [], .nop⟩, ⟨[], [], .bi .gtr (.e 4) (.c (.n 0))⟩] [none, some 1, none, some 3, none, some 5, some 6, some 7, some 8, none, some 11])
    (.cond 10 (.reg [⟨[], [], .nop⟩, ⟨[], [], .nop⟩, ⟨[], [], .bi .add (.e 3) (.e 1)⟩, ⟨[], [], .nop⟩] [none, some 1, none, some 11, none, some 5, some 6, some 7, some 8, none, none]) (.skip))))
    (.reg [⟨[], [], .nop⟩, ⟨[], [], .nop⟩, ⟨[], [], .bi .add (.e 3) (.e 5)⟩, ⟨[], [], .nop⟩] [none, some 1, none, some 11, none, none, some 6, some 7, some 8, none, none]))))))
   (.reg [⟨[], [], .bi .add (.e 8) (.c (.n 1))⟩, ⟨[], [], .nop⟩] [none, some 1, none, some 3, none, none, some 6, some 7, some 11, none, none])))))))))))
 ((.seq (.reg [⟨[], [], .nop⟩, ⟨[], [], .nop⟩] [none, none, some 3, none, none, none, none, none, none, none, none])
 (.ret))))))))⟩

/-- loop.example/g03401/impl.heights -/
def ir_impl_heights : IF := ⟨[], 1, 11, [1, 2],
 (.seq (.reg [⟨[], [], .cs (.o .v) (.l [])⟩, ⟨[], [], .cs .v (.b false)⟩] [some 0, none, none, none, none, none, none, none, none, none, none])
 ((.seq (.reg [⟨[], [], .li (.o .v) [(.c (.n 0))]⟩, ⟨[], [], .nop⟩] [some 0, none, none, some 11, none, none, none, none, none, none, none])
 ((.seq (.reg [⟨[], [], .cs .v (.n 0)⟩] [some 0, none, none, some 3, some 11, none, none, none, none, none, none])
 ((.seq ((.seq (.reg [⟨[], [], .cs .v (.n 0)⟩] [some 0, none, none, some 3, some 4, some 11, none, none, none, none, none])
 (.block 0 (.loop ((.seq ((.seq (.reg [⟨[], [], .nop⟩, ⟨[], [], .nop⟩, ⟨[], [], .sn (.e 0)⟩, ⟨[], [], .bi .lss (.e 5) (.e 11)⟩] [some 0, none, none, some 3, some 4, some 5, some 12, none, none, none, none])
   (.cond 6 (.skip) (.exit 0))))
   ((.seq (.block 1 ((.seq ((.seq (.reg [⟨[], [], .nop⟩, ⟨[], [], .nop⟩, ⟨[], [], .sx (.e 0) (.e 5)⟩] [some 0, none, none, some 3, some 4, some 5, none, some 11, none, none, none])
    (.block 2 ((.seq (.reg [⟨[], [], .bi .eql (.e 7) (.c (.y 117))⟩, ⟨[], [], .nop⟩] [some 0, none, none, some 3, some 4, some 5, none, some 7, some 11, none, none])
     (.cond 8 (.reg [⟨[], [], .nop⟩, ⟨[], [], .bi .add (.e 4) (.c (.n 1))⟩, ⟨[], [], .nop⟩] [some 0, none, none, some 3, some 11, some 5, none, none, none, none, none]) ((.seq (.reg [⟨[], [], .bi .eql (.e 7) (.c (.y 100))⟩, ⟨[], [], .nop⟩] [some 0, none, none, some 3, some 4, some 5, none, none, none, some 11, none])
      (.cond 9 (.reg [⟨[], [], .nop⟩, ⟨[], [], .bi .sub (.e 4) (.c (.n 1))⟩, ⟨[], [], .nop⟩] [some 0, none, none, some 3, some 11, some 5, none, none, none, none, none]) ((.seq (.reg [⟨[], [], .cs (.o .v) (.l [])⟩, ⟨[], [], .cs .v (.b false)⟩] [none, some 11, some 12, none, none, none, none, none, none, none, none])
       (.ret))))))))))))
    ((.seq ((.seq (.reg [⟨[], [], .nop⟩, ⟨[], [], .bi .lss (.e 4) (.c (.n 0))⟩] [some 0, none, none, some 3, some 4, some 5, none, none, none, none, some 11])
    (.cond 10 ((.seq (.reg [⟨[], [], .cs (.o .v) (.l [])⟩, ⟨[], [], .cs .v (.b false)⟩] [none, some 11, some 12, none, none, none, none, none, none, none, none])
     (.ret))) (.skip))))
    (.reg [⟨[], [], .nop⟩, ⟨[], [], .nop⟩, ⟨[], [], .li (.o .v) [(.e 4)]⟩, ⟨[], [], .ap false (.e 3) (.e 11)⟩, ⟨[], [], .nop⟩] [some 0, none, none, some 12, some 4, some 5, none, none, none, none, none]))))))
   (.reg [⟨[], [], .nop⟩, ⟨[], [], .bi .add (.e 5) (.c (.n 1))⟩, ⟨[], [], .nop⟩] [some 0, none, none, some 3, some 4, some 11, none, none, none, none, none])))))))))
 ((.seq (.reg [⟨[], [], .nop⟩, ⟨[], [], .nop⟩, ⟨[], [], .bi .eql (.e 4) (.c (.n 0))⟩, ⟨[], [], .nop⟩, ⟨[], [], .nop⟩] [none, some 3, some 11, none, none, none, none, none, none, none, none])
 (.ret))))))))))⟩

end Go.Cat

namespace Go.Cat
/-- loop.example/g03401/impl.BallotNumber -/
def ir_impl_BallotNumber : IF := ⟨[], 2, 15, [2],
 (.seq (.reg [⟨[], [], .cs .v (.n 0)⟩] [some 0, some 1, none, none, none, none, none, none, none, none, none, none, none, none, none])
 ((.seq ((.seq (.reg [⟨[], [], .nop⟩, ⟨[], [], .ca 23 [(.e 0), (.c (.n 0)), (.c (.n 15))] 1⟩, ⟨[], [], .un .not (.e 15)⟩, ⟨[], [], .nop⟩, ⟨[], [(16, false)], .cy (.e 1)⟩, ⟨[], [(16, false)], .cy (.e 0)⟩, ⟨[], [(16, false)], .ca 23 [(.e 17), (.e 18), (.c (.n 15))] 1⟩, ⟨[], [(16, false)], .un .not (.e 19)⟩, ⟨[], [], .pk (.e 16) (.c (.b true)) (.e 20)⟩] [some 0, some 1, none, none, none, none, none, none, some 21, none, none, none, none, none, none])
 (.cond 8 ((.seq (.reg [⟨[], [], .cs .v (.n 0)⟩] [none, none, some 15, none, none, none, none, none, none, none, none, none, none, none, none])
  (.ret))) (.skip))))
 ((.seq (.reg [⟨[], [], .nop⟩, ⟨[], [], .bi .add (.e 1) (.c (.n 1))⟩, ⟨[], [], .mk (.n 0) (.e 15) (.e 15)⟩, ⟨[], [], .nop⟩] [some 0, some 1, none, some 16, none, none, none, none, none, none, none, none, none, none, none])
 ((.seq ((.seq (.reg [⟨[], [], .nop⟩, ⟨[], [], .ln (.e 3) []⟩, ⟨[], [], .cs .v (.n 0)⟩] [some 0, some 1, none, some 3, none, none, none, none, none, some 15, some 16, none, none, none, none])
 (.block 0 (.loop ((.seq (.reg [⟨[], [], .bi .lss (.e 10) (.e 9)⟩] [some 0, some 1, none, some 3, none, none, none, none, none, some 9, some 10, some 15, none, none, none])
   ((.seq (.cond 11 (.skip) (.exit 0))
   ((.seq (.block 1 ((.seq (.reg [⟨[], [], .nop⟩, ⟨[], [], .nop⟩] [some 0, some 1, none, some 3, some 10, none, none, none, none, some 9, some 10, none, none, none, none])
    (.reg [⟨[], [], .nop⟩, ⟨[], [], .nop⟩, ⟨[], [], .ix (.e 3) [] (.e 4)⟩, ⟨[], [], .up 3 [.e 4] (.c (.n 1))⟩] [some 0, some 1, none, some 16, none, none, none, none, none, some 9, some 10, none, none, none, none]))))
   (.reg [⟨[], [], .bi .add (.e 10) (.c (.n 1))⟩, ⟨[], [], .nop⟩] [some 0, some 1, none, some 3, none, none, none, none, none, some 9, some 15, none, none, none, none])))))))))))
 ((.seq ((.seq (.reg [⟨[], [], .cs .v (.n 1)⟩] [some 0, some 1, none, some 3, none, some 15, none, none, none, none, none, none, none, none, none])
 (.block 2 (.loop ((.seq ((.seq (.reg [⟨[], [], .nop⟩, ⟨[], [], .nop⟩, ⟨[], [], .bi .leq (.e 5) (.e 0)⟩] [some 0, some 1, none, some 3, none, some 5, none, none, none, none, none, none, some 15, none, none])
   (.cond 12 (.skip) (.exit 2))))
   ((.seq (.block 3 ((.seq (.reg [⟨[], [], .nop⟩, ⟨[], [], .bi .add (.e 1) (.c (.n 1))⟩, ⟨[], [], .mk (.n 0) (.e 15) (.e 15)⟩, ⟨[], [], .nop⟩] [some 0, some 1, none, some 3, none, some 5, some 16, none, none, none, none, none, none, none, none])
    ((.seq ((.seq (.reg [⟨[], [], .nop⟩, ⟨[], [], .nop⟩] [some 0, some 1, none, some 3, none, some 5, some 6, some 5, none, none, none, none, none, none, none])
    (.block 4 (.loop ((.seq ((.seq (.reg [⟨[], [], .nop⟩, ⟨[], [], .nop⟩, ⟨[], [], .bi .leq (.e 7) (.e 1)⟩] [some 0, some 1, none, some 3, none, some 5, some 6, some 7, none, none, none, none, none, some 15, none])
      (.cond 13 (.skip) (.exit 4))))
      ((.seq (.block 5 ((.seq (.reg [⟨[], [], .nop⟩, ⟨[], [], .nop⟩, ⟨[], [], .nop⟩, ⟨[], [], .nop⟩, ⟨[], [], .ix (.e 3) [] (.e 7)⟩, ⟨[], [], .nop⟩, ⟨[], [], .ix (.e 6) [] (.e 7)⟩, ⟨[], [], .up 6 [.e 7] (.e 15)⟩] [some 0, some 1, none, some 3, none, some 5, some 17, some 7, none, none, none, none, none, none, none])
       ((.seq (.reg [⟨[], [], .nop⟩, ⟨[], [], .nop⟩, ⟨[], [], .bi .gtr (.e 7) (.e 5)⟩] [some 0, some 1, none, some 3, none, some 5, some 6, some 7, none, none, none, none, none, none, some 15])
       (.cond 14 (.reg [⟨[], [], .nop⟩, ⟨[], [], .nop⟩, ⟨[], [], .nop⟩, ⟨[], [], .nop⟩, ⟨[], [], .ix (.e 6) [] (.e 7)⟩, ⟨[], [], .nop⟩, ⟨[], [], .nop⟩, ⟨[], [], .nop⟩, ⟨[], [], .bi .sub (.e 7) (.c (.n 1))⟩, ⟨[], [], .ix (.e 6) [] (.e 16)⟩, ⟨[], [], .nop⟩, ⟨[], [], .bi .add (.e 15) (.e 17)⟩, ⟨[], [], .ix (.e 6) [] (.e 7)⟩, ⟨[], [], .up 6 [.e 7] (.e 18)⟩] [some 0, some 1, none, some 3, none, some 5, some 20, some 7, none, none, none, none, none, none, none]) (.skip)))))))
      (.reg [⟨[], [], .nop⟩, ⟨[], [], .bi .add (.e 7) (.c (.n 1))⟩, ⟨[], [], .nop⟩] [some 0, some 1, none, some 3, none, some 5, some 6, some 15, none, none, none, none, none, none, none])))))))))
    (.reg [⟨[], [], .nop⟩, ⟨[], [], .nop⟩] [some 0, some 1, none, some 6, none, some 5, none, none, none, none, none, none, none, none, none]))))))
   (.reg [⟨[], [], .nop⟩, ⟨[], [], .bi .add (.e 5) (.c (.n 1))⟩, ⟨[], [], .nop⟩] [some 0, some 1, none, some 3, none, some 15, none, none, none, none, none, none, none, none, none])))))))))
 ((.seq (.reg [⟨[], [], .nop⟩, ⟨[], [], .nop⟩, ⟨[], [], .ix (.e 3) [] (.e 1)⟩, ⟨[], [], .nop⟩, ⟨[], [], .nop⟩] [none, none, some 15, none, none, none, none, none, none, none, none, none, none, none, none])
 (.ret))))))))))))⟩

/-- loop.example/g03401/impl.RankPath -/
def ir_impl_RankPath : IF := ⟨[], 1, 10, [1],
 (.seq (.reg [⟨[], [], .cs .v (.n 0)⟩] [some 0, none, none, none, none, none, none, none, none, none])
 ((.seq ((.seq (.reg [⟨[], [], .nop⟩, ⟨[], [], .ca 67 [(.e 0)] 1⟩, ⟨[], [], .un .not (.e 10)⟩] [some 0, none, none, none, none, none, some 11, none, none, none])
 (.cond 6 ((.seq (.reg [⟨[], [], .cs .v (.n (-1))⟩] [none, some 10, none, none, none, none, none, none, none, none])
  (.ret))) (.skip))))
 ((.seq (.reg [⟨[], [], .cs .v (.n 0)⟩] [some 0, none, some 10, none, none, none, none, none, none, none])
 ((.seq (.reg [⟨[], [], .nop⟩, ⟨[], [], .sn (.e 0)⟩, ⟨[], [], .bi .quo (.e 10) (.c (.n 2))⟩, ⟨[], [], .nop⟩, ⟨[], [], .sn (.e 0)⟩, ⟨[], [], .bi .quo (.e 12) (.c (.n 2))⟩, ⟨[], [], .nop⟩, ⟨[], [], .nop⟩] [some 0, none, some 2, some 11, some 13, none, none, none, none, none])
 ((.seq ((.seq (.reg [⟨[], [], .cs .v (.n 0)⟩] [some 0, none, some 2, some 3, some 4, some 10, none, none, none, none])
 (.block 0 (.loop ((.seq ((.seq (.reg [⟨[], [], .nop⟩, ⟨[], [], .nop⟩, ⟨[], [], .sn (.e 0)⟩, ⟨[], [], .bi .lss (.e 5) (.e 10)⟩] [some 0, none, some 2, some 3, some 4, some 5, none, some 11, none, none])
   (.cond 7 (.skip) (.exit 0))))
   ((.seq (.block 1 ((.seq ((.seq (.reg [⟨[], [], .nop⟩, ⟨[], [], .nop⟩, ⟨[], [], .sx (.e 0) (.e 5)⟩, ⟨[], [], .bi .eql (.e 10) (.c (.y 117))⟩] [some 0, none, some 2, some 3, some 4, some 5, none, none, some 11, none])
    (.cond 8 ((.seq (.reg [⟨[], [], .nop⟩, ⟨[], [], .bi .sub (.e 3) (.c (.n 1))⟩, ⟨[], [], .nop⟩] [some 0, none, some 2, some 10, some 4, some 5, none, none, none, none])
     (.exit 1))) (.skip))))
    ((.seq ((.seq (.reg [⟨[], [], .nop⟩, ⟨[], [], .bi .gtr (.e 3) (.c (.n 0))⟩] [some 0, none, some 2, some 3, some 4, some 5, none, none, none, some 10])
    (.cond 9 (.reg [⟨[], [], .nop⟩, ⟨[], [], .nop⟩, ⟨[], [], .bi .sub (.e 3) (.c (.n 1))⟩, ⟨[], [], .nop⟩, ⟨[], [], .ca 27 [(.e 10), (.e 4)] 1⟩, ⟨[], [], .bi .add (.e 2) (.e 11)⟩, ⟨[], [], .nop⟩] [some 0, none, some 12, some 3, some 4, some 5, none, none, none, none]) (.skip))))
    (.reg [⟨[], [], .nop⟩, ⟨[], [], .bi .sub (.e 4) (.c (.n 1))⟩, ⟨[], [], .nop⟩] [some 0, none, some 2, some 3, some 10, some 5, none, none, none, none]))))))
   (.reg [⟨[], [], .nop⟩, ⟨[], [], .bi .add (.e 5) (.c (.n 1))⟩, ⟨[], [], .nop⟩] [some 0, none, some 2, some 3, some 4, some 10, none, none, none, none])))))))))
 ((.seq (.reg [⟨[], [], .nop⟩, ⟨[], [], .nop⟩] [none, some 2, none, none, none, none, none, none, none, none])
 (.ret))))))))))))⟩

end Go.Cat

namespace Go.Cat
/-- loop.example/g03401/impl.BracketsOf -/
def ir_impl_BracketsOf : IF := ⟨[], 1, 4, [1, 2],
 (.seq (.reg [⟨[], [], .cs .v (.s [])⟩, ⟨[], [], .cs .v (.b false)⟩] [some 0, none, none, none])
 ((.seq ((.seq (.reg [⟨[], [], .nop⟩, ⟨[], [], .ca 67 [(.e 0)] 1⟩, ⟨[], [], .un .not (.e 4)⟩] [some 0, none, none, some 5])
 (.cond 3 ((.seq (.reg [⟨[], [], .cs .v (.s [])⟩, ⟨[], [], .cs .v (.b false)⟩] [none, some 4, some 5, none])
  (.ret))) (.skip))))
 ((.seq (.reg [⟨[], [], .nop⟩, ⟨[], [], .ca 83 [(.e 0), (.c (.s [117, 100])), (.c (.s [40, 41]))] 2⟩, ⟨[], [], .nop⟩, ⟨[], [], .nop⟩, ⟨[], [], .nop⟩, ⟨[], [], .nop⟩] [none, some 4, some 5, none])
 (.ret))))))⟩

/-- loop.example/g03401/impl.DepthOf -/
def ir_impl_DepthOf : IF := ⟨[], 1, 11, [1],
 (.seq (.reg [⟨[], [], .cs .v (.n 0)⟩] [some 0, none, none, none, none, none, none, none, none, none, none])
 ((.seq (.reg [⟨[], [], .nop⟩, ⟨[], [], .ca 515 [(.e 0)] 2⟩, ⟨[], [], .nop⟩, ⟨[], [], .nop⟩, ⟨[], [], .nop⟩, ⟨[], [], .nop⟩, ⟨[], [], .nop⟩] [none, none, some 11, some 12, none, none, none, none, none, none, none])
 ((.seq ((.seq (.reg [⟨[], [], .nop⟩, ⟨[], [], .un .not (.e 3)⟩] [none, none, some 2, none, none, none, some 11, none, none, none, none])
 (.cond 6 ((.seq (.reg [⟨[], [], .cs .v (.n (-1))⟩] [none, some 11, none, none, none, none, none, none, none, none, none])
  (.ret))) (.skip))))
 ((.seq (.reg [⟨[], [], .cs .v (.n 0)⟩] [none, none, some 2, none, some 11, none, none, none, none, none, none])
 ((.seq ((.seq (.reg [⟨[], [], .nop⟩, ⟨[], [], .ca 501 [(.e 2)] 1⟩, ⟨[], [], .ln (.e 11) []⟩, ⟨[], [], .cs .v (.n 0)⟩] [none, none, none, none, some 4, none, none, some 11, some 12, some 13, none])
 (.block 0 (.loop ((.seq (.reg [⟨[], [], .bi .lss (.e 9) (.e 8)⟩] [none, none, none, none, some 4, none, none, some 7, some 8, some 9, some 11])
   ((.seq (.cond 10 (.skip) (.exit 0))
   ((.seq (.block 1 ((.seq (.reg [⟨[], [], .ix (.e 7) [] (.e 9)⟩, ⟨[], [], .nop⟩, ⟨[], [], .nop⟩] [none, none, none, none, some 4, some 11, none, some 7, some 8, some 9, none])
    (.reg [⟨[], [], .nop⟩, ⟨[], [], .nop⟩, ⟨[], [], .mx (.e 4) (.e 5)⟩, ⟨[], [], .nop⟩] [none, none, none, none, some 11, none, none, some 7, some 8, some 9, none]))))
   (.reg [⟨[], [], .bi .add (.e 9) (.c (.n 1))⟩, ⟨[], [], .nop⟩] [none, none, none, none, some 4, none, none, some 7, some 8, some 11, none])))))))))))
 ((.seq (.reg [⟨[], [], .nop⟩, ⟨[], [], .nop⟩] [none, some 4, none, none, none, none, none, none, none, none, none])
 (.ret))))))))))))⟩

/-- loop.example/g03401/impl.PathOfBrackets -/
def ir_impl_PathOfBrackets : IF := ⟨[], 1, 6, [1, 2],
 (.seq (.reg [⟨[], [], .cs .v (.s [])⟩, ⟨[], [], .cs .v (.b false)⟩] [some 0, none, none, none, none, none])
 ((.seq (.reg [⟨[], [], .nop⟩, ⟨[], [], .ca 83 [(.e 0), (.c (.s [40, 41])), (.c (.s [117, 100]))] 2⟩, ⟨[], [], .nop⟩, ⟨[], [], .nop⟩, ⟨[], [], .nop⟩, ⟨[], [], .nop⟩, ⟨[], [], .nop⟩] [none, none, none, some 6, some 7, none])
 ((.seq ((.seq (.reg [⟨[], [], .nop⟩, ⟨[], [], .un .not (.e 4)⟩, ⟨[], [], .nop⟩, ⟨[], [(6, false)], .cy (.e 3)⟩, ⟨[], [(6, false)], .ca 67 [(.e 7)] 1⟩, ⟨[], [(6, false)], .un .not (.e 8)⟩, ⟨[], [], .pk (.e 6) (.c (.b true)) (.e 9)⟩] [none, none, none, some 3, none, some 10])
 (.cond 5 ((.seq (.reg [⟨[], [], .cs .v (.s [])⟩, ⟨[], [], .cs .v (.b false)⟩] [none, some 6, some 7, none, none, none])
  (.ret))) (.skip))))
 ((.seq (.reg [⟨[], [], .nop⟩, ⟨[], [], .nop⟩, ⟨[], [], .cs .v (.b true)⟩] [none, some 3, some 6, none, none, none])
 (.ret))))))))⟩

/-- loop.example/g03401/impl.exchanged -/
def ir_impl_exchanged : IF := ⟨[], 3, 11, [3, 4],
 (.seq (.reg [⟨[], [], .cs .v (.s [])⟩, ⟨[], [], .cs .v (.b false)⟩] [some 0, some 1, some 2, none, none, none, none, none, none, none, none])
 ((.seq (.reg [⟨[], [], .li (.o .v) []⟩, ⟨[], [], .nop⟩] [some 0, some 1, some 2, none, none, some 11, none, none, none, none, none])
 ((.seq ((.seq (.reg [⟨[], [], .cs .v (.n 0)⟩] [some 0, some 1, some 2, none, none, some 5, some 11, none, none, none, none])
 (.block 0 (.loop ((.seq ((.seq (.reg [⟨[], [], .nop⟩, ⟨[], [], .nop⟩, ⟨[], [], .sn (.e 0)⟩, ⟨[], [], .bi .lss (.e 6) (.e 11)⟩] [some 0, some 1, some 2, none, none, some 5, some 6, some 12, none, none, none])
   (.cond 7 (.skip) (.exit 0))))
   ((.seq (.block 1 ((.seq (.reg [⟨[], [], .nop⟩, ⟨[], [], .nop⟩, ⟨[], [], .sx (.e 0) (.e 6)⟩] [some 0, some 1, some 2, none, none, some 5, some 6, none, some 11, none, none])
    (.block 2 ((.seq (.reg [⟨[], [], .nop⟩, ⟨[], [], .sx (.e 1) (.c (.n 0))⟩, ⟨[], [], .bi .eql (.e 8) (.e 11)⟩, ⟨[], [], .nop⟩] [some 0, some 1, some 2, none, none, some 5, some 6, none, some 8, some 12, none])
     (.cond 9 (.reg [⟨[], [], .nop⟩, ⟨[], [], .nop⟩, ⟨[], [], .sx (.e 2) (.c (.n 0))⟩, ⟨[], [], .li (.o .v) [(.e 11)]⟩, ⟨[], [], .ap false (.e 5) (.e 12)⟩, ⟨[], [], .nop⟩] [some 0, some 1, some 2, none, none, some 13, some 6, none, none, none, none]) ((.seq (.reg [⟨[], [], .nop⟩, ⟨[], [], .sx (.e 1) (.c (.n 1))⟩, ⟨[], [], .bi .eql (.e 8) (.e 11)⟩, ⟨[], [], .nop⟩] [some 0, some 1, some 2, none, none, some 5, some 6, none, none, none, some 12])
      (.cond 10 (.reg [⟨[], [], .nop⟩, ⟨[], [], .nop⟩, ⟨[], [], .sx (.e 2) (.c (.n 1))⟩, ⟨[], [], .li (.o .v) [(.e 11)]⟩, ⟨[], [], .ap false (.e 5) (.e 12)⟩, ⟨[], [], .nop⟩] [some 0, some 1, some 2, none, none, some 13, some 6, none, none, none, none]) ((.seq (.reg [⟨[], [], .cs .v (.s [])⟩, ⟨[], [], .cs .v (.b false)⟩] [none, none, none, some 11, some 12, none, none, none, none, none, none])
       (.ret)))))))))))))
   (.reg [⟨[], [], .nop⟩, ⟨[], [], .bi .add (.e 6) (.c (.n 1))⟩, ⟨[], [], .nop⟩] [some 0, some 1, some 2, none, none, some 5, some 11, none, none, none, none])))))))))
 ((.seq (.reg [⟨[], [], .nop⟩, ⟨[], [], .bs (.e 5)⟩, ⟨[], [], .nop⟩, ⟨[], [], .cs .v (.b true)⟩] [none, none, none, some 11, some 12, none, none, none, none, none, none])
 (.ret))))))))⟩

/-- loop.example/g03401/impl.partners -/
def ir_impl_partners : IF := ⟨[], 1, 8, [1],
 (.seq (.reg [⟨[], [], .cs (.o .v) (.l [])⟩] [some 0, none, none, none, none, none, none, none])
 ((.seq (.reg [⟨[], [], .nop⟩, ⟨[], [], .sn (.e 0)⟩, ⟨[], [], .mk (.n 0) (.e 8) (.e 8)⟩, ⟨[], [], .nop⟩] [some 0, none, some 9, none, none, none, none, none])
 ((.seq (.reg [⟨[], [], .li (.o .v) []⟩, ⟨[], [], .nop⟩] [some 0, none, some 2, some 8, none, none, none, none])
 ((.seq ((.seq (.reg [⟨[], [], .cs .v (.n 0)⟩] [some 0, none, some 2, some 3, some 8, none, none, none])
 (.block 0 (.loop ((.seq ((.seq (.reg [⟨[], [], .nop⟩, ⟨[], [], .nop⟩, ⟨[], [], .sn (.e 0)⟩, ⟨[], [], .bi .lss (.e 4) (.e 8)⟩] [some 0, none, some 2, some 3, some 4, none, some 9, none])
   (.cond 6 (.skip) (.exit 0))))
   ((.seq (.block 1 ((.seq ((.seq (.reg [⟨[], [], .nop⟩, ⟨[], [], .nop⟩, ⟨[], [], .sx (.e 0) (.e 4)⟩, ⟨[], [], .bi .eql (.e 8) (.c (.y 117))⟩] [some 0, none, some 2, some 3, some 4, none, none, some 9])
    (.cond 7 ((.seq (.reg [⟨[], [], .nop⟩, ⟨[], [], .nop⟩, ⟨[], [], .li (.o .v) [(.e 4)]⟩, ⟨[], [], .ap false (.e 3) (.e 8)⟩, ⟨[], [], .nop⟩] [some 0, none, some 2, some 9, some 4, none, none, none])
     (.exit 1))) (.skip))))
    ((.seq (.reg [⟨[], [], .nop⟩, ⟨[], [], .nop⟩, ⟨[], [], .ln (.e 3) []⟩, ⟨[], [], .bi .sub (.e 8) (.c (.n 1))⟩, ⟨[], [], .ix (.e 3) [] (.e 9)⟩, ⟨[], [], .nop⟩, ⟨[], [], .nop⟩] [some 0, none, some 2, some 3, some 4, some 10, none, none])
    ((.seq (.reg [⟨[], [], .nop⟩, ⟨[], [], .nop⟩, ⟨[], [], .ln (.e 3) []⟩, ⟨[], [], .bi .sub (.e 8) (.c (.n 1))⟩, ⟨[], [], .sb true (.e 3) none (some (.e 9))⟩, ⟨[], [], .nop⟩] [some 0, none, some 2, some 10, some 4, some 5, none, none])
    ((.seq (.reg [⟨[], [], .nop⟩, ⟨[], [], .nop⟩, ⟨[], [], .nop⟩, ⟨[], [], .ix (.e 2) [] (.e 4)⟩, ⟨[], [], .up 2 [.e 4] (.e 5)⟩] [some 0, none, some 9, some 3, some 4, some 5, none, none])
    (.reg [⟨[], [], .nop⟩, ⟨[], [], .nop⟩, ⟨[], [], .nop⟩, ⟨[], [], .ix (.e 2) [] (.e 5)⟩, ⟨[], [], .up 2 [.e 5] (.e 4)⟩] [some 0, none, some 9, some 3, some 4, none, none, none]))))))))))
   (.reg [⟨[], [], .nop⟩, ⟨[], [], .bi .add (.e 4) (.c (.n 1))⟩, ⟨[], [], .nop⟩] [some 0, none, some 2, some 3, some 8, none, none, none])))))))))
 ((.seq (.reg [⟨[], [], .nop⟩, ⟨[], [], .nop⟩] [none, some 2, none, none, none, none, none, none])
 (.ret))))))))))⟩

end Go.Cat

namespace Go.Cat
/-- loop.example/g03401/impl.ChildrenOf -/
def ir_impl_ChildrenOf : IF := ⟨[], 2, 12, [2],
 (.seq (.reg [⟨[], [], .cs (.o .v) (.l [])⟩] [some 0, some 1, none, none, none, none, none, none, none, none, none, none])
 ((.seq (.reg [⟨[], [], .li (.o .v) []⟩, ⟨[], [], .nop⟩] [some 0, some 1, none, some 12, none, none, none, none, none, none, none, none])
 ((.seq ((.seq (.reg [⟨[], [], .nop⟩, ⟨[], [], .ca 516 [(.e 0)] 1⟩, ⟨[], [], .un .not (.e 12)⟩, ⟨[], [], .nop⟩, ⟨[], [(13, false)], .cy (.e 1)⟩, ⟨[], [(13, false)], .bi .lss (.e 14) (.c (.n 0))⟩, ⟨[], [], .pk (.e 13) (.c (.b true)) (.e 15)⟩] [some 0, some 1, none, some 3, none, none, some 16, none, none, none, none, none])
 (.cond 6 ((.seq (.reg [⟨[], [], .nop⟩, ⟨[], [], .nop⟩] [none, none, some 3, none, none, none, none, none, none, none, none, none])
  (.ret))) (.skip))))
 ((.seq ((.seq (.reg [⟨[], [], .nop⟩, ⟨[], [], .ln (.e 0) []⟩, ⟨[], [], .cs .v (.n 0)⟩] [none, some 1, none, some 3, none, none, none, some 0, some 12, some 13, none, none])
 (.block 0 (.loop ((.seq (.reg [⟨[], [], .bi .lss (.e 9) (.e 8)⟩] [none, some 1, none, some 3, none, none, none, some 7, some 8, some 9, some 12, none])
   ((.seq (.cond 10 (.skip) (.exit 0))
   ((.seq (.block 1 ((.seq (.reg [⟨[], [], .nop⟩, ⟨[], [], .iy (.e 7) (.e 9)⟩, ⟨[], [], .nop⟩, ⟨[], [], .nop⟩, ⟨[], [], .nop⟩] [none, some 1, none, some 3, some 9, some 12, none, some 7, some 8, some 9, none, none])
    ((.seq (.reg [⟨[], [], .nop⟩, ⟨[], [], .nop⟩, ⟨[], [], .bi .eql (.e 5) (.e 1)⟩] [none, some 1, none, some 3, some 4, none, none, some 7, some 8, some 9, none, some 12])
    (.cond 11 (.reg [⟨[], [], .nop⟩, ⟨[], [], .nop⟩, ⟨[], [], .li (.o .v) [(.e 4)]⟩, ⟨[], [], .ap false (.e 3) (.e 12)⟩, ⟨[], [], .nop⟩] [none, some 1, none, some 13, none, none, none, some 7, some 8, some 9, none, none]) (.skip)))))))
   (.reg [⟨[], [], .bi .add (.e 9) (.c (.n 1))⟩, ⟨[], [], .nop⟩] [none, some 1, none, some 3, none, none, none, some 7, some 8, some 12, none, none])))))))))))
 ((.seq (.reg [⟨[], [], .nop⟩, ⟨[], [], .nop⟩] [none, none, some 3, none, none, none, none, none, none, none, none, none])
 (.ret))))))))))⟩

/-- loop.example/g03401/impl.IsPlane -/
def ir_impl_IsPlane : IF := ⟨[], 1, 8, [1],
 (.seq (.reg [⟨[], [], .cs .v (.b false)⟩] [some 0, none, none, none, none, none, none, none])
 ((.seq ((.seq (.reg [⟨[], [], .nop⟩, ⟨[], [], .ln (.e 0) []⟩, ⟨[], [], .ca 23 [(.e 8), (.c (.n 1)), (.c (.n 9))] 1⟩, ⟨[], [], .un .not (.e 9)⟩, ⟨[], [], .nop⟩, ⟨[], [(10, false)], .nop⟩, ⟨[], [(10, false)], .iy (.e 0) (.c (.n 0))⟩, ⟨[], [(10, false)], .nop⟩, ⟨[], [(10, false)], .bi .neq (.e 11) (.c (.n (-1)))⟩, ⟨[], [], .pk (.e 10) (.c (.b true)) (.e 12)⟩] [some 0, none, none, none, some 13, none, none, none])
 (.cond 4 ((.seq (.reg [⟨[], [], .cs .v (.b false)⟩] [none, some 8, none, none, none, none, none, none])
  (.ret))) (.skip))))
 ((.seq ((.seq (.reg [⟨[], [], .cs .v (.n 1)⟩] [some 0, none, some 8, none, none, none, none, none])
 (.block 0 (.loop ((.seq ((.seq (.reg [⟨[], [], .nop⟩, ⟨[], [], .nop⟩, ⟨[], [], .ln (.e 0) []⟩, ⟨[], [], .bi .lss (.e 2) (.e 8)⟩] [some 0, none, some 2, none, none, some 9, none, none])
   (.cond 5 (.skip) (.exit 0))))
   ((.seq (.block 1 ((.seq (.reg [⟨[], [], .nop⟩, ⟨[], [], .bi .sub (.e 2) (.c (.n 1))⟩, ⟨[], [], .nop⟩] [some 0, none, some 2, some 8, none, none, none, none])
    ((.seq (.block 2 (.loop ((.seq ((.seq (.reg [⟨[], [], .nop⟩, ⟨[], [], .bi .geq (.e 3) (.c (.n 0))⟩, ⟨[], [], .nop⟩, ⟨[], [(8, true)], .cy (.e 3)⟩, ⟨[], [(8, true)], .nop⟩, ⟨[], [(8, true)], .cy (.e 2)⟩, ⟨[], [(8, true)], .iy (.e 0) (.e 10)⟩, ⟨[], [(8, true)], .nop⟩, ⟨[], [(8, true)], .bi .neq (.e 9) (.e 11)⟩, ⟨[], [], .pk (.e 8) (.e 12) (.c (.b false))⟩] [some 0, none, some 2, some 3, none, none, some 13, none])
      (.cond 6 (.skip) (.exit 2))))
      (.block 3 (.reg [⟨[], [], .nop⟩, ⟨[], [], .nop⟩, ⟨[], [], .iy (.e 0) (.e 3)⟩, ⟨[], [], .nop⟩, ⟨[], [], .nop⟩] [some 0, none, some 2, some 8, none, none, none, none]))))))
    ((.seq (.reg [⟨[], [], .nop⟩, ⟨[], [], .bi .lss (.e 3) (.c (.n 0))⟩] [some 0, none, some 2, none, none, none, none, some 8])
    (.cond 7 ((.seq (.reg [⟨[], [], .cs .v (.b false)⟩] [none, some 8, none, none, none, none, none, none])
     (.ret))) (.skip)))))))))
   (.reg [⟨[], [], .nop⟩, ⟨[], [], .bi .add (.e 2) (.c (.n 1))⟩, ⟨[], [], .nop⟩] [some 0, none, some 8, none, none, none, none, none])))))))))
 ((.seq (.reg [⟨[], [], .cs .v (.b true)⟩] [none, some 8, none, none, none, none, none, none])
 (.ret))))))))⟩

/-- loop.example/g03401/impl.LeavesOf -/
def ir_impl_LeavesOf : IF := ⟨[], 1, 8, [1],
 (.seq (.reg [⟨[], [], .cs .v (.n 0)⟩] [some 0, none, none, none, none, none, none, none])
 ((.seq (.reg [⟨[], [], .cs .v (.n 0)⟩] [some 0, none, some 8, none, none, none, none, none])
 ((.seq ((.seq (.reg [⟨[], [], .nop⟩, ⟨[], [], .ln (.e 0) []⟩, ⟨[], [], .cs .v (.n 0)⟩] [some 0, none, some 2, none, some 8, some 9, none, none])
 (.block 0 (.loop ((.seq (.reg [⟨[], [], .bi .lss (.e 5) (.e 4)⟩] [some 0, none, some 2, none, some 4, some 5, some 8, none])
   ((.seq (.cond 6 (.skip) (.exit 0))
   ((.seq (.block 1 ((.seq (.reg [⟨[], [], .nop⟩, ⟨[], [], .nop⟩] [some 0, none, some 2, some 5, some 4, some 5, none, none])
    ((.seq (.reg [⟨[], [], .nop⟩, ⟨[], [], .ca 516 [(.e 0)] 1⟩, ⟨[], [], .nop⟩, ⟨[], [(8, true)], .nop⟩, ⟨[], [(8, true)], .cy (.e 3)⟩, ⟨[], [(8, true)], .ca 517 [(.e 0), (.e 9)] 1⟩, ⟨[], [(8, true)], .ln (.e 10) []⟩, ⟨[], [(8, true)], .bi .eql (.e 11) (.c (.n 0))⟩, ⟨[], [], .pk (.e 8) (.e 12) (.c (.b false))⟩] [some 0, none, some 2, none, some 4, some 5, none, some 13])
    (.cond 7 (.reg [⟨[], [], .nop⟩, ⟨[], [], .bi .add (.e 2) (.c (.n 1))⟩, ⟨[], [], .nop⟩] [some 0, none, some 8, none, some 4, some 5, none, none]) (.skip)))))))
   (.reg [⟨[], [], .bi .add (.e 5) (.c (.n 1))⟩, ⟨[], [], .nop⟩] [some 0, none, some 2, none, some 4, some 8, none, none])))))))))))
 ((.seq (.reg [⟨[], [], .nop⟩, ⟨[], [], .nop⟩] [none, some 2, none, none, none, none, none, none])
 (.ret))))))))⟩

/-- loop.example/g03401/impl.PlaneOf -/
def ir_impl_PlaneOf : IF := ⟨[], 1, 9, [1, 2],
 (.seq (.reg [⟨[], [], .cs (.o .v) (.l [])⟩, ⟨[], [], .cs .v (.b false)⟩] [some 0, none, none, none, none, none, none, none, none])
 ((.seq ((.seq (.reg [⟨[], [], .nop⟩, ⟨[], [], .ca 67 [(.e 0)] 1⟩, ⟨[], [], .un .not (.e 9)⟩] [some 0, none, none, none, none, none, some 10, none, none])
 (.cond 6 ((.seq (.reg [⟨[], [], .li (.o .v) []⟩, ⟨[], [], .nop⟩, ⟨[], [], .cs .v (.b false)⟩] [none, some 9, some 10, none, none, none, none, none, none])
  (.ret))) (.skip))))
 ((.seq (.reg [⟨[], [], .li (.o .v) [(.c (.n (-1)))]⟩, ⟨[], [], .nop⟩] [some 0, none, none, some 9, none, none, none, none, none])
 ((.seq (.reg [⟨[], [], .li (.o .v) [(.c (.n 0))]⟩, ⟨[], [], .nop⟩] [some 0, none, none, some 3, some 9, none, none, none, none])
 ((.seq ((.seq (.reg [⟨[], [], .cs .v (.n 0)⟩] [some 0, none, none, some 3, some 4, some 9, none, none, none])
 (.block 0 (.loop ((.seq ((.seq (.reg [⟨[], [], .nop⟩, ⟨[], [], .nop⟩, ⟨[], [], .sn (.e 0)⟩, ⟨[], [], .bi .lss (.e 5) (.e 9)⟩] [some 0, none, none, some 3, some 4, some 5, none, some 10, none])
   (.cond 7 (.skip) (.exit 0))))
   ((.seq (.block 1 ((.seq ((.seq (.reg [⟨[], [], .nop⟩, ⟨[], [], .nop⟩, ⟨[], [], .sx (.e 0) (.e 5)⟩, ⟨[], [], .bi .eql (.e 9) (.c (.y 100))⟩] [some 0, none, none, some 3, some 4, some 5, none, none, some 10])
    (.cond 8 ((.seq (.reg [⟨[], [], .nop⟩, ⟨[], [], .nop⟩, ⟨[], [], .ln (.e 4) []⟩, ⟨[], [], .bi .sub (.e 9) (.c (.n 1))⟩, ⟨[], [], .sb true (.e 4) none (some (.e 10))⟩, ⟨[], [], .nop⟩] [some 0, none, none, some 3, some 11, some 5, none, none, none])
     (.exit 1))) (.skip))))
    ((.seq (.reg [⟨[], [], .nop⟩, ⟨[], [], .nop⟩, ⟨[], [], .nop⟩, ⟨[], [], .ln (.e 4) []⟩, ⟨[], [], .bi .sub (.e 9) (.c (.n 1))⟩, ⟨[], [], .ix (.e 4) [] (.e 10)⟩, ⟨[], [], .nop⟩, ⟨[], [], .li (.o .v) [(.e 11)]⟩, ⟨[], [], .ap false (.e 3) (.e 12)⟩, ⟨[], [], .nop⟩] [some 0, none, none, some 13, some 4, some 5, none, none, none])
    (.reg [⟨[], [], .nop⟩, ⟨[], [], .nop⟩, ⟨[], [], .ln (.e 3) []⟩, ⟨[], [], .bi .sub (.e 9) (.c (.n 1))⟩, ⟨[], [], .li (.o .v) [(.e 10)]⟩, ⟨[], [], .ap false (.e 4) (.e 11)⟩, ⟨[], [], .nop⟩] [some 0, none, none, some 3, some 12, some 5, none, none, none]))))))
   (.reg [⟨[], [], .nop⟩, ⟨[], [], .bi .add (.e 5) (.c (.n 1))⟩, ⟨[], [], .nop⟩] [some 0, none, none, some 3, some 4, some 9, none, none, none])))))))))
 ((.seq (.reg [⟨[], [], .nop⟩, ⟨[], [], .nop⟩, ⟨[], [], .cs .v (.b true)⟩] [none, some 3, some 9, none, none, none, none, none, none])
 (.ret))))))))))))⟩

end Go.Cat

namespace Go.Cat
/-- loop.example/g03401/impl.BlocksOf -/
def ir_impl_BlocksOf : IF := ⟨[], 1, 11, [1],
 (.seq (.reg [⟨[], [], .cs .v (.l [])⟩] [some 0, none, none, none, none, none, none, none, none, none, none])
 ((.seq (.reg [⟨[], [], .li (.o (.o .v)) []⟩, ⟨[], [], .nop⟩] [some 0, none, some 11, none, none, none, none, none, none, none, none])
 ((.seq ((.seq (.reg [⟨[], [], .nop⟩, ⟨[], [], .ca 478 [(.e 0)] 1⟩, ⟨[], [], .un .not (.e 11)⟩] [some 0, none, some 2, none, none, some 12, none, none, none, none, none])
 (.cond 5 ((.seq (.reg [⟨[], [], .nop⟩, ⟨[], [], .nop⟩] [none, some 2, none, none, none, none, none, none, none, none, none])
  (.ret))) (.skip))))
 ((.seq ((.seq (.reg [⟨[], [], .nop⟩, ⟨[], [], .ln (.e 0) []⟩, ⟨[], [], .cs .v (.n 0)⟩] [none, none, some 2, none, none, none, some 0, some 11, some 12, none, none])
 (.block 0 (.loop ((.seq (.reg [⟨[], [], .bi .lss (.e 8) (.e 7)⟩] [none, none, some 2, none, none, none, some 6, some 7, some 8, some 11, none])
   ((.seq (.cond 9 (.skip) (.exit 0))
   ((.seq (.block 1 ((.seq (.reg [⟨[], [], .nop⟩, ⟨[], [], .iy (.e 6) (.e 8)⟩, ⟨[], [], .nop⟩, ⟨[], [], .nop⟩, ⟨[], [], .nop⟩] [none, none, some 2, some 8, some 11, none, some 6, some 7, some 8, none, none])
    ((.seq ((.seq (.reg [⟨[], [], .nop⟩, ⟨[], [], .nop⟩, ⟨[], [], .ln (.e 2) []⟩, ⟨[], [], .bi .eql (.e 4) (.e 11)⟩] [none, none, some 2, some 3, some 4, none, some 6, some 7, some 8, none, some 12])
    (.cond 10 (.reg [⟨[], [], .nop⟩, ⟨[], [], .li (.o .v) []⟩, ⟨[], [], .li (.o (.o .v)) [(.e 11)]⟩, ⟨[], [], .ap false (.e 2) (.e 12)⟩, ⟨[], [], .nop⟩] [none, none, some 13, some 3, some 4, none, some 6, some 7, some 8, none, none]) (.skip))))
    (.reg [⟨[], [], .ln (.e 2) []⟩, ⟨[], [], .nop⟩, ⟨[], [], .nop⟩, ⟨[], [], .nop⟩, ⟨[], [], .nop⟩, ⟨[], [], .ix (.e 2) [] (.e 4)⟩, ⟨[], [], .sp 2 [.e 4] 1⟩, ⟨[], [], .nop⟩, ⟨[], [], .li (.o .v) [(.e 3)]⟩, ⟨[], [], .ap false (.e 13) (.e 15)⟩, ⟨[], [], .ix (.e 2) [] (.e 4)⟩, ⟨[], [], .up 14 [.e 4] (.e 16)⟩] [none, none, some 18, none, none, none, some 6, some 7, some 8, none, none]))))))
   (.reg [⟨[], [], .bi .add (.e 8) (.c (.n 1))⟩, ⟨[], [], .nop⟩] [none, none, some 2, none, none, none, some 6, some 7, some 11, none, none])))))))))))
 ((.seq (.reg [⟨[], [], .nop⟩, ⟨[], [], .nop⟩] [none, some 2, none, none, none, none, none, none, none, none, none])
 (.ret))))))))))⟩

/-- loop.example/g03401/impl.IsPartition -/
def ir_impl_IsPartition : IF := ⟨[], 1, 10, [1],
 (.seq (.reg [⟨[], [], .cs .v (.b false)⟩] [some 0, none, none, none, none, none, none, none, none, none])
 ((.seq ((.seq (.reg [⟨[], [], .nop⟩, ⟨[], [], .ln (.e 0) []⟩, ⟨[], [], .bi .gtr (.e 10) (.c (.n 8))⟩] [some 0, none, none, none, some 11, none, none, none, none, none])
 (.cond 4 ((.seq (.reg [⟨[], [], .cs .v (.b false)⟩] [none, some 10, none, none, none, none, none, none, none, none])
  (.ret))) (.skip))))
 ((.seq (.reg [⟨[], [], .cs .v (.n 0)⟩] [some 0, none, some 10, none, none, none, none, none, none, none])
 ((.seq ((.seq (.reg [⟨[], [], .nop⟩, ⟨[], [], .ln (.e 0) []⟩, ⟨[], [], .cs .v (.n 0)⟩] [none, none, some 2, none, none, some 0, some 10, some 11, none, none])
 (.block 0 (.loop ((.seq (.reg [⟨[], [], .bi .lss (.e 7) (.e 6)⟩] [none, none, some 2, none, none, some 5, some 6, some 7, some 10, none])
   ((.seq (.cond 8 (.skip) (.exit 0))
   ((.seq (.block 1 ((.seq (.reg [⟨[], [], .iy (.e 5) (.e 7)⟩, ⟨[], [], .nop⟩, ⟨[], [], .nop⟩] [none, none, some 2, some 10, none, some 5, some 6, some 7, none, none])
    ((.seq ((.seq (.reg [⟨[], [], .nop⟩, ⟨[], [], .nop⟩, ⟨[], [], .ca 23 [(.e 3), (.c (.n 0)), (.e 2)] 1⟩, ⟨[], [], .un .not (.e 10)⟩] [none, none, some 2, some 3, none, some 5, some 6, some 7, none, some 11])
    (.cond 9 ((.seq (.reg [⟨[], [], .cs .v (.b false)⟩] [none, some 10, none, none, none, none, none, none, none, none])
     (.ret))) (.skip))))
    (.reg [⟨[], [], .nop⟩, ⟨[], [], .nop⟩, ⟨[], [], .bi .add (.e 3) (.c (.n 1))⟩, ⟨[], [], .mx (.e 2) (.e 10)⟩, ⟨[], [], .nop⟩] [none, none, some 11, none, none, some 5, some 6, some 7, none, none]))))))
   (.reg [⟨[], [], .bi .add (.e 7) (.c (.n 1))⟩, ⟨[], [], .nop⟩] [none, none, some 2, none, none, some 5, some 6, some 10, none, none])))))))))))
 ((.seq (.reg [⟨[], [], .cs .v (.b true)⟩] [none, some 10, none, none, none, none, none, none, none, none])
 (.ret))))))))))⟩

/-- loop.example/g03401/impl.PartitionOf -/
def ir_impl_PartitionOf : IF := ⟨[], 1, 14, [1, 2],
 (.seq (.reg [⟨[], [], .cs (.o .v) (.l [])⟩, ⟨[], [], .cs .v (.b false)⟩] [some 0, none, none, none, none, none, none, none, none, none, none, none, none, none])
 ((.seq ((.seq (.reg [⟨[], [], .nop⟩, ⟨[], [], .ca 67 [(.e 0)] 1⟩, ⟨[], [], .un .not (.e 14)⟩] [some 0, none, none, none, none, none, none, none, none, some 15, none, none, none, none])
 (.cond 9 ((.seq (.reg [⟨[], [], .li (.o .v) []⟩, ⟨[], [], .nop⟩, ⟨[], [], .cs .v (.b false)⟩] [none, some 14, some 15, none, none, none, none, none, none, none, none, none, none, none])
  (.ret))) (.skip))))
 ((.seq (.reg [⟨[], [], .nop⟩, ⟨[], [], .ca 373 [(.e 0)] 1⟩, ⟨[], [], .nop⟩] [some 0, none, none, some 14, none, none, none, none, none, none, none, none, none, none])
 ((.seq (.reg [⟨[], [], .nop⟩, ⟨[], [], .sn (.e 0)⟩, ⟨[], [], .mk (.n 0) (.e 14) (.e 14)⟩, ⟨[], [], .nop⟩] [some 0, none, none, some 3, some 15, none, none, none, none, none, none, none, none, none])
 ((.seq (.reg [⟨[], [], .cs .v (.n 0)⟩] [some 0, none, none, some 3, some 4, some 14, none, none, none, none, none, none, none, none])
 ((.seq ((.seq (.reg [⟨[], [], .cs .v (.n 1)⟩] [some 0, none, none, some 3, some 4, some 5, some 14, none, none, none, none, none, none, none])
 (.block 0 (.loop ((.seq ((.seq (.reg [⟨[], [], .nop⟩, ⟨[], [], .nop⟩, ⟨[], [], .sn (.e 0)⟩, ⟨[], [], .bi .lss (.e 6) (.e 14)⟩] [some 0, none, none, some 3, some 4, some 5, some 6, none, none, none, some 15, none, none, none])
   (.cond 10 (.skip) (.exit 0))))
   ((.seq (.block 1 ((.seq ((.seq (.reg [⟨[], [], .nop⟩, ⟨[], [], .nop⟩, ⟨[], [], .sx (.e 0) (.e 6)⟩, ⟨[], [], .bi .eql (.e 14) (.c (.y 100))⟩, ⟨[], [], .nop⟩, ⟨[], [(15, true)], .cy (.e 0)⟩, ⟨[], [(15, true)], .cy (.e 6)⟩, ⟨[], [(15, true)], .bi .sub (.e 17) (.c (.n 1))⟩, ⟨[], [(15, true)], .sx (.e 16) (.e 18)⟩, ⟨[], [(15, true)], .bi .eql (.e 19) (.c (.y 117))⟩, ⟨[], [], .pk (.e 15) (.e 20) (.c (.b false))⟩] [some 0, none, none, some 3, some 4, some 5, some 6, none, none, none, none, some 21, none, none])
    (.cond 11 (.reg [⟨[], [], .nop⟩, ⟨[], [], .bi .add (.e 5) (.c (.n 1))⟩, ⟨[], [], .nop⟩] [some 0, none, none, some 3, some 4, some 14, some 6, none, none, none, none, none, none, none]) (.skip))))
    (.reg [⟨[], [], .nop⟩, ⟨[], [], .nop⟩, ⟨[], [], .nop⟩, ⟨[], [], .ix (.e 4) [] (.e 6)⟩, ⟨[], [], .up 4 [.e 6] (.e 5)⟩] [some 0, none, none, some 3, some 15, some 5, some 6, none, none, none, none, none, none, none]))))
   (.reg [⟨[], [], .nop⟩, ⟨[], [], .bi .add (.e 6) (.c (.n 1))⟩, ⟨[], [], .nop⟩] [some 0, none, none, some 3, some 4, some 5, some 14, none, none, none, none, none, none, none])))))))))
 ((.seq (.reg [⟨[], [], .li (.o .v) []⟩, ⟨[], [], .nop⟩] [some 0, none, none, some 3, some 4, none, none, some 14, none, none, none, none, none, none])
 ((.seq ((.seq (.reg [⟨[], [], .cs .v (.n 0)⟩] [some 0, none, none, some 3, some 4, none, none, some 7, some 14, none, none, none, none, none])
 (.block 2 (.loop ((.seq ((.seq (.reg [⟨[], [], .nop⟩, ⟨[], [], .nop⟩, ⟨[], [], .sn (.e 0)⟩, ⟨[], [], .bi .lss (.e 8) (.e 14)⟩] [some 0, none, none, some 3, some 4, none, none, some 7, some 8, none, none, none, some 15, none])
   (.cond 12 (.skip) (.exit 2))))
   ((.seq (.block 3 ((.seq (.reg [⟨[], [], .nop⟩, ⟨[], [], .nop⟩, ⟨[], [], .sx (.e 0) (.e 8)⟩, ⟨[], [], .bi .eql (.e 14) (.c (.y 117))⟩] [some 0, none, none, some 3, some 4, none, none, some 7, some 8, none, none, none, none, some 15])
    (.cond 13 (.reg [⟨[], [], .nop⟩, ⟨[], [], .nop⟩, ⟨[], [], .nop⟩, ⟨[], [], .nop⟩, ⟨[], [], .ix (.e 3) [] (.e 8)⟩, ⟨[], [], .nop⟩, ⟨[], [], .ix (.e 4) [] (.e 14)⟩, ⟨[], [], .nop⟩, ⟨[], [], .li (.o .v) [(.e 15)]⟩, ⟨[], [], .ap false (.e 7) (.e 16)⟩, ⟨[], [], .nop⟩] [some 0, none, none, some 3, some 4, none, none, some 17, some 8, none, none, none, none, none]) (.skip)))))
   (.reg [⟨[], [], .nop⟩, ⟨[], [], .bi .add (.e 8) (.c (.n 1))⟩, ⟨[], [], .nop⟩] [some 0, none, none, some 3, some 4, none, none, some 7, some 14, none, none, none, none, none])))))))))
 ((.seq (.reg [⟨[], [], .nop⟩, ⟨[], [], .ca 475 [(.e 7)] 2⟩, ⟨[], [], .nop⟩, ⟨[], [], .nop⟩, ⟨[], [], .nop⟩, ⟨[], [], .nop⟩] [none, some 14, some 15, none, none, none, none, none, none, none, none, none, none, none])
 (.ret))))))))))))))))))⟩

/-- loop.example/g03401/impl.RenumberBlocks -/
def ir_impl_RenumberBlocks : IF := ⟨[], 1, 21, [1, 2],
 (.seq (.reg [⟨[], [], .cs (.o .v) (.l [])⟩, ⟨[], [], .cs .v (.b false)⟩] [some 0, none, none, none, none, none, none, none, none, none, none, none, none, none, none, none, none, none, none, none, none])
 ((.seq ((.seq (.reg [⟨[], [], .nop⟩, ⟨[], [], .ln (.e 0) []⟩, ⟨[], [], .bi .gtr (.e 21) (.c (.n 8))⟩] [some 0, none, none, none, none, none, none, none, none, none, some 22, none, none, none, none, none, none, none, none, none, none])
 (.cond 10 ((.seq (.reg [⟨[], [], .li (.o .v) []⟩, ⟨[], [], .nop⟩, ⟨[], [], .cs .v (.b false)⟩] [none, some 21, some 22, none, none, none, none, none, none, none, none, none, none, none, none, none, none, none, none, none, none])
  (.ret))) (.skip))))
 ((.seq (.reg [⟨[], [], .li (.o .v) []⟩, ⟨[], [], .nop⟩] [some 0, none, none, some 21, none, none, none, none, none, none, none, none, none, none, none, none, none, none, none, none, none])
 ((.seq (.reg [⟨[], [], .cs .v (.n 0)⟩] [some 0, none, none, some 3, some 21, none, none, none, none, none, none, none, none, none, none, none, none, none, none, none, none])
 ((.seq ((.seq (.reg [⟨[], [], .nop⟩, ⟨[], [], .ln (.e 0) []⟩, ⟨[], [], .cs .v (.n 0)⟩] [some 0, none, none, some 3, some 4, none, none, none, none, none, none, some 0, some 21, some 22, none, none, none, none, none, none, none])
 (.block 0 (.loop ((.seq (.reg [⟨[], [], .bi .lss (.e 13) (.e 12)⟩] [some 0, none, none, some 3, some 4, none, none, none, none, none, none, some 11, some 12, some 13, some 21, none, none, none, none, none, none])
   ((.seq (.cond 14 (.skip) (.exit 0))
   ((.seq (.block 1 ((.seq (.reg [⟨[], [], .nop⟩, ⟨[], [], .iy (.e 11) (.e 13)⟩, ⟨[], [], .nop⟩, ⟨[], [], .nop⟩, ⟨[], [], .nop⟩] [some 0, none, none, some 3, some 4, some 13, some 21, none, none, none, none, some 11, some 12, some 13, none, none, none, none, none, none, none])
    ((.seq (.reg [⟨[], [], .nop⟩, ⟨[], [], .nop⟩] [some 0, none, none, some 3, some 4, some 5, some 6, some 4, none, none, none, some 11, some 12, some 13, none, none, none, none, none, none, none])
    ((.seq ((.seq (.reg [⟨[], [], .nop⟩, ⟨[], [], .nop⟩, ⟨[], [], .sb false (.e 0) none (some (.e 5))⟩, ⟨[], [], .ln (.e 21) []⟩, ⟨[], [], .cs .v (.n 0)⟩] [some 0, none, none, some 3, some 4, none, some 6, some 7, none, none, none, some 11, some 12, some 13, none, some 21, some 22, some 23, none, none, none])
    (.block 2 (.loop ((.seq (.reg [⟨[], [], .bi .lss (.e 17) (.e 16)⟩] [some 0, none, none, some 3, some 4, none, some 6, some 7, none, none, none, some 11, some 12, some 13, none, some 15, some 16, some 17, some 21, none, none])
      ((.seq (.cond 18 (.skip) (.exit 2))
      ((.seq (.block 3 ((.seq (.reg [⟨[], [], .nop⟩, ⟨[], [], .iy (.e 15) (.e 17)⟩, ⟨[], [], .nop⟩, ⟨[], [], .nop⟩, ⟨[], [], .nop⟩] [some 0, none, none, some 3, some 4, none, some 6, some 7, some 17, some 21, none, some 11, some 12, some 13, none, some 15, some 16, some 17, none, none, none])
       ((.seq (.reg [⟨[], [], .nop⟩, ⟨[], [], .nop⟩, ⟨[], [], .bi .eql (.e 6) (.e 9)⟩] [some 0, none, none, some 3, some 4, none, some 6, some 7, some 8, none, none, some 11, some 12, some 13, none, some 15, some 16, some 17, none, some 21, none])
       (.cond 19 ((.seq (.reg [⟨[], [], .nop⟩, ⟨[], [], .nop⟩, ⟨[], [], .ix (.e 3) [] (.e 8)⟩, ⟨[], [], .nop⟩, ⟨[], [], .nop⟩] [some 0, none, none, some 3, some 4, none, none, some 21, none, none, none, some 11, some 12, some 13, none, none, none, none, none, none, none])
        (.exit 2))) (.skip)))))))
      (.reg [⟨[], [], .bi .add (.e 17) (.c (.n 1))⟩, ⟨[], [], .nop⟩] [some 0, none, none, some 3, some 4, none, some 6, some 7, none, none, none, some 11, some 12, some 13, none, some 15, some 16, some 21, none, none, none])))))))))))
    ((.seq ((.seq (.reg [⟨[], [], .nop⟩, ⟨[], [], .nop⟩, ⟨[], [], .bi .eql (.e 7) (.e 4)⟩] [some 0, none, none, some 3, some 4, none, none, some 7, none, none, none, some 11, some 12, some 13, none, none, none, none, none, none, some 21])
    (.cond 20 (.reg [⟨[], [], .nop⟩, ⟨[], [], .bi .add (.e 4) (.c (.n 1))⟩, ⟨[], [], .nop⟩] [some 0, none, none, some 3, some 21, none, none, some 7, none, none, none, some 11, some 12, some 13, none, none, none, none, none, none, none]) (.skip))))
    (.reg [⟨[], [], .nop⟩, ⟨[], [], .nop⟩, ⟨[], [], .li (.o .v) [(.e 7)]⟩, ⟨[], [], .ap false (.e 3) (.e 21)⟩, ⟨[], [], .nop⟩] [some 0, none, none, some 22, some 4, none, none, none, none, none, none, some 11, some 12, some 13, none, none, none, none, none, none, none]))))))))))
   (.reg [⟨[], [], .bi .add (.e 13) (.c (.n 1))⟩, ⟨[], [], .nop⟩] [some 0, none, none, some 3, some 4, none, none, none, none, none, none, some 11, some 12, some 21, none, none, none, none, none, none, none])))))))))))
 ((.seq (.reg [⟨[], [], .nop⟩, ⟨[], [], .nop⟩, ⟨[], [], .cs .v (.b true)⟩] [none, some 3, some 21, none, none, none, none, none, none, none, none, none, none, none, none, none, none, none, none, none, none])
 (.ret))))))))))))⟩

end Go.Cat

namespace Go.Cat
/-- loop.example/g03401/impl.MajorOf -/
def ir_impl_MajorOf : IF := ⟨[], 1, 7, [1],
 (.seq (.reg [⟨[], [], .cs .v (.n 0)⟩] [some 0, none, none, none, none, none, none])
 ((.seq ((.seq (.reg [⟨[], [], .nop⟩, ⟨[], [], .ca 67 [(.e 0)] 1⟩, ⟨[], [], .un .not (.e 7)⟩] [some 0, none, none, none, some 8, none, none])
 (.cond 4 ((.seq (.reg [⟨[], [], .cs .v (.n (-1))⟩] [none, some 7, none, none, none, none, none])
  (.ret))) (.skip))))
 ((.seq (.reg [⟨[], [], .cs .v (.n 0)⟩] [some 0, none, some 7, none, none, none, none])
 ((.seq ((.seq (.reg [⟨[], [], .cs .v (.n 1)⟩] [some 0, none, some 2, some 7, none, none, none])
 (.block 0 (.loop ((.seq ((.seq (.reg [⟨[], [], .nop⟩, ⟨[], [], .nop⟩, ⟨[], [], .sn (.e 0)⟩, ⟨[], [], .bi .lss (.e 3) (.e 7)⟩] [some 0, none, some 2, some 3, none, some 8, none])
   (.cond 5 (.skip) (.exit 0))))
   ((.seq (.block 1 ((.seq (.reg [⟨[], [], .nop⟩, ⟨[], [], .nop⟩, ⟨[], [], .bi .sub (.e 3) (.c (.n 1))⟩, ⟨[], [], .sx (.e 0) (.e 7)⟩, ⟨[], [], .bi .eql (.e 8) (.c (.y 100))⟩, ⟨[], [], .nop⟩, ⟨[], [(9, true)], .cy (.e 0)⟩, ⟨[], [(9, true)], .cy (.e 3)⟩, ⟨[], [(9, true)], .sx (.e 10) (.e 11)⟩, ⟨[], [(9, true)], .bi .eql (.e 12) (.c (.y 117))⟩, ⟨[], [], .pk (.e 9) (.e 13) (.c (.b false))⟩] [some 0, none, some 2, some 3, none, none, some 14])
    (.cond 6 (.reg [⟨[], [], .nop⟩, ⟨[], [], .nop⟩, ⟨[], [], .bi .add (.e 2) (.e 3)⟩, ⟨[], [], .nop⟩] [some 0, none, some 7, some 3, none, none, none]) (.skip)))))
   (.reg [⟨[], [], .nop⟩, ⟨[], [], .bi .add (.e 3) (.c (.n 1))⟩, ⟨[], [], .nop⟩] [some 0, none, some 2, some 7, none, none, none])))))))))
 ((.seq (.reg [⟨[], [], .nop⟩, ⟨[], [], .nop⟩] [none, some 2, none, none, none, none, none])
 (.ret))))))))))⟩

end Go.Cat

namespace Go.Cat
/-- loop.example/g03401/impl.StatisticNames -/
def ir_impl_StatisticNames : IF := ⟨[], 0, 1, [0],
 (.seq (.reg [⟨[], [], .cs (.o .v) (.l [])⟩] [none])
 ((.seq (.reg [⟨[], [], .li (.o .v) [(.c (.s [112, 101, 97, 107, 115])), (.c (.s [114, 101, 116, 117, 114, 110, 115])), (.c (.s [114, 105, 115, 101])), (.c (.s [97, 114, 101, 97])), (.c (.s [100, 101, 112, 116, 104])), (.c (.s [108, 101, 97, 118, 101, 115])), (.c (.s [98, 108, 111, 99, 107, 115])), (.c (.s [109, 97, 106, 111, 114])), (.c (.s [102, 97, 108, 108]))]⟩, ⟨[], [], .nop⟩] [some 1])
 (.ret))))⟩

/-- loop.example/g03401/impl.StatisticOf -/
def ir_impl_StatisticOf : IF := ⟨[], 2, 21, [2],
 (.seq (.reg [⟨[], [], .cs .v (.n 0)⟩] [some 0, some 1, none, none, none, none, none, none, none, none, none, none, none, none, none, none, none, none, none, none, none])
 ((.seq ((.seq (.reg [⟨[], [], .nop⟩, ⟨[], [], .ca 67 [(.e 1)] 1⟩, ⟨[], [], .un .not (.e 21)⟩] [some 0, some 1, none, none, none, none, none, none, some 22, none, none, none, none, none, none, none, none, none, none, none, none])
 (.cond 8 ((.seq (.reg [⟨[], [], .cs .v (.n (-1))⟩] [none, none, some 21, none, none, none, none, none, none, none, none, none, none, none, none, none, none, none, none, none, none])
  (.ret))) (.skip))))
 ((.seq ((.seq (.reg [⟨[], [], .nop⟩] [none, some 1, none, none, none, none, none, none, none, some 0, none, none, none, none, none, none, none, none, none, none, none])
 (.block 0 ((.seq (.reg [⟨[], [], .bi .eql (.e 9) (.c (.s [112, 101, 97, 107, 115]))⟩, ⟨[], [], .nop⟩] [none, some 1, none, none, none, none, none, none, none, some 9, some 21, none, none, none, none, none, none, none, none, none, none])
  (.cond 10 ((.seq (.reg [⟨[], [], .nop⟩, ⟨[], [], .ca 280 [(.e 1)] 1⟩, ⟨[], [], .nop⟩] [none, none, some 21, none, none, none, none, none, none, none, none, none, none, none, none, none, none, none, none, none, none])
   (.ret))) ((.seq (.reg [⟨[], [], .bi .eql (.e 9) (.c (.s [114, 101, 116, 117, 114, 110, 115]))⟩, ⟨[], [], .nop⟩] [none, some 1, none, none, none, none, none, none, none, some 9, none, some 21, none, none, none, none, none, none, none, none, none])
   (.cond 11 ((.seq (.reg [⟨[], [], .nop⟩, ⟨[], [], .ca 507 [(.e 1)] 1⟩, ⟨[], [], .nop⟩] [none, none, some 21, none, none, none, none, none, none, none, none, none, none, none, none, none, none, none, none, none, none])
    (.ret))) ((.seq (.reg [⟨[], [], .bi .eql (.e 9) (.c (.s [114, 105, 115, 101]))⟩, ⟨[], [], .nop⟩] [none, some 1, none, none, none, none, none, none, none, some 9, none, none, some 21, none, none, none, none, none, none, none, none])
    (.cond 12 ((.seq (.reg [⟨[], [], .cs .v (.n 0)⟩] [none, some 1, none, some 21, none, none, none, none, none, none, none, none, none, none, none, none, none, none, none, none, none])
     ((.seq (.block 1 (.loop ((.seq ((.seq (.reg [⟨[], [], .nop⟩, ⟨[], [], .nop⟩, ⟨[], [], .sn (.e 1)⟩, ⟨[], [], .bi .lss (.e 3) (.e 21)⟩, ⟨[], [], .nop⟩, ⟨[], [(22, true)], .cy (.e 1)⟩, ⟨[], [(22, true)], .cy (.e 3)⟩, ⟨[], [(22, true)], .sx (.e 23) (.e 24)⟩, ⟨[], [(22, true)], .bi .eql (.e 25) (.c (.y 117))⟩, ⟨[], [], .pk (.e 22) (.e 26) (.c (.b false))⟩] [none, some 1, none, some 3, none, none, none, none, none, none, none, none, none, some 27, none, none, none, none, none, none, none])
       (.cond 13 (.skip) (.exit 1))))
       (.block 2 (.reg [⟨[], [], .nop⟩, ⟨[], [], .bi .add (.e 3) (.c (.n 1))⟩, ⟨[], [], .nop⟩] [none, some 1, none, some 21, none, none, none, none, none, none, none, none, none, none, none, none, none, none, none, none, none]))))))
     ((.seq (.reg [⟨[], [], .nop⟩, ⟨[], [], .nop⟩] [none, none, some 3, none, none, none, none, none, none, none, none, none, none, none, none, none, none, none, none, none, none])
     (.ret))))))) ((.seq (.reg [⟨[], [], .bi .eql (.e 9) (.c (.s [97, 114, 101, 97]))⟩, ⟨[], [], .nop⟩] [none, some 1, none, none, none, none, none, none, none, some 9, none, none, none, none, some 21, none, none, none, none, none, none])
     (.cond 14 ((.seq (.reg [⟨[], [], .nop⟩, ⟨[], [], .ca 465 [(.e 1)] 1⟩, ⟨[], [], .nop⟩] [none, none, some 21, none, none, none, none, none, none, none, none, none, none, none, none, none, none, none, none, none, none])
      (.ret))) ((.seq (.reg [⟨[], [], .bi .eql (.e 9) (.c (.s [100, 101, 112, 116, 104]))⟩, ⟨[], [], .nop⟩] [none, some 1, none, none, none, none, none, none, none, some 9, none, none, none, none, none, some 21, none, none, none, none, none])
      (.cond 15 ((.seq (.reg [⟨[], [], .nop⟩, ⟨[], [], .ca 508 [(.e 1)] 2⟩, ⟨[], [], .nop⟩, ⟨[], [], .nop⟩, ⟨[], [], .nop⟩, ⟨[], [], .nop⟩, ⟨[], [], .nop⟩] [none, none, none, none, some 21, none, none, none, none, none, none, none, none, none, none, none, none, none, none, none, none])
       ((.seq (.reg [⟨[], [], .nop⟩, ⟨[], [], .ca 509 [(.e 4)] 1⟩, ⟨[], [], .nop⟩] [none, none, some 21, none, none, none, none, none, none, none, none, none, none, none, none, none, none, none, none, none, none])
       (.ret))))) ((.seq (.reg [⟨[], [], .bi .eql (.e 9) (.c (.s [108, 101, 97, 118, 101, 115]))⟩, ⟨[], [], .nop⟩] [none, some 1, none, none, none, none, none, none, none, some 9, none, none, none, none, none, none, some 21, none, none, none, none])
       (.cond 16 ((.seq (.reg [⟨[], [], .nop⟩, ⟨[], [], .ca 510 [(.e 1)] 2⟩, ⟨[], [], .nop⟩, ⟨[], [], .nop⟩, ⟨[], [], .nop⟩, ⟨[], [], .nop⟩, ⟨[], [], .nop⟩] [none, none, none, none, none, some 21, none, none, none, none, none, none, none, none, none, none, none, none, none, none, none])
        ((.seq (.reg [⟨[], [], .nop⟩, ⟨[], [], .ca 511 [(.e 5)] 1⟩, ⟨[], [], .nop⟩] [none, none, some 21, none, none, none, none, none, none, none, none, none, none, none, none, none, none, none, none, none, none])
        (.ret))))) ((.seq (.reg [⟨[], [], .bi .eql (.e 9) (.c (.s [98, 108, 111, 99, 107, 115]))⟩, ⟨[], [], .nop⟩] [none, some 1, none, none, none, none, none, none, none, some 9, none, none, none, none, none, none, none, some 21, none, none, none])
        (.cond 17 ((.seq (.reg [⟨[], [], .nop⟩, ⟨[], [], .ca 503 [(.e 1)] 2⟩, ⟨[], [], .nop⟩, ⟨[], [], .nop⟩, ⟨[], [], .nop⟩, ⟨[], [], .nop⟩, ⟨[], [], .nop⟩] [none, none, none, none, none, none, some 21, none, none, none, none, none, none, none, none, none, none, none, none, none, none])
         ((.seq (.reg [⟨[], [], .nop⟩, ⟨[], [], .ca 479 [(.e 6)] 1⟩, ⟨[], [], .ln (.e 21) []⟩, ⟨[], [], .nop⟩] [none, none, some 22, none, none, none, none, none, none, none, none, none, none, none, none, none, none, none, none, none, none])
         (.ret))))) ((.seq (.reg [⟨[], [], .bi .eql (.e 9) (.c (.s [109, 97, 106, 111, 114]))⟩, ⟨[], [], .nop⟩] [none, some 1, none, none, none, none, none, none, none, some 9, none, none, none, none, none, none, none, none, some 21, none, none])
         (.cond 18 ((.seq (.reg [⟨[], [], .nop⟩, ⟨[], [], .ca 512 [(.e 1)] 1⟩, ⟨[], [], .nop⟩] [none, none, some 21, none, none, none, none, none, none, none, none, none, none, none, none, none, none, none, none, none, none])
          (.ret))) ((.seq (.reg [⟨[], [], .bi .eql (.e 9) (.c (.s [102, 97, 108, 108]))⟩, ⟨[], [], .nop⟩] [none, some 1, none, none, none, none, none, none, none, none, none, none, none, none, none, none, none, none, none, some 21, none])
          (.cond 19 ((.seq (.reg [⟨[], [], .cs .v (.n 0)⟩] [none, some 1, none, none, none, none, none, some 21, none, none, none, none, none, none, none, none, none, none, none, none, none])
           ((.seq (.block 3 (.loop ((.seq ((.seq (.reg [⟨[], [], .nop⟩, ⟨[], [], .nop⟩, ⟨[], [], .sn (.e 1)⟩, ⟨[], [], .bi .lss (.e 7) (.e 21)⟩, ⟨[], [], .nop⟩, ⟨[], [(22, true)], .cy (.e 1)⟩, ⟨[], [(22, true)], .cy (.e 1)⟩, ⟨[], [(22, true)], .sn (.e 24)⟩, ⟨[], [(22, true)], .bi .sub (.e 25) (.c (.n 1))⟩, ⟨[], [(22, true)], .cy (.e 7)⟩, ⟨[], [(22, true)], .bi .sub (.e 26) (.e 27)⟩, ⟨[], [(22, true)], .sx (.e 23) (.e 28)⟩, ⟨[], [(22, true)], .bi .eql (.e 29) (.c (.y 100))⟩, ⟨[], [], .pk (.e 22) (.e 30) (.c (.b false))⟩] [none, some 1, none, none, none, none, none, some 7, none, none, none, none, none, none, none, none, none, none, none, none, some 31])
             (.cond 20 (.skip) (.exit 3))))
             (.block 4 (.reg [⟨[], [], .nop⟩, ⟨[], [], .bi .add (.e 7) (.c (.n 1))⟩, ⟨[], [], .nop⟩] [none, some 1, none, none, none, none, none, some 21, none, none, none, none, none, none, none, none, none, none, none, none, none]))))))
           ((.seq (.reg [⟨[], [], .nop⟩, ⟨[], [], .nop⟩] [none, none, some 7, none, none, none, none, none, none, none, none, none, none, none, none, none, none, none, none, none, none])
           (.ret))))))) (.skip)))))))))))))))))))))))))))))))
 ((.seq (.reg [⟨[], [], .cs .v (.n (-1))⟩] [none, none, some 21, none, none, none, none, none, none, none, none, none, none, none, none, none, none, none, none, none, none])
 (.ret))))))))⟩

end Go.Cat

namespace Go.Cat
/-- loop.example/g03401/impl.PathLine -/
def ir_impl_PathLine : IF := ⟨[], 1, 9, [1],
 (.seq (.reg [⟨[], [], .cs .v (.s [])⟩] [some 0, none, none, none, none, none, none, none, none])
 ((.seq ((.seq (.reg [⟨[], [], .nop⟩, ⟨[], [], .ca 67 [(.e 0)] 1⟩, ⟨[], [], .un .not (.e 9)⟩] [some 0, none, none, none, some 10, none, none, none, none])
 (.cond 4 ((.seq (.reg [⟨[], [], .cs .v (.s [])⟩] [none, some 9, none, none, none, none, none, none, none])
  (.ret))) (.skip))))
 ((.seq (.reg [⟨[], [], .nop⟩, ⟨[], [], .ca 132 [(.e 0)] 1⟩, ⟨[], [], .ca 143 [(.e 9)] 1⟩, ⟨[], [], .nop⟩, ⟨[], [], .ca 273 [(.e 0)] 1⟩, ⟨[], [], .ca 143 [(.e 11)] 1⟩, ⟨[], [], .li (.o .v) [(.c (.s [112, 97, 116, 104])), (.e 10), (.c (.s [114, 97, 110, 107])), (.e 12)]⟩, ⟨[], [], .ca 141 [(.e 13)] 1⟩, ⟨[], [], .nop⟩] [some 0, none, some 14, none, none, none, none, none, none])
 ((.seq ((.seq (.reg [⟨[], [], .ca 499 [] 1⟩, ⟨[], [], .ln (.e 9) []⟩, ⟨[], [], .cs .v (.n 0)⟩] [some 0, none, some 2, none, none, some 9, some 10, some 11, none])
 (.block 0 (.loop ((.seq (.reg [⟨[], [], .bi .lss (.e 7) (.e 6)⟩] [some 0, none, some 2, none, none, some 5, some 6, some 7, some 9])
   ((.seq (.cond 8 (.skip) (.exit 0))
   ((.seq (.block 1 ((.seq (.reg [⟨[], [], .ix (.e 5) [] (.e 7)⟩, ⟨[], [], .nop⟩, ⟨[], [], .nop⟩] [some 0, none, some 2, some 9, none, some 5, some 6, some 7, none])
    (.reg [⟨[], [], .nop⟩, ⟨[], [], .nop⟩, ⟨[], [], .nop⟩, ⟨[], [], .nop⟩, ⟨[], [], .ca 500 [(.e 3), (.e 0)] 1⟩, ⟨[], [], .ca 143 [(.e 9)] 1⟩, ⟨[], [], .li (.o .v) [(.e 2), (.e 3), (.e 10)]⟩, ⟨[], [], .ca 141 [(.e 11)] 1⟩, ⟨[], [], .nop⟩] [some 0, none, some 12, none, none, some 5, some 6, some 7, none]))))
   (.reg [⟨[], [], .bi .add (.e 7) (.c (.n 1))⟩, ⟨[], [], .nop⟩] [some 0, none, some 2, none, none, some 5, some 6, some 9, none])))))))))))
 ((.seq (.reg [⟨[], [], .nop⟩, ⟨[], [], .nop⟩] [none, some 2, none, none, none, none, none, none, none])
 (.ret))))))))))⟩

/-- loop.example/g03401/impl.line -/
def ir_impl_line : IF := ⟨[], 1, 2, [1],
 (.seq (.reg [⟨[], [], .cs .v (.s [])⟩] [some 0, none])
 ((.seq (.reg [⟨[], [], .nop⟩, ⟨[], [], .ca 184 [(.e 0), (.c (.s [32]))] 1⟩, ⟨[], [], .nop⟩] [none, some 2])
 (.ret))))⟩

end Go.Cat

namespace Go.Cat
/-- loop.example/g03401/laws.FnExactPathLine -/
def ir_laws_FnExactPathLine : IF := ⟨[], 1, 6, [1],
 (.seq (.reg [⟨[], [], .cs .v (.b false)⟩] [some 0, none, none, none, none, none])
 ((.seq ((.seq (.reg [⟨[], [], .nop⟩, ⟨[], [], .sn (.e 0)⟩, ⟨[], [], .bi .gtr (.e 6) (.c (.n 1048576))⟩] [some 0, none, none, none, some 7, none])
 (.cond 4 ((.seq (.reg [⟨[], [], .cs .v (.b true)⟩] [none, some 6, none, none, none, none])
  (.ret))) (.skip))))
 ((.seq (.reg [⟨[], [], .nop⟩, ⟨[], [], .ca 457 [(.e 0)] 1⟩, ⟨[], [], .nop⟩] [some 0, none, some 6, none, none, none])
 ((.seq (.reg [⟨[], [], .nop⟩, ⟨[], [], .ca 458 [(.e 0)] 1⟩, ⟨[], [], .nop⟩] [none, none, some 2, some 6, none, none])
 ((.seq ((.seq (.reg [⟨[], [], .nop⟩, ⟨[], [], .nop⟩, ⟨[], [], .bi .neq (.e 3) (.e 2)⟩] [none, none, none, none, none, some 6])
 (.cond 5 ((.seq (.reg [⟨[], [], .cs .v (.b false)⟩] [none, some 6, none, none, none, none])
  (.ret))) (.skip))))
 ((.seq (.reg [⟨[], [], .cs .v (.b true)⟩] [none, some 6, none, none, none, none])
 (.ret))))))))))))⟩

end Go.Cat

namespace Go.Cat
/-- loop.example/g03401/spec.FormatInt -/
def ir_spec_FormatInt : IF := ⟨[], 1, 9, [1],
 (.seq (.reg [⟨[], [], .cs .v (.s [])⟩] [some 0, none, none, none, none, none, none, none, none])
 ((.seq ((.seq (.reg [⟨[], [], .nop⟩, ⟨[], [], .bi .eql (.e 0) (.c (.n 0))⟩] [some 0, none, none, none, none, some 9, none, none, none])
 (.cond 5 ((.seq (.reg [⟨[], [], .cs .v (.s [48])⟩] [none, some 9, none, none, none, none, none, none, none])
  (.ret))) (.skip))))
 ((.seq (.reg [⟨[], [], .cs .v (.s [])⟩] [some 0, none, some 9, none, none, none, none, none, none])
 ((.seq (.reg [⟨[], [], .nop⟩, ⟨[], [], .bi .lss (.e 0) (.c (.n 0))⟩, ⟨[], [], .nop⟩] [some 0, none, some 2, some 9, none, none, none, none, none])
 ((.seq (.block 0 (.loop ((.seq ((.seq (.reg [⟨[], [], .nop⟩, ⟨[], [], .bi .neq (.e 0) (.c (.n 0))⟩] [some 0, none, some 2, some 3, none, none, some 9, none, none])
   (.cond 6 (.skip) (.exit 0))))
   (.block 1 ((.seq (.reg [⟨[], [], .nop⟩, ⟨[], [], .bi .rem (.e 0) (.c (.n 10))⟩, ⟨[], [], .nop⟩] [some 0, none, some 2, some 3, some 9, none, none, none, none])
    ((.seq ((.seq (.reg [⟨[], [], .nop⟩, ⟨[], [], .bi .lss (.e 4) (.c (.n 0))⟩] [some 0, none, some 2, some 3, some 4, none, none, some 9, none])
    (.cond 7 (.reg [⟨[], [], .nop⟩, ⟨[], [], .un .neg (.e 4)⟩, ⟨[], [], .nop⟩] [some 0, none, some 2, some 3, some 9, none, none, none, none]) (.skip))))
    ((.seq (.reg [⟨[], [], .nop⟩, ⟨[], [], .bi .add (.c (.n 48)) (.e 4)⟩, ⟨[], [], .cv .u8 (.e 9)⟩, ⟨[], [], .li (.o .v) [(.e 10)]⟩, ⟨[], [], .bs (.e 11)⟩, ⟨[], [], .nop⟩, ⟨[], [], .bi .add (.e 12) (.e 2)⟩, ⟨[], [], .nop⟩] [some 0, none, some 13, some 3, none, none, none, none, none])
    (.reg [⟨[], [], .nop⟩, ⟨[], [], .bi .quo (.e 0) (.c (.n 10))⟩, ⟨[], [], .nop⟩] [some 9, none, some 2, some 3, none, none, none, none, none]))))))))))))
 ((.seq ((.seq (.reg [⟨[], [], .nop⟩] [none, none, some 2, none, none, none, none, none, some 3])
 (.cond 8 ((.seq (.reg [⟨[], [], .nop⟩, ⟨[], [], .bi .add (.c (.s [45])) (.e 2)⟩, ⟨[], [], .nop⟩] [none, some 9, none, none, none, none, none, none, none])
  (.ret))) (.skip))))
 ((.seq (.reg [⟨[], [], .nop⟩, ⟨[], [], .nop⟩] [none, some 2, none, none, none, none, none, none, none])
 (.ret))))))))))))))⟩

/-- loop.example/g03401/spec.l1In -/
def ir_spec_l1In : IF := ⟨[], 3, 4, [3],
 (.seq (.reg [⟨[], [], .cs .v (.b false)⟩] [some 0, some 1, some 2, none])
 ((.seq (.reg [⟨[], [], .nop⟩, ⟨[], [], .nop⟩, ⟨[], [], .bi .geq (.e 0) (.e 1)⟩, ⟨[], [], .nop⟩, ⟨[], [(4, true)], .cy (.e 0)⟩, ⟨[], [(4, true)], .cy (.e 2)⟩, ⟨[], [(4, true)], .bi .leq (.e 5) (.e 6)⟩, ⟨[], [], .pk (.e 4) (.e 7) (.c (.b false))⟩, ⟨[], [], .nop⟩] [none, none, none, some 8])
 (.ret))))⟩

end Go.Cat

namespace Go.Cat
/-- loop.example/g03401/spec.AreaOf -/
def ir_spec_AreaOf : IF := ⟨[], 1, 8, [1],
 (.seq (.reg [⟨[], [], .cs .v (.n 0)⟩] [some 0, none, none, none, none, none, none, none])
 ((.seq (.reg [⟨[], [], .nop⟩, ⟨[], [], .ca 319 [(.e 0)] 1⟩, ⟨[], [], .nop⟩] [some 0, none, some 8, none, none, none, none, none])
 ((.seq (.reg [⟨[], [], .cs .v (.n 0)⟩] [some 0, none, some 2, some 8, none, none, none, none])
 ((.seq ((.seq (.reg [⟨[], [], .cs .v (.n 0)⟩] [some 0, none, some 2, some 3, some 8, none, none, none])
 (.block 0 (.loop ((.seq ((.seq (.reg [⟨[], [], .nop⟩, ⟨[], [], .nop⟩, ⟨[], [], .sn (.e 0)⟩, ⟨[], [], .bi .lss (.e 4) (.e 8)⟩, ⟨[], [], .nop⟩, ⟨[], [(9, true)], .cy (.e 2)⟩, ⟨[], [(9, true)], .ln (.e 10) []⟩, ⟨[], [(9, true)], .bi .gtr (.e 11) (.c (.n 0))⟩, ⟨[], [], .pk (.e 9) (.e 12) (.c (.b false))⟩] [some 0, none, some 2, some 3, some 4, some 13, none, none])
   (.cond 5 (.skip) (.exit 0))))
   ((.seq (.block 1 ((.seq (.reg [⟨[], [], .nop⟩, ⟨[], [], .nop⟩, ⟨[], [], .sx (.e 0) (.e 4)⟩, ⟨[], [], .bi .eql (.e 8) (.c (.y 117))⟩] [some 0, none, some 2, some 3, some 4, none, some 9, none])
    (.cond 6 (.reg [⟨[], [], .nop⟩, ⟨[], [], .nop⟩, ⟨[], [], .nop⟩, ⟨[], [], .ix (.e 2) [] (.e 4)⟩, ⟨[], [], .nop⟩, ⟨[], [], .bi .add (.e 3) (.e 8)⟩, ⟨[], [], .nop⟩] [some 0, none, some 2, some 9, some 4, none, none, none]) (.skip)))))
   (.reg [⟨[], [], .nop⟩, ⟨[], [], .bi .add (.e 4) (.c (.n 1))⟩, ⟨[], [], .nop⟩] [some 0, none, some 2, some 3, some 8, none, none, none])))))))))
 ((.seq ((.seq (.reg [⟨[], [], .nop⟩, ⟨[], [], .ln (.e 2) []⟩, ⟨[], [], .bi .eql (.e 8) (.c (.n 0))⟩] [none, none, none, some 3, none, none, none, some 9])
 (.cond 7 ((.seq (.reg [⟨[], [], .cs .v (.n (-1))⟩] [none, some 8, none, none, none, none, none, none])
  (.ret))) (.skip))))
 ((.seq (.reg [⟨[], [], .nop⟩, ⟨[], [], .nop⟩] [none, some 3, none, none, none, none, none, none])
 (.ret))))))))))))⟩

/-- loop.example/g03401/spec.HeightsOf -/
def ir_spec_HeightsOf : IF := ⟨[], 1, 8, [1],
 (.seq (.reg [⟨[], [], .cs (.o .v) (.l [])⟩] [some 0, none, none, none, none, none, none, none])
 ((.seq (.reg [⟨[], [], .li (.o .v) []⟩, ⟨[], [], .nop⟩] [some 0, none, some 8, none, none, none, none, none])
 ((.seq ((.seq (.reg [⟨[], [], .nop⟩, ⟨[], [], .ca 64 [(.e 0)] 1⟩, ⟨[], [], .un .not (.e 8)⟩] [some 0, none, some 2, none, none, some 9, none, none])
 (.cond 5 ((.seq (.reg [⟨[], [], .nop⟩, ⟨[], [], .nop⟩] [none, some 2, none, none, none, none, none, none])
  (.ret))) (.skip))))
 ((.seq (.reg [⟨[], [], .cs .v (.n 0)⟩] [some 0, none, some 2, some 8, none, none, none, none])
 ((.seq ((.seq (.reg [⟨[], [], .cs .v (.n 0)⟩] [some 0, none, some 2, some 3, some 8, none, none, none])
 (.block 0 (.loop ((.seq ((.seq (.reg [⟨[], [], .nop⟩, ⟨[], [], .nop⟩, ⟨[], [], .sn (.e 0)⟩, ⟨[], [], .bi .lss (.e 4) (.e 8)⟩] [some 0, none, some 2, some 3, some 4, none, some 9, none])
   (.cond 6 (.skip) (.exit 0))))
   ((.seq (.block 1 ((.seq (.reg [⟨[], [], .nop⟩, ⟨[], [], .nop⟩, ⟨[], [], .li (.o .v) [(.e 3)]⟩, ⟨[], [], .ap false (.e 2) (.e 8)⟩, ⟨[], [], .nop⟩] [some 0, none, some 9, some 3, some 4, none, none, none])
    ((.seq (.reg [⟨[], [], .nop⟩, ⟨[], [], .nop⟩, ⟨[], [], .sx (.e 0) (.e 4)⟩, ⟨[], [], .bi .eql (.e 8) (.c (.y 117))⟩] [some 0, none, some 2, some 3, some 4, none, none, some 9])
    (.cond 7 (.reg [⟨[], [], .nop⟩, ⟨[], [], .bi .add (.e 3) (.c (.n 1))⟩, ⟨[], [], .nop⟩] [some 0, none, some 2, some 8, some 4, none, none, none]) (.reg [⟨[], [], .nop⟩, ⟨[], [], .bi .sub (.e 3) (.c (.n 1))⟩, ⟨[], [], .nop⟩] [some 0, none, some 2, some 8, some 4, none, none, none])))))))
   (.reg [⟨[], [], .nop⟩, ⟨[], [], .bi .add (.e 4) (.c (.n 1))⟩, ⟨[], [], .nop⟩] [some 0, none, some 2, some 3, some 8, none, none, none])))))))))
 ((.seq (.reg [⟨[], [], .nop⟩, ⟨[], [], .nop⟩, ⟨[], [], .li (.o .v) [(.e 3)]⟩, ⟨[], [], .ap false (.e 2) (.e 8)⟩, ⟨[], [], .nop⟩] [none, some 9, none, none, none, none, none, none])
 (.ret))))))))))))⟩

/-- loop.example/g03401/spec.IsDyck -/
def ir_spec_IsDyck : IF := ⟨[], 1, 9, [1],
 (.seq (.reg [⟨[], [], .cs .v (.b false)⟩] [some 0, none, none, none, none, none, none, none, none])
 ((.seq (.reg [⟨[], [], .cs .v (.n 0)⟩] [some 0, none, some 9, none, none, none, none, none, none])
 ((.seq ((.seq (.reg [⟨[], [], .cs .v (.n 0)⟩] [some 0, none, some 2, some 9, none, none, none, none, none])
 (.block 0 (.loop ((.seq ((.seq (.reg [⟨[], [], .nop⟩, ⟨[], [], .nop⟩, ⟨[], [], .sn (.e 0)⟩, ⟨[], [], .bi .lss (.e 3) (.e 9)⟩] [some 0, none, some 2, some 3, some 10, none, none, none, none])
   (.cond 4 (.skip) (.exit 0))))
   ((.seq (.block 1 ((.seq ((.seq (.reg [⟨[], [], .nop⟩, ⟨[], [], .nop⟩, ⟨[], [], .sx (.e 0) (.e 3)⟩] [some 0, none, some 2, some 3, none, some 9, none, none, none])
    (.block 2 ((.seq (.reg [⟨[], [], .bi .eql (.e 5) (.c (.y 117))⟩, ⟨[], [], .nop⟩] [some 0, none, some 2, some 3, none, some 5, some 9, none, none])
     (.cond 6 (.reg [⟨[], [], .nop⟩, ⟨[], [], .bi .add (.e 2) (.c (.n 1))⟩, ⟨[], [], .nop⟩] [some 0, none, some 9, some 3, none, none, none, none, none]) ((.seq (.reg [⟨[], [], .bi .eql (.e 5) (.c (.y 100))⟩, ⟨[], [], .nop⟩] [some 0, none, some 2, some 3, none, none, none, some 9, none])
      (.cond 7 (.reg [⟨[], [], .nop⟩, ⟨[], [], .bi .sub (.e 2) (.c (.n 1))⟩, ⟨[], [], .nop⟩] [some 0, none, some 9, some 3, none, none, none, none, none]) ((.seq (.reg [⟨[], [], .cs .v (.b false)⟩] [none, some 9, none, none, none, none, none, none, none])
       (.ret))))))))))))
    ((.seq (.reg [⟨[], [], .nop⟩, ⟨[], [], .bi .lss (.e 2) (.c (.n 0))⟩] [some 0, none, some 2, some 3, none, none, none, none, some 9])
    (.cond 8 ((.seq (.reg [⟨[], [], .cs .v (.b false)⟩] [none, some 9, none, none, none, none, none, none, none])
     (.ret))) (.skip)))))))
   (.reg [⟨[], [], .nop⟩, ⟨[], [], .bi .add (.e 3) (.c (.n 1))⟩, ⟨[], [], .nop⟩] [some 0, none, some 2, some 9, none, none, none, none, none])))))))))
 ((.seq (.reg [⟨[], [], .nop⟩, ⟨[], [], .bi .eql (.e 2) (.c (.n 0))⟩, ⟨[], [], .nop⟩, ⟨[], [(9, true)], .cy (.e 0)⟩, ⟨[], [(9, true)], .sn (.e 10)⟩, ⟨[], [(9, true)], .bi .leq (.e 11) (.c (.n 16))⟩, ⟨[], [], .pk (.e 9) (.e 12) (.c (.b false))⟩, ⟨[], [], .nop⟩] [none, some 13, none, none, none, none, none, none, none])
 (.ret))))))))⟩

/-- loop.example/g03401/spec.PeaksOf -/
def ir_spec_PeaksOf : IF := ⟨[], 1, 7, [1],
 (.seq (.reg [⟨[], [], .cs .v (.n 0)⟩] [some 0, none, none, none, none, none, none])
 ((.seq ((.seq (.reg [⟨[], [], .nop⟩, ⟨[], [], .ca 64 [(.e 0)] 1⟩, ⟨[], [], .un .not (.e 7)⟩] [some 0, none, none, none, some 8, none, none])
 (.cond 4 ((.seq (.reg [⟨[], [], .cs .v (.n (-1))⟩] [none, some 7, none, none, none, none, none])
  (.ret))) (.skip))))
 ((.seq (.reg [⟨[], [], .cs .v (.n 0)⟩] [some 0, none, some 7, none, none, none, none])
 ((.seq ((.seq (.reg [⟨[], [], .cs .v (.n 1)⟩] [some 0, none, some 2, some 7, none, none, none])
 (.block 0 (.loop ((.seq ((.seq (.reg [⟨[], [], .nop⟩, ⟨[], [], .nop⟩, ⟨[], [], .sn (.e 0)⟩, ⟨[], [], .bi .lss (.e 3) (.e 7)⟩] [some 0, none, some 2, some 3, none, some 8, none])
   (.cond 5 (.skip) (.exit 0))))
   ((.seq (.block 1 ((.seq (.reg [⟨[], [], .nop⟩, ⟨[], [], .nop⟩, ⟨[], [], .bi .sub (.e 3) (.c (.n 1))⟩, ⟨[], [], .nop⟩, ⟨[], [], .bi .add (.e 3) (.c (.n 1))⟩, ⟨[], [], .ss (.e 0) (some (.e 7)) (some (.e 8))⟩, ⟨[], [], .bi .eql (.e 9) (.c (.s [117, 100]))⟩] [some 0, none, some 2, some 3, none, none, some 10])
    (.cond 6 (.reg [⟨[], [], .nop⟩, ⟨[], [], .bi .add (.e 2) (.c (.n 1))⟩, ⟨[], [], .nop⟩] [some 0, none, some 7, some 3, none, none, none]) (.skip)))))
   (.reg [⟨[], [], .nop⟩, ⟨[], [], .bi .add (.e 3) (.c (.n 1))⟩, ⟨[], [], .nop⟩] [some 0, none, some 2, some 7, none, none, none])))))))))
 ((.seq (.reg [⟨[], [], .nop⟩, ⟨[], [], .nop⟩] [none, some 2, none, none, none, none, none])
 (.ret))))))))))⟩

/-- loop.example/g03401/spec.ReturnsOf -/
def ir_spec_ReturnsOf : IF := ⟨[], 1, 7, [1],
 (.seq (.reg [⟨[], [], .cs .v (.n 0)⟩] [some 0, none, none, none, none, none, none])
 ((.seq (.reg [⟨[], [], .nop⟩, ⟨[], [], .ca 319 [(.e 0)] 1⟩, ⟨[], [], .nop⟩] [none, none, some 7, none, none, none, none])
 ((.seq (.reg [⟨[], [], .cs .v (.n (-1))⟩] [none, none, some 2, some 7, none, none, none])
 ((.seq ((.seq (.reg [⟨[], [], .cs .v (.n 0)⟩] [none, none, some 2, some 3, some 7, none, none])
 (.block 0 (.loop ((.seq ((.seq (.reg [⟨[], [], .nop⟩, ⟨[], [], .nop⟩, ⟨[], [], .ln (.e 2) []⟩, ⟨[], [], .bi .lss (.e 4) (.e 7)⟩] [none, none, some 2, some 3, some 4, some 8, none])
   (.cond 5 (.skip) (.exit 0))))
   ((.seq (.block 1 ((.seq (.reg [⟨[], [], .nop⟩, ⟨[], [], .nop⟩, ⟨[], [], .ix (.e 2) [] (.e 4)⟩, ⟨[], [], .nop⟩, ⟨[], [], .bi .eql (.e 7) (.c (.n 0))⟩] [none, none, some 2, some 3, some 4, none, some 8])
    (.cond 6 (.reg [⟨[], [], .nop⟩, ⟨[], [], .bi .add (.e 3) (.c (.n 1))⟩, ⟨[], [], .nop⟩] [none, none, some 2, some 7, some 4, none, none]) (.skip)))))
   (.reg [⟨[], [], .nop⟩, ⟨[], [], .bi .add (.e 4) (.c (.n 1))⟩, ⟨[], [], .nop⟩] [none, none, some 2, some 3, some 7, none, none])))))))))
 ((.seq (.reg [⟨[], [], .nop⟩, ⟨[], [], .nop⟩] [none, some 3, none, none, none, none, none])
 (.ret))))))))))⟩

end Go.Cat

namespace Go.Cat
/-- loop.example/g03401/spec.RankPath -/
def ir_spec_RankPath : IF := ⟨[], 1, 10, [1],
 (.seq (.reg [⟨[], [], .cs .v (.n 0)⟩] [some 0, none, none, none, none, none, none, none, none, none])
 ((.seq ((.seq (.reg [⟨[], [], .nop⟩, ⟨[], [], .ca 64 [(.e 0)] 1⟩, ⟨[], [], .un .not (.e 10)⟩] [some 0, none, none, none, none, none, some 11, none, none, none])
 (.cond 6 ((.seq (.reg [⟨[], [], .cs .v (.n (-1))⟩] [none, some 10, none, none, none, none, none, none, none, none])
  (.ret))) (.skip))))
 ((.seq (.reg [⟨[], [], .nop⟩, ⟨[], [], .sn (.e 0)⟩, ⟨[], [], .bi .quo (.e 10) (.c (.n 2))⟩, ⟨[], [], .nop⟩] [some 0, none, some 11, none, none, none, none, none, none, none])
 ((.seq (.reg [⟨[], [], .nop⟩, ⟨[], [], .nop⟩] [some 0, none, some 2, some 2, none, none, none, none, none, none])
 ((.seq (.reg [⟨[], [], .cs .v (.n 0)⟩] [some 0, none, some 2, some 3, some 10, none, none, none, none, none])
 ((.seq ((.seq (.reg [⟨[], [], .cs .v (.n 0)⟩] [some 0, none, some 2, some 3, some 4, some 10, none, none, none, none])
 (.block 0 (.loop ((.seq ((.seq (.reg [⟨[], [], .nop⟩, ⟨[], [], .nop⟩, ⟨[], [], .sn (.e 0)⟩, ⟨[], [], .bi .lss (.e 5) (.e 10)⟩] [some 0, none, some 2, some 3, some 4, some 5, none, some 11, none, none])
   (.cond 7 (.skip) (.exit 0))))
   ((.seq (.block 1 ((.seq ((.seq (.reg [⟨[], [], .nop⟩, ⟨[], [], .nop⟩, ⟨[], [], .sx (.e 0) (.e 5)⟩, ⟨[], [], .bi .eql (.e 10) (.c (.y 117))⟩] [some 0, none, some 2, some 3, some 4, some 5, none, none, some 11, none])
    (.cond 8 ((.seq (.reg [⟨[], [], .nop⟩, ⟨[], [], .bi .sub (.e 2) (.c (.n 1))⟩, ⟨[], [], .nop⟩] [some 0, none, some 10, some 3, some 4, some 5, none, none, none, none])
     (.exit 1))) (.skip))))
    ((.seq ((.seq (.reg [⟨[], [], .nop⟩, ⟨[], [], .bi .gtr (.e 2) (.c (.n 0))⟩] [some 0, none, some 2, some 3, some 4, some 5, none, none, none, some 10])
    (.cond 9 (.reg [⟨[], [], .nop⟩, ⟨[], [], .nop⟩, ⟨[], [], .bi .sub (.e 2) (.c (.n 1))⟩, ⟨[], [], .nop⟩, ⟨[], [], .ca 84 [(.e 10), (.e 3)] 1⟩, ⟨[], [], .bi .add (.e 4) (.e 11)⟩, ⟨[], [], .nop⟩] [some 0, none, some 2, some 3, some 12, some 5, none, none, none, none]) (.skip))))
    (.reg [⟨[], [], .nop⟩, ⟨[], [], .bi .sub (.e 3) (.c (.n 1))⟩, ⟨[], [], .nop⟩] [some 0, none, some 2, some 10, some 4, some 5, none, none, none, none]))))))
   (.reg [⟨[], [], .nop⟩, ⟨[], [], .bi .add (.e 5) (.c (.n 1))⟩, ⟨[], [], .nop⟩] [some 0, none, some 2, some 3, some 4, some 10, none, none, none, none])))))))))
 ((.seq (.reg [⟨[], [], .nop⟩, ⟨[], [], .nop⟩] [none, some 4, none, none, none, none, none, none, none, none])
 (.ret))))))))))))))⟩

/-- loop.example/g03401/spec.l3Ways -/
def ir_spec_l3Ways : IF := ⟨[], 2, 10, [2],
 (.seq (.reg [⟨[], [], .cs .v (.n 0)⟩] [some 0, some 1, none, none, none, none, none, none, none, none])
 ((.seq (.reg [⟨[], [], .li (.o (.o .v)) []⟩, ⟨[], [], .nop⟩] [some 0, some 1, none, some 10, none, none, none, none, none, none])
 ((.seq ((.seq (.reg [⟨[], [], .cs .v (.n 0)⟩] [some 0, some 1, none, some 3, some 10, none, none, none, none, none])
 (.block 0 (.loop ((.seq ((.seq (.reg [⟨[], [], .nop⟩, ⟨[], [], .nop⟩, ⟨[], [], .bi .leq (.e 4) (.e 0)⟩] [some 0, some 1, none, some 3, some 4, none, some 10, none, none, none])
   (.cond 6 (.skip) (.exit 0))))
   ((.seq (.block 1 ((.seq (.reg [⟨[], [], .nop⟩, ⟨[], [], .nop⟩, ⟨[], [], .bi .add (.e 1) (.c (.n 1))⟩, ⟨[], [], .mk (.n 0) (.e 10) (.e 10)⟩, ⟨[], [], .li (.o (.o .v)) [(.e 11)]⟩, ⟨[], [], .ap false (.e 3) (.e 12)⟩, ⟨[], [], .nop⟩] [some 0, some 1, none, some 13, some 4, none, none, none, none, none])
    ((.seq (.reg [⟨[], [], .nop⟩, ⟨[], [], .nop⟩] [some 0, some 1, none, some 3, some 4, some 4, none, none, none, none])
    (.block 2 (.loop ((.seq ((.seq (.reg [⟨[], [], .nop⟩, ⟨[], [], .nop⟩, ⟨[], [], .bi .leq (.e 5) (.e 1)⟩] [some 0, some 1, none, some 3, some 4, some 5, none, some 10, none, none])
      (.cond 7 (.skip) (.exit 2))))
      ((.seq (.block 3 (.block 4 ((.seq (.reg [⟨[], [], .nop⟩, ⟨[], [], .bi .eql (.e 4) (.c (.n 0))⟩, ⟨[], [], .nop⟩] [some 0, some 1, none, some 3, some 4, some 5, none, none, some 10, none])
        (.cond 8 (.reg [⟨[], [], .nop⟩, ⟨[], [], .nop⟩, ⟨[], [], .ix (.e 3) [] (.e 4)⟩, ⟨[], [], .nop⟩, ⟨[], [], .nop⟩, ⟨[], [], .ix (.e 3) [.e 4] (.e 5)⟩, ⟨[], [], .up 3 [.e 4, .e 5] (.c (.n 1))⟩] [some 0, some 1, none, some 12, some 4, some 5, none, none, none, none]) ((.seq (.reg [⟨[], [], .nop⟩, ⟨[], [], .nop⟩, ⟨[], [], .bi .eql (.e 5) (.e 4)⟩, ⟨[], [], .nop⟩] [some 0, some 1, none, some 3, some 4, some 5, none, none, none, some 10])
         (.cond 9 (.reg [⟨[], [], .nop⟩, ⟨[], [], .nop⟩, ⟨[], [], .ix (.e 3) [] (.e 4)⟩, ⟨[], [], .nop⟩, ⟨[], [], .nop⟩, ⟨[], [], .nop⟩, ⟨[], [], .nop⟩, ⟨[], [], .bi .sub (.e 4) (.c (.n 1))⟩, ⟨[], [], .ix (.e 3) [] (.e 11)⟩, ⟨[], [], .nop⟩, ⟨[], [], .nop⟩, ⟨[], [], .ix (.e 3) [.e 11] (.e 5)⟩, ⟨[], [], .nop⟩, ⟨[], [], .ix (.e 3) [.e 4] (.e 5)⟩, ⟨[], [], .up 3 [.e 4, .e 5] (.e 13)⟩] [some 0, some 1, none, some 15, some 4, some 5, none, none, none, none]) (.reg [⟨[], [], .nop⟩, ⟨[], [], .nop⟩, ⟨[], [], .ix (.e 3) [] (.e 4)⟩, ⟨[], [], .nop⟩, ⟨[], [], .nop⟩, ⟨[], [], .nop⟩, ⟨[], [], .nop⟩, ⟨[], [], .bi .sub (.e 4) (.c (.n 1))⟩, ⟨[], [], .ix (.e 3) [] (.e 11)⟩, ⟨[], [], .nop⟩, ⟨[], [], .nop⟩, ⟨[], [], .ix (.e 3) [.e 11] (.e 5)⟩, ⟨[], [], .nop⟩, ⟨[], [], .nop⟩, ⟨[], [], .nop⟩, ⟨[], [], .ix (.e 3) [] (.e 4)⟩, ⟨[], [], .nop⟩, ⟨[], [], .nop⟩, ⟨[], [], .bi .sub (.e 5) (.c (.n 1))⟩, ⟨[], [], .ix (.e 3) [.e 4] (.e 15)⟩, ⟨[], [], .nop⟩, ⟨[], [], .bi .add (.e 13) (.e 16)⟩, ⟨[], [], .ix (.e 3) [.e 4] (.e 5)⟩, ⟨[], [], .up 3 [.e 4, .e 5] (.e 17)⟩] [some 0, some 1, none, some 19, some 4, some 5, none, none, none, none])))))))))
      (.reg [⟨[], [], .nop⟩, ⟨[], [], .bi .add (.e 5) (.c (.n 1))⟩, ⟨[], [], .nop⟩] [some 0, some 1, none, some 3, some 4, some 10, none, none, none, none]))))))))))))
   (.reg [⟨[], [], .nop⟩, ⟨[], [], .bi .add (.e 4) (.c (.n 1))⟩, ⟨[], [], .nop⟩] [some 0, some 1, none, some 3, some 10, none, none, none, none, none])))))))))
 ((.seq (.reg [⟨[], [], .nop⟩, ⟨[], [], .nop⟩, ⟨[], [], .ix (.e 3) [] (.e 0)⟩, ⟨[], [], .nop⟩, ⟨[], [], .nop⟩, ⟨[], [], .ix (.e 3) [.e 0] (.e 1)⟩, ⟨[], [], .nop⟩, ⟨[], [], .nop⟩] [none, none, some 11, none, none, none, none, none, none, none])
 (.ret))))))))⟩

end Go.Cat

namespace Go.Cat
/-- loop.example/g03401/spec.BracketsOf -/
def ir_spec_BracketsOf : IF := ⟨[], 1, 7, [1, 2],
 (.seq (.reg [⟨[], [], .cs .v (.s [])⟩, ⟨[], [], .cs .v (.b false)⟩] [some 0, none, none, none, none, none, none])
 ((.seq (.reg [⟨[], [], .cs .v (.s [])⟩] [some 0, none, none, some 7, none, none, none])
 ((.seq ((.seq (.reg [⟨[], [], .cs .v (.n 0)⟩] [some 0, none, none, some 3, some 7, none, none])
 (.block 0 (.loop ((.seq ((.seq (.reg [⟨[], [], .nop⟩, ⟨[], [], .nop⟩, ⟨[], [], .sn (.e 0)⟩, ⟨[], [], .bi .lss (.e 4) (.e 7)⟩, ⟨[], [], .nop⟩, ⟨[], [(8, true)], .cy (.e 0)⟩, ⟨[], [(8, true)], .ca 64 [(.e 9)] 1⟩, ⟨[], [], .pk (.e 8) (.e 10) (.c (.b false))⟩] [some 0, none, none, some 3, some 4, some 11, none])
   (.cond 5 (.skip) (.exit 0))))
   ((.seq (.block 1 ((.seq (.reg [⟨[], [], .nop⟩, ⟨[], [], .nop⟩, ⟨[], [], .sx (.e 0) (.e 4)⟩, ⟨[], [], .bi .eql (.e 7) (.c (.y 117))⟩] [some 0, none, none, some 3, some 4, none, some 8])
    (.cond 6 (.reg [⟨[], [], .nop⟩, ⟨[], [], .bi .add (.e 3) (.c (.s [40]))⟩, ⟨[], [], .nop⟩] [some 0, none, none, some 7, some 4, none, none]) (.reg [⟨[], [], .nop⟩, ⟨[], [], .bi .add (.e 3) (.c (.s [41]))⟩, ⟨[], [], .nop⟩] [some 0, none, none, some 7, some 4, none, none])))))
   (.reg [⟨[], [], .nop⟩, ⟨[], [], .bi .add (.e 4) (.c (.n 1))⟩, ⟨[], [], .nop⟩] [some 0, none, none, some 3, some 7, none, none])))))))))
 ((.seq (.reg [⟨[], [], .nop⟩, ⟨[], [], .nop⟩, ⟨[], [], .ca 64 [(.e 0)] 1⟩, ⟨[], [], .nop⟩, ⟨[], [], .nop⟩] [none, some 3, some 7, none, none, none, none])
 (.ret))))))))⟩

/-- loop.example/g03401/spec.DepthOf -/
def ir_spec_DepthOf : IF := ⟨[], 1, 9, [1],
 (.seq (.reg [⟨[], [], .cs .v (.n 0)⟩] [some 0, none, none, none, none, none, none, none, none])
 ((.seq (.reg [⟨[], [], .nop⟩, ⟨[], [], .ca 320 [(.e 0)] 2⟩, ⟨[], [], .nop⟩, ⟨[], [], .nop⟩, ⟨[], [], .nop⟩, ⟨[], [], .nop⟩, ⟨[], [], .nop⟩] [none, none, some 9, some 10, none, none, none, none, none])
 ((.seq ((.seq (.reg [⟨[], [], .nop⟩, ⟨[], [], .un .not (.e 3)⟩] [none, none, some 2, none, none, none, none, some 9, none])
 (.cond 7 ((.seq (.reg [⟨[], [], .cs .v (.n (-1))⟩] [none, some 9, none, none, none, none, none, none, none])
  (.ret))) (.skip))))
 ((.seq (.reg [⟨[], [], .nop⟩, ⟨[], [], .ca 319 [(.e 2)] 1⟩, ⟨[], [], .nop⟩] [none, none, none, none, some 9, none, none, none, none])
 ((.seq (.reg [⟨[], [], .cs .v (.n 0)⟩] [none, none, none, none, some 4, some 9, none, none, none])
 ((.seq ((.seq (.reg [⟨[], [], .cs .v (.n 0)⟩] [none, none, none, none, some 4, some 5, some 9, none, none])
 (.block 0 (.loop ((.seq ((.seq (.reg [⟨[], [], .nop⟩, ⟨[], [], .nop⟩, ⟨[], [], .ln (.e 4) []⟩, ⟨[], [], .bi .lss (.e 6) (.e 9)⟩] [none, none, none, none, some 4, some 5, some 6, none, some 10])
   (.cond 8 (.skip) (.exit 0))))
   ((.seq (.block 1 (.reg [⟨[], [], .nop⟩, ⟨[], [], .nop⟩, ⟨[], [], .nop⟩, ⟨[], [], .ix (.e 4) [] (.e 6)⟩, ⟨[], [], .nop⟩, ⟨[], [], .mx (.e 5) (.e 9)⟩, ⟨[], [], .nop⟩] [none, none, none, none, some 4, some 10, some 6, none, none]))
   (.reg [⟨[], [], .nop⟩, ⟨[], [], .bi .add (.e 6) (.c (.n 1))⟩, ⟨[], [], .nop⟩] [none, none, none, none, some 4, some 5, some 9, none, none])))))))))
 ((.seq (.reg [⟨[], [], .nop⟩, ⟨[], [], .nop⟩] [none, some 5, none, none, none, none, none, none, none])
 (.ret))))))))))))))⟩

/-- loop.example/g03401/spec.PathOfBrackets -/
def ir_spec_PathOfBrackets : IF := ⟨[], 1, 10, [1, 2],
 (.seq (.reg [⟨[], [], .cs .v (.s [])⟩, ⟨[], [], .cs .v (.b false)⟩] [some 0, none, none, none, none, none, none, none, none, none])
 ((.seq (.reg [⟨[], [], .cs .v (.s [])⟩] [some 0, none, none, some 10, none, none, none, none, none, none])
 ((.seq ((.seq (.reg [⟨[], [], .cs .v (.n 0)⟩] [some 0, none, none, some 3, some 10, none, none, none, none, none])
 (.block 0 (.loop ((.seq ((.seq (.reg [⟨[], [], .nop⟩, ⟨[], [], .nop⟩, ⟨[], [], .sn (.e 0)⟩, ⟨[], [], .bi .lss (.e 4) (.e 10)⟩, ⟨[], [], .nop⟩, ⟨[], [(11, true)], .cy (.e 0)⟩, ⟨[], [(11, true)], .sn (.e 12)⟩, ⟨[], [(11, true)], .bi .leq (.e 13) (.c (.n 16))⟩, ⟨[], [], .pk (.e 11) (.e 14) (.c (.b false))⟩] [some 0, none, none, some 3, some 4, some 15, none, none, none, none])
   (.cond 5 (.skip) (.exit 0))))
   ((.seq (.block 1 ((.seq (.reg [⟨[], [], .nop⟩, ⟨[], [], .nop⟩, ⟨[], [], .sx (.e 0) (.e 4)⟩] [some 0, none, none, some 3, some 4, none, some 10, none, none, none])
    (.block 2 ((.seq (.reg [⟨[], [], .bi .eql (.e 6) (.c (.y 40))⟩, ⟨[], [], .nop⟩] [some 0, none, none, some 3, some 4, none, some 6, some 10, none, none])
     (.cond 7 (.reg [⟨[], [], .nop⟩, ⟨[], [], .bi .add (.e 3) (.c (.s [117]))⟩, ⟨[], [], .nop⟩] [some 0, none, none, some 10, some 4, none, none, none, none, none]) ((.seq (.reg [⟨[], [], .bi .eql (.e 6) (.c (.y 41))⟩, ⟨[], [], .nop⟩] [some 0, none, none, some 3, some 4, none, none, none, some 10, none])
      (.cond 8 (.reg [⟨[], [], .nop⟩, ⟨[], [], .bi .add (.e 3) (.c (.s [100]))⟩, ⟨[], [], .nop⟩] [some 0, none, none, some 10, some 4, none, none, none, none, none]) ((.seq (.reg [⟨[], [], .cs .v (.s [])⟩, ⟨[], [], .cs .v (.b false)⟩] [none, some 10, some 11, none, none, none, none, none, none, none])
       (.ret)))))))))))))
   (.reg [⟨[], [], .nop⟩, ⟨[], [], .bi .add (.e 4) (.c (.n 1))⟩, ⟨[], [], .nop⟩] [some 0, none, none, some 3, some 10, none, none, none, none, none])))))))))
 ((.seq ((.seq (.reg [⟨[], [], .nop⟩, ⟨[], [], .sn (.e 0)⟩, ⟨[], [], .bi .gtr (.e 10) (.c (.n 16))⟩, ⟨[], [], .nop⟩, ⟨[], [(11, false)], .cy (.e 3)⟩, ⟨[], [(11, false)], .ca 64 [(.e 12)] 1⟩, ⟨[], [(11, false)], .un .not (.e 13)⟩, ⟨[], [], .pk (.e 11) (.c (.b true)) (.e 14)⟩] [none, none, none, some 3, none, none, none, none, none, some 15])
 (.cond 9 ((.seq (.reg [⟨[], [], .cs .v (.s [])⟩, ⟨[], [], .cs .v (.b false)⟩] [none, some 10, some 11, none, none, none, none, none, none, none])
  (.ret))) (.skip))))
 ((.seq (.reg [⟨[], [], .nop⟩, ⟨[], [], .nop⟩, ⟨[], [], .cs .v (.b true)⟩] [none, some 3, some 10, none, none, none, none, none, none, none])
 (.ret))))))))))⟩

end Go.Cat

namespace Go.Cat
/-- loop.example/g03401/spec.ChildrenOf -/
def ir_spec_ChildrenOf : IF := ⟨[], 2, 7, [2],
 (.seq (.reg [⟨[], [], .cs (.o .v) (.l [])⟩] [some 0, some 1, none, none, none, none, none])
 ((.seq (.reg [⟨[], [], .li (.o .v) []⟩, ⟨[], [], .nop⟩] [some 0, some 1, none, some 7, none, none, none])
 ((.seq ((.seq (.reg [⟨[], [], .cs .v (.n 1)⟩] [some 0, some 1, none, some 3, some 7, none, none])
 (.block 0 (.loop ((.seq ((.seq (.reg [⟨[], [], .nop⟩, ⟨[], [], .nop⟩, ⟨[], [], .ln (.e 0) []⟩, ⟨[], [], .bi .lss (.e 4) (.e 7)⟩, ⟨[], [], .nop⟩, ⟨[], [(8, true)], .nop⟩, ⟨[], [(8, true)], .ca 321 [(.e 0)] 1⟩, ⟨[], [], .pk (.e 8) (.e 9) (.c (.b false))⟩, ⟨[], [], .nop⟩, ⟨[], [(10, true)], .cy (.e 1)⟩, ⟨[], [(10, true)], .bi .geq (.e 11) (.c (.n 0))⟩, ⟨[], [], .pk (.e 10) (.e 12) (.c (.b false))⟩] [some 0, some 1, none, some 3, some 4, some 13, none])
   (.cond 5 (.skip) (.exit 0))))
   ((.seq (.block 1 ((.seq (.reg [⟨[], [], .nop⟩, ⟨[], [], .nop⟩, ⟨[], [], .iy (.e 0) (.e 4)⟩, ⟨[], [], .nop⟩, ⟨[], [], .nop⟩, ⟨[], [], .bi .eql (.e 7) (.e 1)⟩] [some 0, some 1, none, some 3, some 4, none, some 8])
    (.cond 6 (.reg [⟨[], [], .nop⟩, ⟨[], [], .nop⟩, ⟨[], [], .li (.o .v) [(.e 4)]⟩, ⟨[], [], .ap false (.e 3) (.e 7)⟩, ⟨[], [], .nop⟩] [some 0, some 1, none, some 8, some 4, none, none]) (.skip)))))
   (.reg [⟨[], [], .nop⟩, ⟨[], [], .bi .add (.e 4) (.c (.n 1))⟩, ⟨[], [], .nop⟩] [some 0, some 1, none, some 3, some 7, none, none])))))))))
 ((.seq (.reg [⟨[], [], .nop⟩, ⟨[], [], .nop⟩] [none, none, some 3, none, none, none, none])
 (.ret))))))))⟩

/-- loop.example/g03401/spec.IsPlane -/
def ir_spec_IsPlane : IF := ⟨[], 1, 9, [1],
 (.seq (.reg [⟨[], [], .cs .v (.b false)⟩] [some 0, none, none, none, none, none, none, none, none])
 ((.seq ((.seq (.reg [⟨[], [], .cs .v (.n 0)⟩] [some 0, none, some 9, none, none, none, none, none, none])
 (.block 0 (.loop ((.seq ((.seq (.reg [⟨[], [], .nop⟩, ⟨[], [], .nop⟩, ⟨[], [], .ln (.e 0) []⟩, ⟨[], [], .bi .lss (.e 2) (.e 9)⟩] [some 0, none, some 2, none, none, some 10, none, none, none])
   (.cond 5 (.skip) (.exit 0))))
   ((.seq (.block 1 ((.seq ((.seq (.reg [⟨[], [], .nop⟩, ⟨[], [], .bi .eql (.e 2) (.c (.n 0))⟩, ⟨[], [], .nop⟩, ⟨[], [(9, true)], .nop⟩, ⟨[], [(9, true)], .iy (.e 0) (.c (.n 0))⟩, ⟨[], [(9, true)], .nop⟩, ⟨[], [(9, true)], .bi .neq (.e 10) (.c (.n (-1)))⟩, ⟨[], [], .pk (.e 9) (.e 11) (.c (.b false))⟩, ⟨[], [], .nop⟩, ⟨[], [(12, false)], .cy (.e 2)⟩, ⟨[], [(12, false)], .bi .gtr (.e 13) (.c (.n 0))⟩, ⟨[], [(12, false)], .cy (.e 14)⟩, ⟨[], [(12, false), (15, true)], .nop⟩, ⟨[], [(12, false), (15, true)], .cy (.e 2)⟩, ⟨[], [(12, false), (15, true)], .iy (.e 0) (.e 16)⟩, ⟨[], [(12, false), (15, true)], .nop⟩, ⟨[], [(12, false), (15, true)], .cy (.e 2)⟩, ⟨[], [(12, false), (15, true)], .bi .sub (.e 18) (.c (.n 1))⟩, ⟨[], [(12, false), (15, true)], .ca 22 [(.e 17), (.c (.n 0)), (.e 19)] 1⟩, ⟨[], [(12, false), (15, true)], .un .not (.e 20)⟩, ⟨[], [(12, false)], .pk (.e 15) (.e 21) (.c (.b false))⟩, ⟨[], [], .pk (.e 12) (.c (.b true)) (.e 22)⟩] [some 0, none, some 2, none, none, none, some 23, none, none])
    (.cond 6 ((.seq (.reg [⟨[], [], .cs .v (.b false)⟩] [none, some 9, none, none, none, none, none, none, none])
     (.ret))) (.skip))))
    ((.seq (.reg [⟨[], [], .nop⟩, ⟨[], [], .bi .eql (.e 2) (.c (.n 0))⟩, ⟨[], [], .nop⟩] [some 0, none, some 2, some 9, none, none, none, none, none])
    ((.seq ((.seq (.reg [⟨[], [], .nop⟩, ⟨[], [], .bi .sub (.e 2) (.c (.n 1))⟩, ⟨[], [], .nop⟩] [some 0, none, some 2, some 3, some 9, none, none, none, none])
    (.block 2 (.loop ((.seq ((.seq (.reg [⟨[], [], .nop⟩, ⟨[], [], .bi .geq (.e 4) (.c (.n 0))⟩, ⟨[], [], .nop⟩, ⟨[], [(9, true)], .cy (.e 2)⟩, ⟨[], [(9, true)], .bi .gtr (.e 10) (.c (.n 0))⟩, ⟨[], [], .pk (.e 9) (.e 11) (.c (.b false))⟩] [some 0, none, some 2, some 3, some 4, none, none, some 12, none])
      (.cond 7 (.skip) (.exit 2))))
      ((.seq (.block 3 (.reg [⟨[], [], .nop⟩, ⟨[], [], .nop⟩, ⟨[], [(3, false)], .cy (.e 4)⟩, ⟨[], [(3, false)], .nop⟩, ⟨[], [(3, false)], .cy (.e 2)⟩, ⟨[], [(3, false)], .iy (.e 0) (.e 10)⟩, ⟨[], [(3, false)], .nop⟩, ⟨[], [(3, false)], .bi .eql (.e 9) (.e 11)⟩, ⟨[], [], .pk (.e 3) (.c (.b true)) (.e 12)⟩, ⟨[], [], .nop⟩] [some 0, none, some 2, some 13, some 4, none, none, none, none]))
      (.reg [⟨[], [], .nop⟩, ⟨[], [], .nop⟩, ⟨[], [], .iy (.e 0) (.e 4)⟩, ⟨[], [], .nop⟩, ⟨[], [], .nop⟩] [some 0, none, some 2, some 3, some 9, none, none, none, none])))))))))
    ((.seq (.reg [⟨[], [], .nop⟩, ⟨[], [], .un .not (.e 3)⟩] [some 0, none, some 2, none, none, none, none, none, some 9])
    (.cond 8 ((.seq (.reg [⟨[], [], .cs .v (.b false)⟩] [none, some 9, none, none, none, none, none, none, none])
     (.ret))) (.skip)))))))))))
   (.reg [⟨[], [], .nop⟩, ⟨[], [], .bi .add (.e 2) (.c (.n 1))⟩, ⟨[], [], .nop⟩] [some 0, none, some 9, none, none, none, none, none, none])))))))))
 ((.seq (.reg [⟨[], [], .nop⟩, ⟨[], [], .ln (.e 0) []⟩, ⟨[], [], .ca 22 [(.e 9), (.c (.n 1)), (.c (.n 9))] 1⟩, ⟨[], [], .nop⟩] [none, some 10, none, none, none, none, none, none, none])
 (.ret))))))⟩

/-- loop.example/g03401/spec.LeavesOf -/
def ir_spec_LeavesOf : IF := ⟨[], 1, 6, [1],
 (.seq (.reg [⟨[], [], .cs .v (.n 0)⟩] [some 0, none, none, none, none, none])
 ((.seq (.reg [⟨[], [], .cs .v (.n 0)⟩] [some 0, none, some 6, none, none, none])
 ((.seq ((.seq (.reg [⟨[], [], .cs .v (.n 0)⟩] [some 0, none, some 2, some 6, none, none])
 (.block 0 (.loop ((.seq ((.seq (.reg [⟨[], [], .nop⟩, ⟨[], [], .nop⟩, ⟨[], [], .ln (.e 0) []⟩, ⟨[], [], .bi .lss (.e 3) (.e 6)⟩, ⟨[], [], .nop⟩, ⟨[], [(7, true)], .nop⟩, ⟨[], [(7, true)], .ca 321 [(.e 0)] 1⟩, ⟨[], [], .pk (.e 7) (.e 8) (.c (.b false))⟩] [some 0, none, some 2, some 3, some 9, none])
   (.cond 4 (.skip) (.exit 0))))
   ((.seq (.block 1 ((.seq (.reg [⟨[], [], .nop⟩, ⟨[], [], .nop⟩, ⟨[], [], .ca 322 [(.e 0), (.e 3)] 1⟩, ⟨[], [], .ln (.e 6) []⟩, ⟨[], [], .bi .eql (.e 7) (.c (.n 0))⟩] [some 0, none, some 2, some 3, none, some 8])
    (.cond 5 (.reg [⟨[], [], .nop⟩, ⟨[], [], .bi .add (.e 2) (.c (.n 1))⟩, ⟨[], [], .nop⟩] [some 0, none, some 6, some 3, none, none]) (.skip)))))
   (.reg [⟨[], [], .nop⟩, ⟨[], [], .bi .add (.e 3) (.c (.n 1))⟩, ⟨[], [], .nop⟩] [some 0, none, some 2, some 6, none, none])))))))))
 ((.seq (.reg [⟨[], [], .nop⟩, ⟨[], [], .nop⟩] [none, some 2, none, none, none, none])
 (.ret))))))))⟩

/-- loop.example/g03401/spec.PlaneOf -/
def ir_spec_PlaneOf : IF := ⟨[], 1, 9, [1, 2],
 (.seq (.reg [⟨[], [], .cs (.o .v) (.l [])⟩, ⟨[], [], .cs .v (.b false)⟩] [some 0, none, none, none, none, none, none, none, none])
 ((.seq (.reg [⟨[], [], .li (.o .v) [(.c (.n (-1)))]⟩, ⟨[], [], .nop⟩] [some 0, none, none, some 9, none, none, none, none, none])
 ((.seq (.reg [⟨[], [], .cs .v (.n 0)⟩] [some 0, none, none, some 3, some 9, none, none, none, none])
 ((.seq ((.seq (.reg [⟨[], [], .cs .v (.n 0)⟩] [some 0, none, none, some 3, some 4, some 9, none, none, none])
 (.block 0 (.loop ((.seq ((.seq (.reg [⟨[], [], .nop⟩, ⟨[], [], .nop⟩, ⟨[], [], .sn (.e 0)⟩, ⟨[], [], .bi .lss (.e 5) (.e 9)⟩, ⟨[], [], .nop⟩, ⟨[], [(10, true)], .cy (.e 0)⟩, ⟨[], [(10, true)], .ca 64 [(.e 11)] 1⟩, ⟨[], [], .pk (.e 10) (.e 12) (.c (.b false))⟩] [some 0, none, none, some 3, some 4, some 5, some 13, none, none])
   (.cond 6 (.skip) (.exit 0))))
   ((.seq (.block 1 ((.seq (.reg [⟨[], [], .nop⟩, ⟨[], [], .nop⟩, ⟨[], [], .sx (.e 0) (.e 5)⟩, ⟨[], [], .bi .eql (.e 9) (.c (.y 117))⟩] [some 0, none, none, some 3, some 4, some 5, none, some 10, none])
    (.cond 7 ((.seq (.reg [⟨[], [], .nop⟩, ⟨[], [], .nop⟩, ⟨[], [], .li (.o .v) [(.e 4)]⟩, ⟨[], [], .ap false (.e 3) (.e 9)⟩, ⟨[], [], .nop⟩] [some 0, none, none, some 10, none, some 5, none, none, none])
     (.reg [⟨[], [], .nop⟩, ⟨[], [], .ln (.e 3) []⟩, ⟨[], [], .bi .sub (.e 9) (.c (.n 1))⟩, ⟨[], [], .nop⟩] [some 0, none, none, some 3, some 10, some 5, none, none, none]))) (.reg [⟨[], [], .nop⟩, ⟨[], [], .nop⟩, ⟨[], [], .ix (.e 3) [] (.e 4)⟩, ⟨[], [], .nop⟩, ⟨[], [], .nop⟩] [some 0, none, none, some 3, some 9, some 5, none, none, none])))))
   (.reg [⟨[], [], .nop⟩, ⟨[], [], .bi .add (.e 5) (.c (.n 1))⟩, ⟨[], [], .nop⟩] [some 0, none, none, some 3, some 4, some 9, none, none, none])))))))))
 ((.seq ((.seq (.reg [⟨[], [], .nop⟩, ⟨[], [], .ca 64 [(.e 0)] 1⟩, ⟨[], [], .un .not (.e 9)⟩] [none, none, none, some 3, none, none, none, none, some 10])
 (.cond 8 ((.seq (.reg [⟨[], [], .li (.o .v) []⟩, ⟨[], [], .nop⟩, ⟨[], [], .cs .v (.b false)⟩] [none, some 9, some 10, none, none, none, none, none, none])
  (.ret))) (.skip))))
 ((.seq (.reg [⟨[], [], .nop⟩, ⟨[], [], .nop⟩, ⟨[], [], .cs .v (.b true)⟩] [none, some 3, some 9, none, none, none, none, none, none])
 (.ret))))))))))))⟩

end Go.Cat

namespace Go.Cat
/-- loop.example/g03401/spec.BlocksOf -/
def ir_spec_BlocksOf : IF := ⟨[], 1, 6, [1],
 (.seq (.reg [⟨[], [], .cs .v (.l [])⟩] [some 0, none, none, none, none, none])
 ((.seq (.reg [⟨[], [], .li (.o (.o .v)) []⟩, ⟨[], [], .nop⟩] [some 0, none, some 6, none, none, none])
 ((.seq ((.seq (.reg [⟨[], [], .cs .v (.n 0)⟩] [some 0, none, some 2, some 6, none, none])
 (.block 0 (.loop ((.seq ((.seq (.reg [⟨[], [], .nop⟩, ⟨[], [], .nop⟩, ⟨[], [], .ln (.e 0) []⟩, ⟨[], [], .bi .lss (.e 3) (.e 6)⟩, ⟨[], [], .nop⟩, ⟨[], [(7, true)], .nop⟩, ⟨[], [(7, true)], .ca 324 [(.e 0)] 1⟩, ⟨[], [], .pk (.e 7) (.e 8) (.c (.b false))⟩] [some 0, none, some 2, some 3, some 9, none])
   (.cond 4 (.skip) (.exit 0))))
   ((.seq (.block 1 ((.seq ((.seq (.reg [⟨[], [], .nop⟩, ⟨[], [], .nop⟩, ⟨[], [], .iy (.e 0) (.e 3)⟩, ⟨[], [], .nop⟩, ⟨[], [], .nop⟩, ⟨[], [], .ln (.e 2) []⟩, ⟨[], [], .bi .eql (.e 6) (.e 7)⟩] [some 0, none, some 2, some 3, none, some 8])
    (.cond 5 (.reg [⟨[], [], .nop⟩, ⟨[], [], .li (.o .v) []⟩, ⟨[], [], .li (.o (.o .v)) [(.e 6)]⟩, ⟨[], [], .ap false (.e 2) (.e 7)⟩, ⟨[], [], .nop⟩] [some 0, none, some 8, some 3, none, none]) (.skip))))
    (.reg [⟨[], [], .ln (.e 2) []⟩, ⟨[], [], .nop⟩, ⟨[], [], .nop⟩, ⟨[], [], .nop⟩, ⟨[], [], .iy (.e 0) (.e 3)⟩, ⟨[], [], .nop⟩, ⟨[], [], .nop⟩, ⟨[], [], .nop⟩, ⟨[], [], .nop⟩, ⟨[], [], .iy (.e 0) (.e 3)⟩, ⟨[], [], .nop⟩, ⟨[], [], .ix (.e 2) [] (.e 8)⟩, ⟨[], [], .sp 2 [.e 8] 1⟩, ⟨[], [], .nop⟩, ⟨[], [], .li (.o .v) [(.e 3)]⟩, ⟨[], [], .ap false (.e 10) (.e 12)⟩, ⟨[], [], .ix (.e 2) [] (.e 7)⟩, ⟨[], [], .up 11 [.e 7] (.e 13)⟩] [some 0, none, some 15, some 3, none, none]))))
   (.reg [⟨[], [], .nop⟩, ⟨[], [], .bi .add (.e 3) (.c (.n 1))⟩, ⟨[], [], .nop⟩] [some 0, none, some 2, some 6, none, none])))))))))
 ((.seq (.reg [⟨[], [], .nop⟩, ⟨[], [], .nop⟩] [none, some 2, none, none, none, none])
 (.ret))))))))⟩

/-- loop.example/g03401/spec.IsPartition -/
def ir_spec_IsPartition : IF := ⟨[], 1, 7, [1],
 (.seq (.reg [⟨[], [], .cs .v (.b false)⟩] [some 0, none, none, none, none, none, none])
 ((.seq (.reg [⟨[], [], .cs .v (.n 0)⟩] [some 0, none, some 7, none, none, none, none])
 ((.seq ((.seq (.reg [⟨[], [], .cs .v (.n 0)⟩] [some 0, none, some 2, some 7, none, none, none])
 (.block 0 (.loop ((.seq ((.seq (.reg [⟨[], [], .nop⟩, ⟨[], [], .nop⟩, ⟨[], [], .ln (.e 0) []⟩, ⟨[], [], .bi .lss (.e 3) (.e 7)⟩] [some 0, none, some 2, some 3, some 8, none, none])
   (.cond 4 (.skip) (.exit 0))))
   ((.seq (.block 1 ((.seq ((.seq (.reg [⟨[], [], .nop⟩, ⟨[], [], .nop⟩, ⟨[], [], .iy (.e 0) (.e 3)⟩, ⟨[], [], .nop⟩, ⟨[], [], .nop⟩, ⟨[], [], .ca 22 [(.e 7), (.c (.n 0)), (.e 2)] 1⟩, ⟨[], [], .un .not (.e 8)⟩] [some 0, none, some 2, some 3, none, some 9, none])
    (.cond 5 ((.seq (.reg [⟨[], [], .cs .v (.b false)⟩] [none, some 7, none, none, none, none, none])
     (.ret))) (.skip))))
    ((.seq (.reg [⟨[], [], .nop⟩, ⟨[], [], .nop⟩, ⟨[], [], .iy (.e 0) (.e 3)⟩, ⟨[], [], .nop⟩, ⟨[], [], .nop⟩, ⟨[], [], .bi .eql (.e 7) (.e 2)⟩] [some 0, none, some 2, some 3, none, none, some 8])
    (.cond 6 (.reg [⟨[], [], .nop⟩, ⟨[], [], .bi .add (.e 2) (.c (.n 1))⟩, ⟨[], [], .nop⟩] [some 0, none, some 7, some 3, none, none, none]) (.skip)))))))
   (.reg [⟨[], [], .nop⟩, ⟨[], [], .bi .add (.e 3) (.c (.n 1))⟩, ⟨[], [], .nop⟩] [some 0, none, some 2, some 7, none, none, none])))))))))
 ((.seq (.reg [⟨[], [], .nop⟩, ⟨[], [], .ln (.e 0) []⟩, ⟨[], [], .bi .leq (.e 7) (.c (.n 8))⟩, ⟨[], [], .nop⟩] [none, some 8, none, none, none, none, none])
 (.ret))))))))⟩

/-- loop.example/g03401/spec.PartitionOf -/
def ir_spec_PartitionOf : IF := ⟨[], 1, 12, [1, 2],
 (.seq (.reg [⟨[], [], .cs (.o .v) (.l [])⟩, ⟨[], [], .cs .v (.b false)⟩] [some 0, none, none, none, none, none, none, none, none, none, none, none])
 ((.seq ((.seq (.reg [⟨[], [], .nop⟩, ⟨[], [], .ca 64 [(.e 0)] 1⟩, ⟨[], [], .un .not (.e 12)⟩] [some 0, none, none, none, none, none, none, none, some 13, none, none, none])
 (.cond 8 ((.seq (.reg [⟨[], [], .li (.o .v) []⟩, ⟨[], [], .nop⟩, ⟨[], [], .cs .v (.b false)⟩] [none, some 12, some 13, none, none, none, none, none, none, none, none, none])
  (.ret))) (.skip))))
 ((.seq (.reg [⟨[], [], .nop⟩, ⟨[], [], .sn (.e 0)⟩, ⟨[], [], .bi .quo (.e 12) (.c (.n 2))⟩, ⟨[], [], .mk (.n 0) (.e 13) (.e 13)⟩, ⟨[], [], .nop⟩] [some 0, none, none, some 14, none, none, none, none, none, none, none, none])
 ((.seq (.reg [⟨[], [], .li (.o .v) []⟩, ⟨[], [], .nop⟩] [some 0, none, none, some 3, some 12, none, none, none, none, none, none, none])
 ((.seq (.reg [⟨[], [], .cs .v (.n 0)⟩] [some 0, none, none, some 3, some 4, some 12, none, none, none, none, none, none])
 ((.seq (.reg [⟨[], [], .cs .v (.n 0)⟩] [some 0, none, none, some 3, some 4, some 5, some 12, none, none, none, none, none])
 ((.seq ((.seq (.reg [⟨[], [], .cs .v (.n 0)⟩] [some 0, none, none, some 3, some 4, some 5, some 6, some 12, none, none, none, none])
 (.block 0 (.loop ((.seq ((.seq (.reg [⟨[], [], .nop⟩, ⟨[], [], .nop⟩, ⟨[], [], .sn (.e 0)⟩, ⟨[], [], .bi .lss (.e 7) (.e 12)⟩] [some 0, none, none, some 3, some 4, some 5, some 6, some 7, none, some 13, none, none])
   (.cond 9 (.skip) (.exit 0))))
   ((.seq (.block 1 ((.seq ((.seq (.reg [⟨[], [], .nop⟩, ⟨[], [], .nop⟩, ⟨[], [], .sx (.e 0) (.e 7)⟩, ⟨[], [], .bi .eql (.e 12) (.c (.y 117))⟩] [some 0, none, none, some 3, some 4, some 5, some 6, some 7, none, none, some 13, none])
    (.cond 10 ((.seq (.reg [⟨[], [], .nop⟩, ⟨[], [], .nop⟩, ⟨[], [], .li (.o .v) [(.e 5)]⟩, ⟨[], [], .ap false (.e 4) (.e 12)⟩, ⟨[], [], .nop⟩] [some 0, none, none, some 3, some 13, some 5, some 6, some 7, none, none, none, none])
     ((.seq (.reg [⟨[], [], .nop⟩, ⟨[], [], .bi .add (.e 5) (.c (.n 1))⟩, ⟨[], [], .nop⟩] [some 0, none, none, some 3, some 4, some 12, some 6, some 7, none, none, none, none])
     (.exit 1))))) (.skip))))
    ((.seq (.reg [⟨[], [], .nop⟩, ⟨[], [], .nop⟩, ⟨[], [], .nop⟩, ⟨[], [], .ln (.e 4) []⟩, ⟨[], [], .bi .sub (.e 12) (.c (.n 1))⟩, ⟨[], [], .ix (.e 4) [] (.e 13)⟩, ⟨[], [], .nop⟩, ⟨[], [], .nop⟩, ⟨[], [], .ix (.e 3) [] (.e 14)⟩, ⟨[], [], .up 3 [.e 14] (.e 6)⟩] [some 0, none, none, some 16, some 4, some 5, some 6, some 7, none, none, none, none])
    ((.seq (.reg [⟨[], [], .nop⟩, ⟨[], [], .nop⟩, ⟨[], [], .ln (.e 4) []⟩, ⟨[], [], .bi .sub (.e 12) (.c (.n 1))⟩, ⟨[], [], .sb true (.e 4) none (some (.e 13))⟩, ⟨[], [], .nop⟩] [some 0, none, none, some 3, some 14, some 5, some 6, some 7, none, none, none, none])
    ((.seq (.reg [⟨[], [], .nop⟩, ⟨[], [], .bi .add (.e 7) (.c (.n 1))⟩, ⟨[], [], .nop⟩, ⟨[], [], .sn (.e 0)⟩, ⟨[], [], .bi .eql (.e 12) (.e 13)⟩, ⟨[], [], .nop⟩, ⟨[], [(14, false)], .cy (.e 0)⟩, ⟨[], [(14, false)], .cy (.e 7)⟩, ⟨[], [(14, false)], .bi .add (.e 16) (.c (.n 1))⟩, ⟨[], [(14, false)], .sx (.e 15) (.e 17)⟩, ⟨[], [(14, false)], .bi .eql (.e 18) (.c (.y 117))⟩, ⟨[], [], .pk (.e 14) (.c (.b true)) (.e 19)⟩] [some 0, none, none, some 3, some 4, some 5, some 6, some 7, none, none, none, some 20])
    (.cond 11 (.reg [⟨[], [], .nop⟩, ⟨[], [], .bi .add (.e 6) (.c (.n 1))⟩, ⟨[], [], .nop⟩] [some 0, none, none, some 3, some 4, some 5, some 12, some 7, none, none, none, none]) (.skip)))))))))))
   (.reg [⟨[], [], .nop⟩, ⟨[], [], .bi .add (.e 7) (.c (.n 1))⟩, ⟨[], [], .nop⟩] [some 0, none, none, some 3, some 4, some 5, some 6, some 12, none, none, none, none])))))))))
 ((.seq (.reg [⟨[], [], .nop⟩, ⟨[], [], .ca 323 [(.e 3)] 1⟩, ⟨[], [], .nop⟩, ⟨[], [], .cs .v (.b true)⟩] [none, some 12, some 13, none, none, none, none, none, none, none, none, none])
 (.ret))))))))))))))))⟩

/-- loop.example/g03401/spec.l8Renumber -/
def ir_spec_l8Renumber : IF := ⟨[], 1, 11, [1],
 (.seq (.reg [⟨[], [], .cs (.o .v) (.l [])⟩] [some 0, none, none, none, none, none, none, none, none, none, none])
 ((.seq (.reg [⟨[], [], .li (.o .v) []⟩, ⟨[], [], .nop⟩] [some 0, none, some 11, none, none, none, none, none, none, none, none])
 ((.seq (.reg [⟨[], [], .li (.o .v) []⟩, ⟨[], [], .nop⟩] [some 0, none, some 2, some 11, none, none, none, none, none, none, none])
 ((.seq ((.seq (.reg [⟨[], [], .cs .v (.n 0)⟩] [some 0, none, some 2, some 3, some 11, none, none, none, none, none, none])
 (.block 0 (.loop ((.seq ((.seq (.reg [⟨[], [], .nop⟩, ⟨[], [], .nop⟩, ⟨[], [], .ln (.e 0) []⟩, ⟨[], [], .bi .lss (.e 4) (.e 11)⟩] [some 0, none, some 2, some 3, some 4, none, none, some 12, none, none, none])
   (.cond 7 (.skip) (.exit 0))))
   ((.seq (.block 1 ((.seq (.reg [⟨[], [], .cs .v (.n (-1))⟩] [some 0, none, some 2, some 3, some 4, some 11, none, none, none, none, none])
    ((.seq ((.seq (.reg [⟨[], [], .cs .v (.n 0)⟩] [some 0, none, some 2, some 3, some 4, some 5, some 11, none, none, none, none])
    (.block 2 (.loop ((.seq ((.seq (.reg [⟨[], [], .nop⟩, ⟨[], [], .nop⟩, ⟨[], [], .ln (.e 3) []⟩, ⟨[], [], .bi .lss (.e 6) (.e 11)⟩] [some 0, none, some 2, some 3, some 4, some 5, some 6, none, some 12, none, none])
      (.cond 8 (.skip) (.exit 2))))
      ((.seq (.block 3 ((.seq (.reg [⟨[], [], .nop⟩, ⟨[], [], .nop⟩, ⟨[], [], .ix (.e 3) [] (.e 6)⟩, ⟨[], [], .nop⟩, ⟨[], [], .nop⟩, ⟨[], [], .nop⟩, ⟨[], [], .iy (.e 0) (.e 4)⟩, ⟨[], [], .nop⟩, ⟨[], [], .bi .eql (.e 11) (.e 12)⟩] [some 0, none, some 2, some 3, some 4, some 5, some 6, none, none, some 13, none])
       (.cond 9 (.reg [⟨[], [], .nop⟩, ⟨[], [], .nop⟩] [some 0, none, some 2, some 3, some 4, some 6, some 6, none, none, none, none]) (.skip)))))
      (.reg [⟨[], [], .nop⟩, ⟨[], [], .bi .add (.e 6) (.c (.n 1))⟩, ⟨[], [], .nop⟩] [some 0, none, some 2, some 3, some 4, some 5, some 11, none, none, none, none])))))))))
    ((.seq ((.seq (.reg [⟨[], [], .nop⟩, ⟨[], [], .bi .lss (.e 5) (.c (.n 0))⟩] [some 0, none, some 2, some 3, some 4, some 5, none, none, none, none, some 11])
    (.cond 10 ((.seq (.reg [⟨[], [], .nop⟩, ⟨[], [], .ln (.e 3) []⟩, ⟨[], [], .nop⟩] [some 0, none, some 2, some 3, some 4, some 11, none, none, none, none, none])
     (.reg [⟨[], [], .nop⟩, ⟨[], [], .nop⟩, ⟨[], [], .nop⟩, ⟨[], [], .iy (.e 0) (.e 4)⟩, ⟨[], [], .nop⟩, ⟨[], [], .li (.o .v) [(.e 11)]⟩, ⟨[], [], .ap false (.e 3) (.e 12)⟩, ⟨[], [], .nop⟩] [some 0, none, some 2, some 13, some 4, some 5, none, none, none, none, none]))) (.skip))))
    (.reg [⟨[], [], .nop⟩, ⟨[], [], .nop⟩, ⟨[], [], .li (.o .v) [(.e 5)]⟩, ⟨[], [], .ap false (.e 2) (.e 11)⟩, ⟨[], [], .nop⟩] [some 0, none, some 12, some 3, some 4, none, none, none, none, none, none]))))))))
   (.reg [⟨[], [], .nop⟩, ⟨[], [], .bi .add (.e 4) (.c (.n 1))⟩, ⟨[], [], .nop⟩] [some 0, none, some 2, some 3, some 11, none, none, none, none, none, none])))))))))
 ((.seq (.reg [⟨[], [], .nop⟩, ⟨[], [], .nop⟩] [none, some 2, none, none, none, none, none, none, none, none, none])
 (.ret))))))))))⟩

end Go.Cat

namespace Go.Cat
/-- loop.example/g03401/spec.MajorOf -/
def ir_spec_MajorOf : IF := ⟨[], 1, 7, [1],
 (.seq (.reg [⟨[], [], .cs .v (.n 0)⟩] [some 0, none, none, none, none, none, none])
 ((.seq ((.seq (.reg [⟨[], [], .nop⟩, ⟨[], [], .ca 64 [(.e 0)] 1⟩, ⟨[], [], .un .not (.e 7)⟩] [some 0, none, none, none, some 8, none, none])
 (.cond 4 ((.seq (.reg [⟨[], [], .cs .v (.n (-1))⟩] [none, some 7, none, none, none, none, none])
  (.ret))) (.skip))))
 ((.seq (.reg [⟨[], [], .cs .v (.n 0)⟩] [some 0, none, some 7, none, none, none, none])
 ((.seq ((.seq (.reg [⟨[], [], .cs .v (.n 1)⟩] [some 0, none, some 2, some 7, none, none, none])
 (.block 0 (.loop ((.seq ((.seq (.reg [⟨[], [], .nop⟩, ⟨[], [], .nop⟩, ⟨[], [], .sn (.e 0)⟩, ⟨[], [], .bi .lss (.e 3) (.e 7)⟩] [some 0, none, some 2, some 3, none, some 8, none])
   (.cond 5 (.skip) (.exit 0))))
   ((.seq (.block 1 ((.seq (.reg [⟨[], [], .nop⟩, ⟨[], [], .nop⟩, ⟨[], [], .bi .sub (.e 3) (.c (.n 1))⟩, ⟨[], [], .sx (.e 0) (.e 7)⟩, ⟨[], [], .bi .eql (.e 8) (.c (.y 100))⟩, ⟨[], [], .nop⟩, ⟨[], [(9, true)], .cy (.e 0)⟩, ⟨[], [(9, true)], .cy (.e 3)⟩, ⟨[], [(9, true)], .sx (.e 10) (.e 11)⟩, ⟨[], [(9, true)], .bi .eql (.e 12) (.c (.y 117))⟩, ⟨[], [], .pk (.e 9) (.e 13) (.c (.b false))⟩] [some 0, none, some 2, some 3, none, none, some 14])
    (.cond 6 (.reg [⟨[], [], .nop⟩, ⟨[], [], .nop⟩, ⟨[], [], .bi .add (.e 2) (.e 3)⟩, ⟨[], [], .nop⟩] [some 0, none, some 7, some 3, none, none, none]) (.skip)))))
   (.reg [⟨[], [], .nop⟩, ⟨[], [], .bi .add (.e 3) (.c (.n 1))⟩, ⟨[], [], .nop⟩] [some 0, none, some 2, some 7, none, none, none])))))))))
 ((.seq (.reg [⟨[], [], .nop⟩, ⟨[], [], .nop⟩] [none, some 2, none, none, none, none, none])
 (.ret))))))))))⟩

end Go.Cat

namespace Go.Cat
/-- loop.example/g03401/spec.StatisticNames -/
def ir_spec_StatisticNames : IF := ⟨[], 0, 1, [0],
 (.seq (.reg [⟨[], [], .cs (.o .v) (.l [])⟩] [none])
 ((.seq (.reg [⟨[], [], .li (.o .v) [(.c (.s [112, 101, 97, 107, 115])), (.c (.s [114, 101, 116, 117, 114, 110, 115])), (.c (.s [114, 105, 115, 101])), (.c (.s [97, 114, 101, 97])), (.c (.s [100, 101, 112, 116, 104])), (.c (.s [108, 101, 97, 118, 101, 115])), (.c (.s [98, 108, 111, 99, 107, 115])), (.c (.s [109, 97, 106, 111, 114])), (.c (.s [102, 97, 108, 108]))]⟩, ⟨[], [], .nop⟩] [some 1])
 (.ret))))⟩

/-- loop.example/g03401/spec.StatisticOf -/
def ir_spec_StatisticOf : IF := ⟨[], 2, 17, [2],
 (.seq (.reg [⟨[], [], .cs .v (.n 0)⟩] [some 0, some 1, none, none, none, none, none, none, none, none, none, none, none, none, none, none, none])
 ((.seq ((.seq (.reg [⟨[], [], .nop⟩, ⟨[], [], .ca 64 [(.e 1)] 1⟩, ⟨[], [], .un .not (.e 17)⟩] [some 0, some 1, none, none, none, none, some 18, none, none, none, none, none, none, none, none, none, none])
 (.cond 6 ((.seq (.reg [⟨[], [], .cs .v (.n (-1))⟩] [none, none, some 17, none, none, none, none, none, none, none, none, none, none, none, none, none, none])
  (.ret))) (.skip))))
 ((.seq ((.seq (.reg [⟨[], [], .nop⟩] [none, some 1, none, none, none, none, none, some 0, none, none, none, none, none, none, none, none, none])
 (.block 0 ((.seq (.reg [⟨[], [], .bi .eql (.e 7) (.c (.s [112, 101, 97, 107, 115]))⟩, ⟨[], [], .nop⟩] [none, some 1, none, none, none, none, none, some 7, some 17, none, none, none, none, none, none, none, none])
  (.cond 8 ((.seq (.reg [⟨[], [], .nop⟩, ⟨[], [], .ca 293 [(.e 1)] 1⟩, ⟨[], [], .nop⟩] [none, none, some 17, none, none, none, none, none, none, none, none, none, none, none, none, none, none])
   (.ret))) ((.seq (.reg [⟨[], [], .bi .eql (.e 7) (.c (.s [114, 101, 116, 117, 114, 110, 115]))⟩, ⟨[], [], .nop⟩] [none, some 1, none, none, none, none, none, some 7, none, some 17, none, none, none, none, none, none, none])
   (.cond 9 ((.seq (.reg [⟨[], [], .nop⟩, ⟨[], [], .ca 294 [(.e 1)] 1⟩, ⟨[], [], .nop⟩] [none, none, some 17, none, none, none, none, none, none, none, none, none, none, none, none, none, none])
    (.ret))) ((.seq (.reg [⟨[], [], .bi .eql (.e 7) (.c (.s [114, 105, 115, 101]))⟩, ⟨[], [], .nop⟩] [none, some 1, none, none, none, none, none, some 7, none, none, some 17, none, none, none, none, none, none])
    (.cond 10 ((.seq (.reg [⟨[], [], .nop⟩, ⟨[], [], .ca 295 [(.e 1), (.c (.b false))] 1⟩, ⟨[], [], .nop⟩] [none, none, some 17, none, none, none, none, none, none, none, none, none, none, none, none, none, none])
     (.ret))) ((.seq (.reg [⟨[], [], .bi .eql (.e 7) (.c (.s [102, 97, 108, 108]))⟩, ⟨[], [], .nop⟩] [none, some 1, none, none, none, none, none, some 7, none, none, none, some 17, none, none, none, none, none])
     (.cond 11 ((.seq (.reg [⟨[], [], .nop⟩, ⟨[], [], .ca 295 [(.e 1), (.c (.b true))] 1⟩, ⟨[], [], .nop⟩] [none, none, some 17, none, none, none, none, none, none, none, none, none, none, none, none, none, none])
      (.ret))) ((.seq (.reg [⟨[], [], .bi .eql (.e 7) (.c (.s [97, 114, 101, 97]))⟩, ⟨[], [], .nop⟩] [none, some 1, none, none, none, none, none, some 7, none, none, none, none, some 17, none, none, none, none])
      (.cond 12 ((.seq (.reg [⟨[], [], .nop⟩, ⟨[], [], .ca 296 [(.e 1)] 1⟩, ⟨[], [], .nop⟩] [none, none, some 17, none, none, none, none, none, none, none, none, none, none, none, none, none, none])
       (.ret))) ((.seq (.reg [⟨[], [], .bi .eql (.e 7) (.c (.s [100, 101, 112, 116, 104]))⟩, ⟨[], [], .nop⟩] [none, some 1, none, none, none, none, none, some 7, none, none, none, none, none, some 17, none, none, none])
       (.cond 13 ((.seq (.reg [⟨[], [], .nop⟩, ⟨[], [], .ca 297 [(.e 1)] 2⟩, ⟨[], [], .nop⟩, ⟨[], [], .nop⟩, ⟨[], [], .nop⟩, ⟨[], [], .nop⟩, ⟨[], [], .nop⟩] [none, none, none, some 17, none, none, none, none, none, none, none, none, none, none, none, none, none])
        ((.seq (.reg [⟨[], [], .nop⟩, ⟨[], [], .ca 298 [(.e 3)] 1⟩, ⟨[], [], .nop⟩] [none, none, some 17, none, none, none, none, none, none, none, none, none, none, none, none, none, none])
        (.ret))))) ((.seq (.reg [⟨[], [], .bi .eql (.e 7) (.c (.s [108, 101, 97, 118, 101, 115]))⟩, ⟨[], [], .nop⟩] [none, some 1, none, none, none, none, none, some 7, none, none, none, none, none, none, some 17, none, none])
        (.cond 14 ((.seq (.reg [⟨[], [], .nop⟩, ⟨[], [], .ca 299 [(.e 1)] 2⟩, ⟨[], [], .nop⟩, ⟨[], [], .nop⟩, ⟨[], [], .nop⟩, ⟨[], [], .nop⟩, ⟨[], [], .nop⟩] [none, none, none, none, some 17, none, none, none, none, none, none, none, none, none, none, none, none])
         ((.seq (.reg [⟨[], [], .nop⟩, ⟨[], [], .ca 300 [(.e 4)] 1⟩, ⟨[], [], .nop⟩] [none, none, some 17, none, none, none, none, none, none, none, none, none, none, none, none, none, none])
         (.ret))))) ((.seq (.reg [⟨[], [], .bi .eql (.e 7) (.c (.s [98, 108, 111, 99, 107, 115]))⟩, ⟨[], [], .nop⟩] [none, some 1, none, none, none, none, none, some 7, none, none, none, none, none, none, none, some 17, none])
         (.cond 15 ((.seq (.reg [⟨[], [], .nop⟩, ⟨[], [], .ca 301 [(.e 1)] 2⟩, ⟨[], [], .nop⟩, ⟨[], [], .nop⟩, ⟨[], [], .nop⟩, ⟨[], [], .nop⟩, ⟨[], [], .nop⟩] [none, none, none, none, none, some 17, none, none, none, none, none, none, none, none, none, none, none])
          ((.seq (.reg [⟨[], [], .nop⟩, ⟨[], [], .ca 302 [(.e 5)] 1⟩, ⟨[], [], .ln (.e 17) []⟩, ⟨[], [], .nop⟩] [none, none, some 18, none, none, none, none, none, none, none, none, none, none, none, none, none, none])
          (.ret))))) ((.seq (.reg [⟨[], [], .bi .eql (.e 7) (.c (.s [109, 97, 106, 111, 114]))⟩, ⟨[], [], .nop⟩] [none, some 1, none, none, none, none, none, none, none, none, none, none, none, none, none, none, some 17])
          (.cond 16 ((.seq (.reg [⟨[], [], .nop⟩, ⟨[], [], .ca 303 [(.e 1)] 1⟩, ⟨[], [], .nop⟩] [none, none, some 17, none, none, none, none, none, none, none, none, none, none, none, none, none, none])
           (.ret))) (.skip)))))))))))))))))))))))))))))))
 ((.seq (.reg [⟨[], [], .cs .v (.n (-1))⟩] [none, none, some 17, none, none, none, none, none, none, none, none, none, none, none, none, none, none])
 (.ret))))))))⟩

/-- loop.example/g03401/spec.l13Run -/
def ir_spec_l13Run : IF := ⟨[], 2, 5, [2],
 (.seq (.reg [⟨[], [], .cs .v (.n 0)⟩] [some 0, some 1, none, none, none])
 ((.seq (.reg [⟨[], [], .cs .v (.n 0)⟩] [some 0, some 1, none, some 5, none])
 ((.seq (.block 0 (.loop ((.seq ((.seq (.reg [⟨[], [], .nop⟩, ⟨[], [], .nop⟩, ⟨[], [], .sn (.e 0)⟩, ⟨[], [], .bi .lss (.e 3) (.e 5)⟩, ⟨[], [], .nop⟩, ⟨[], [(6, true)], .cy (.e 1)⟩, ⟨[], [(6, true)], .un .not (.e 7)⟩, ⟨[], [(6, true)], .cy (.e 8)⟩, ⟨[], [(6, true), (9, true)], .cy (.e 0)⟩, ⟨[], [(6, true), (9, true)], .cy (.e 3)⟩, ⟨[], [(6, true), (9, true)], .sx (.e 10) (.e 11)⟩, ⟨[], [(6, true), (9, true)], .bi .eql (.e 12) (.c (.y 117))⟩, ⟨[], [(6, true)], .pk (.e 9) (.e 13) (.c (.b false))⟩, ⟨[], [(6, true)], .cy (.e 14)⟩, ⟨[], [(6, true), (15, false)], .cy (.e 1)⟩, ⟨[], [(6, true), (15, false)], .cy (.e 16)⟩, ⟨[], [(6, true), (15, false), (17, true)], .cy (.e 0)⟩, ⟨[], [(6, true), (15, false), (17, true)], .cy (.e 0)⟩, ⟨[], [(6, true), (15, false), (17, true)], .sn (.e 19)⟩, ⟨[], [(6, true), (15, false), (17, true)], .bi .sub (.e 20) (.c (.n 1))⟩, ⟨[], [(6, true), (15, false), (17, true)], .cy (.e 3)⟩, ⟨[], [(6, true), (15, false), (17, true)], .bi .sub (.e 21) (.e 22)⟩, ⟨[], [(6, true), (15, false), (17, true)], .sx (.e 18) (.e 23)⟩, ⟨[], [(6, true), (15, false), (17, true)], .bi .eql (.e 24) (.c (.y 100))⟩, ⟨[], [(6, true), (15, false)], .pk (.e 17) (.e 25) (.c (.b false))⟩, ⟨[], [(6, true)], .pk (.e 15) (.c (.b true)) (.e 26)⟩, ⟨[], [], .pk (.e 6) (.e 27) (.c (.b false))⟩] [some 0, some 1, none, some 3, some 28])
   (.cond 4 (.skip) (.exit 0))))
   (.block 1 (.reg [⟨[], [], .nop⟩, ⟨[], [], .bi .add (.e 3) (.c (.n 1))⟩, ⟨[], [], .nop⟩] [some 0, some 1, none, some 5, none]))))))
 ((.seq (.reg [⟨[], [], .nop⟩, ⟨[], [], .nop⟩] [none, none, some 3, none, none])
 (.ret))))))))⟩

end Go.Cat

namespace Go.Cat
/-- loop.example/g03401/spec.PathLine -/
def ir_spec_PathLine : IF := ⟨[], 1, 7, [1],
 (.seq (.reg [⟨[], [], .cs .v (.s [])⟩] [some 0, none, none, none, none, none, none])
 ((.seq ((.seq (.reg [⟨[], [], .nop⟩, ⟨[], [], .ca 64 [(.e 0)] 1⟩, ⟨[], [], .un .not (.e 7)⟩] [some 0, none, none, none, none, some 8, none])
 (.cond 5 ((.seq (.reg [⟨[], [], .cs .v (.s [])⟩] [none, some 7, none, none, none, none, none])
  (.ret))) (.skip))))
 ((.seq (.reg [⟨[], [], .nop⟩, ⟨[], [], .sn (.e 0)⟩, ⟨[], [], .bi .quo (.e 7) (.c (.n 2))⟩, ⟨[], [], .ca 138 [(.e 8)] 1⟩, ⟨[], [], .bi .add (.c (.s [112, 97, 116, 104, 32])) (.e 9)⟩, ⟨[], [], .bi .add (.e 10) (.c (.s [32, 114, 97, 110, 107, 32]))⟩, ⟨[], [], .nop⟩, ⟨[], [], .ca 276 [(.e 0)] 1⟩, ⟨[], [], .ca 138 [(.e 12)] 1⟩, ⟨[], [], .bi .add (.e 11) (.e 13)⟩, ⟨[], [], .nop⟩] [some 0, none, some 14, none, none, none, none])
 ((.seq (.reg [⟨[], [], .ca 498 [] 1⟩, ⟨[], [], .nop⟩] [some 0, none, some 2, some 7, none, none, none])
 ((.seq ((.seq (.reg [⟨[], [], .cs .v (.n 0)⟩] [some 0, none, some 2, some 3, some 7, none, none])
 (.block 0 (.loop ((.seq ((.seq (.reg [⟨[], [], .nop⟩, ⟨[], [], .nop⟩, ⟨[], [], .ln (.e 3) []⟩, ⟨[], [], .bi .lss (.e 4) (.e 7)⟩] [some 0, none, some 2, some 3, some 4, none, some 8])
   (.cond 6 (.skip) (.exit 0))))
   ((.seq (.block 1 (.reg [⟨[], [], .nop⟩, ⟨[], [], .bi .add (.e 2) (.c (.s [32]))⟩, ⟨[], [], .nop⟩, ⟨[], [], .nop⟩, ⟨[], [], .ix (.e 3) [] (.e 4)⟩, ⟨[], [], .nop⟩, ⟨[], [], .bi .add (.e 7) (.e 8)⟩, ⟨[], [], .bi .add (.e 9) (.c (.s [32]))⟩, ⟨[], [], .nop⟩, ⟨[], [], .nop⟩, ⟨[], [], .ix (.e 3) [] (.e 4)⟩, ⟨[], [], .nop⟩, ⟨[], [], .nop⟩, ⟨[], [], .ca 235 [(.e 11), (.e 0)] 1⟩, ⟨[], [], .ca 138 [(.e 12)] 1⟩, ⟨[], [], .bi .add (.e 10) (.e 13)⟩, ⟨[], [], .nop⟩] [some 0, none, some 14, some 3, some 4, none, none]))
   (.reg [⟨[], [], .nop⟩, ⟨[], [], .bi .add (.e 4) (.c (.n 1))⟩, ⟨[], [], .nop⟩] [some 0, none, some 2, some 3, some 7, none, none])))))))))
 ((.seq (.reg [⟨[], [], .nop⟩, ⟨[], [], .nop⟩] [none, some 2, none, none, none, none, none])
 (.ret))))))))))))⟩

end Go.Cat

namespace Go.Cat
end Go.Cat

namespace Go.Cat
end Go.Cat

namespace Go.Cat
end Go.Cat

namespace Go.Cat
end Go.Cat

namespace Go.Cat
end Go.Cat

namespace Go.Cat
end Go.Cat

namespace Go.Cat
end Go.Cat

namespace Go.Cat
end Go.Cat

namespace Go.Cat
end Go.Cat

namespace Go.Cat
end Go.Cat

namespace Go.Cat
end Go.Cat

namespace Go.Cat
end Go.Cat

namespace Go.Cat
end Go.Cat

namespace Go.Cat
end Go.Cat

namespace Go.Cat
end Go.Cat

namespace Go.Cat
end Go.Cat

namespace Go.Cat
end Go.Cat

namespace Go.Cat
end Go.Cat

namespace Go.Cat
end Go.Cat

namespace Go.Cat
end Go.Cat

namespace Go.Cat
end Go.Cat

namespace Go.Cat
end Go.Cat

namespace Go.Cat
end Go.Cat

