/-
  Texts of the little language.
-/
import Derived.Test.YtdifmcppfcbgdaaCatThree
namespace Go.Cat
/-- loop.example/g03401/laws.at -/
def ir_laws_at : IF := ⟨[], 2, 4, [2],
 (.seq (.reg [⟨[], [], .cs .v (.n 0)⟩] [some 0, some 1, none, none])
 ((.seq ((.seq (.reg [⟨[], [], .nop⟩, ⟨[], [], .nop⟩, ⟨[], [], .ln (.e 0) []⟩, ⟨[], [], .bi .lss (.e 1) (.e 4)⟩] [some 0, some 1, none, some 5])
 (.cond 3 ((.seq (.reg [⟨[], [], .nop⟩, ⟨[], [], .nop⟩, ⟨[], [], .ix (.e 0) [] (.e 1)⟩, ⟨[], [], .nop⟩, ⟨[], [], .cv .i64 (.e 4)⟩, ⟨[], [], .nop⟩] [none, none, some 5, none])
  (.ret))) (.skip))))
 ((.seq (.reg [⟨[], [], .nop⟩, ⟨[], [], .bi .mul (.e 1) (.c (.n 37))⟩, ⟨[], [], .nop⟩, ⟨[], [], .ln (.e 0) []⟩, ⟨[], [], .bi .mul (.e 5) (.c (.n 11))⟩, ⟨[], [], .bi .add (.e 4) (.e 6)⟩, ⟨[], [], .bi .rem (.e 7) (.c (.n 256))⟩, ⟨[], [], .nop⟩] [none, none, some 8, none])
 (.ret))))))⟩

/-- loop.example/g03401/laws.big -/
def ir_laws_big : IF := ⟨[], 1, 2, [1],
 (.seq (.reg [⟨[], [], .cs .v (.b false)⟩] [some 0, none])
 ((.seq (.reg [⟨[], [], .nop⟩, ⟨[], [], .ln (.e 0) []⟩, ⟨[], [], .bi .gtr (.e 2) (.c (.n 1048576))⟩, ⟨[], [], .nop⟩] [none, some 3])
 (.ret))))⟩

/-- loop.example/g03401/laws.sameInts -/
def ir_laws_sameInts : IF := ⟨[], 2, 7, [2],
 (.seq (.reg [⟨[], [], .cs .v (.b false)⟩] [some 0, some 1, none, none, none, none, none])
 ((.seq ((.seq (.reg [⟨[], [], .nop⟩, ⟨[], [], .ln (.e 0) []⟩, ⟨[], [], .nop⟩, ⟨[], [], .ln (.e 1) []⟩, ⟨[], [], .bi .neq (.e 7) (.e 8)⟩] [some 0, some 1, none, none, some 9, none, none])
 (.cond 4 ((.seq (.reg [⟨[], [], .cs .v (.b false)⟩] [none, none, some 7, none, none, none, none])
  (.ret))) (.skip))))
 ((.seq ((.seq (.reg [⟨[], [], .cs .v (.n 0)⟩] [some 0, some 1, none, some 7, none, none, none])
 (.block 0 (.loop ((.seq ((.seq (.reg [⟨[], [], .nop⟩, ⟨[], [], .nop⟩, ⟨[], [], .ln (.e 0) []⟩, ⟨[], [], .bi .lss (.e 3) (.e 7)⟩] [some 0, some 1, none, some 3, none, some 8, none])
   (.cond 5 (.skip) (.exit 0))))
   ((.seq (.block 1 ((.seq (.reg [⟨[], [], .nop⟩, ⟨[], [], .nop⟩, ⟨[], [], .iy (.e 0) (.e 3)⟩, ⟨[], [], .nop⟩, ⟨[], [], .nop⟩, ⟨[], [], .nop⟩, ⟨[], [], .iy (.e 1) (.e 3)⟩, ⟨[], [], .nop⟩, ⟨[], [], .bi .neq (.e 7) (.e 8)⟩] [some 0, some 1, none, some 3, none, none, some 9])
    (.cond 6 ((.seq (.reg [⟨[], [], .cs .v (.b false)⟩] [none, none, some 7, none, none, none, none])
     (.ret))) (.skip)))))
   (.reg [⟨[], [], .nop⟩, ⟨[], [], .bi .add (.e 3) (.c (.n 1))⟩, ⟨[], [], .nop⟩] [some 0, some 1, none, some 7, none, none, none])))))))))
 ((.seq (.reg [⟨[], [], .cs .v (.b true)⟩] [none, none, some 7, none, none, none, none])
 (.ret))))))))⟩

end Go.Cat

namespace Go.Cat
/-- loop.example/g03401/impl.FormatInt -/
def ir_impl_FormatInt : IF := ⟨[], 1, 12, [1],
 (.seq (.reg [⟨[], [], .cs .v (.s [])⟩] [some 0, none, none, none, none, none, none, none, none, none, none, none])
 ((.seq ((.seq (.reg [⟨[], [], .nop⟩, ⟨[], [], .bi .eql (.e 0) (.c (.n 0))⟩] [some 0, none, none, none, none, none, none, some 12, none, none, none, none])
 (.cond 7 ((.seq (.reg [⟨[], [], .cs .v (.s [48])⟩] [none, some 12, none, none, none, none, none, none, none, none, none, none])
  (.ret))) (.skip))))
 ((.seq (.reg [⟨[], [], .li (.o .v) []⟩, ⟨[], [], .nop⟩] [some 0, none, some 12, none, none, none, none, none, none, none, none, none])
 ((.seq ((.seq (.reg [⟨[], [], .nop⟩, ⟨[], [], .nop⟩] [some 0, none, some 2, some 0, none, none, none, none, none, none, none, none])
 (.block 0 (.loop ((.seq ((.seq (.reg [⟨[], [], .nop⟩, ⟨[], [], .bi .neq (.e 3) (.c (.n 0))⟩] [some 0, none, some 2, some 3, none, none, none, none, some 12, none, none, none])
   (.cond 8 (.skip) (.exit 0))))
   ((.seq (.block 1 ((.seq (.reg [⟨[], [], .nop⟩, ⟨[], [], .bi .rem (.e 3) (.c (.n 10))⟩, ⟨[], [], .nop⟩] [some 0, none, some 2, some 3, some 12, none, none, none, none, none, none, none])
    ((.seq ((.seq (.reg [⟨[], [], .nop⟩, ⟨[], [], .bi .lss (.e 4) (.c (.n 0))⟩] [some 0, none, some 2, some 3, some 4, none, none, none, none, some 12, none, none])
    (.cond 9 (.reg [⟨[], [], .nop⟩, ⟨[], [], .un .neg (.e 4)⟩, ⟨[], [], .nop⟩] [some 0, none, some 2, some 3, some 12, none, none, none, none, none, none, none]) (.skip))))
    (.reg [⟨[], [], .nop⟩, ⟨[], [], .nop⟩, ⟨[], [], .bi .add (.c (.n 48)) (.e 4)⟩, ⟨[], [], .cv .u8 (.e 12)⟩, ⟨[], [], .li (.o .v) [(.e 13)]⟩, ⟨[], [], .ap false (.e 2) (.e 14)⟩, ⟨[], [], .nop⟩] [some 0, none, some 15, some 3, none, none, none, none, none, none, none, none]))))))
   (.reg [⟨[], [], .nop⟩, ⟨[], [], .bi .quo (.e 3) (.c (.n 10))⟩, ⟨[], [], .nop⟩] [some 0, none, some 2, some 12, none, none, none, none, none, none, none, none])))))))))
 ((.seq ((.seq (.reg [⟨[], [], .nop⟩, ⟨[], [], .bi .lss (.e 0) (.c (.n 0))⟩] [none, none, some 2, none, none, none, none, none, none, none, some 12, none])
 (.cond 10 (.reg [⟨[], [], .nop⟩, ⟨[], [], .li (.o .v) [(.c (.y 45))]⟩, ⟨[], [], .ap false (.e 2) (.e 12)⟩, ⟨[], [], .nop⟩] [none, none, some 13, none, none, none, none, none, none, none, none, none]) (.skip))))
 ((.seq ((.seq (.reg [⟨[], [], .nop⟩, ⟨[], [], .ln (.e 2) []⟩, ⟨[], [], .bi .sub (.e 12) (.c (.n 1))⟩, ⟨[], [], .cs .v (.n 0)⟩, ⟨[], [], .nop⟩] [none, none, some 2, none, none, some 14, some 13, none, none, none, none, none])
 (.block 2 (.loop ((.seq ((.seq (.reg [⟨[], [], .nop⟩, ⟨[], [], .nop⟩, ⟨[], [], .bi .lss (.e 5) (.e 6)⟩] [none, none, some 2, none, none, some 5, some 6, none, none, none, none, some 12])
   (.cond 11 (.skip) (.exit 2))))
   ((.seq (.block 3 (.reg [⟨[], [], .nop⟩, ⟨[], [], .nop⟩, ⟨[], [], .nop⟩, ⟨[], [], .nop⟩, ⟨[], [], .nop⟩, ⟨[], [], .nop⟩, ⟨[], [], .ix (.e 2) [] (.e 6)⟩, ⟨[], [], .nop⟩, ⟨[], [], .nop⟩, ⟨[], [], .nop⟩, ⟨[], [], .ix (.e 2) [] (.e 5)⟩, ⟨[], [], .nop⟩, ⟨[], [], .ix (.e 2) [] (.e 5)⟩, ⟨[], [], .up 2 [.e 5] (.e 12)⟩, ⟨[], [], .ix (.e 15) [] (.e 6)⟩, ⟨[], [], .up 15 [.e 6] (.e 13)⟩] [none, none, some 17, none, none, some 5, some 6, none, none, none, none, none]))
   (.reg [⟨[], [], .nop⟩, ⟨[], [], .bi .add (.e 5) (.c (.n 1))⟩, ⟨[], [], .nop⟩, ⟨[], [], .bi .sub (.e 6) (.c (.n 1))⟩, ⟨[], [], .nop⟩, ⟨[], [], .nop⟩] [none, none, some 2, none, none, some 12, some 13, none, none, none, none, none])))))))))
 ((.seq (.reg [⟨[], [], .nop⟩, ⟨[], [], .bs (.e 2)⟩, ⟨[], [], .nop⟩] [none, some 12, none, none, none, none, none, none, none, none, none, none])
 (.ret))))))))))))))⟩

/-- loop.example/g03401/impl.within -/
def ir_impl_within : IF := ⟨[], 3, 4, [3],
 (.seq (.reg [⟨[], [], .cs .v (.b false)⟩] [some 0, some 1, some 2, none])
 ((.seq (.reg [⟨[], [], .nop⟩, ⟨[], [], .nop⟩, ⟨[], [], .bi .geq (.e 0) (.e 1)⟩, ⟨[], [], .nop⟩, ⟨[], [(4, true)], .cy (.e 0)⟩, ⟨[], [(4, true)], .cy (.e 2)⟩, ⟨[], [(4, true)], .bi .leq (.e 5) (.e 6)⟩, ⟨[], [], .pk (.e 4) (.e 7) (.c (.b false))⟩, ⟨[], [], .nop⟩] [none, none, none, some 8])
 (.ret))))⟩

end Go.Cat

namespace Go.Cat
/-- loop.example/g03401/impl.AreaOf -/
def ir_impl_AreaOf : IF := ⟨[], 1, 8, [1],
 (.seq (.reg [⟨[], [], .cs .v (.n 0)⟩] [some 0, none, none, none, none, none, none, none])
 ((.seq ((.seq (.reg [⟨[], [], .nop⟩, ⟨[], [], .ca 67 [(.e 0)] 1⟩, ⟨[], [], .un .not (.e 8)⟩] [some 0, none, none, none, none, some 9, none, none])
 (.cond 5 ((.seq (.reg [⟨[], [], .cs .v (.n (-1))⟩] [none, some 8, none, none, none, none, none, none])
  (.ret))) (.skip))))
 ((.seq (.reg [⟨[], [], .cs .v (.n 0)⟩] [some 0, none, some 8, none, none, none, none, none])
 ((.seq (.reg [⟨[], [], .nop⟩, ⟨[], [], .ca 501 [(.e 0)] 1⟩, ⟨[], [], .nop⟩] [some 0, none, some 2, some 8, none, none, none, none])
 ((.seq ((.seq (.reg [⟨[], [], .cs .v (.n 0)⟩] [some 0, none, some 2, some 3, some 8, none, none, none])
 (.block 0 (.loop ((.seq ((.seq (.reg [⟨[], [], .nop⟩, ⟨[], [], .nop⟩, ⟨[], [], .sn (.e 0)⟩, ⟨[], [], .bi .lss (.e 4) (.e 8)⟩] [some 0, none, some 2, some 3, some 4, none, some 9, none])
   (.cond 6 (.skip) (.exit 0))))
   ((.seq (.block 1 ((.seq (.reg [⟨[], [], .nop⟩, ⟨[], [], .nop⟩, ⟨[], [], .sx (.e 0) (.e 4)⟩, ⟨[], [], .bi .eql (.e 8) (.c (.y 117))⟩] [some 0, none, some 2, some 3, some 4, none, none, some 9])
    (.cond 7 (.reg [⟨[], [], .nop⟩, ⟨[], [], .nop⟩, ⟨[], [], .nop⟩, ⟨[], [], .ix (.e 3) [] (.e 4)⟩, ⟨[], [], .nop⟩, ⟨[], [], .bi .add (.e 2) (.e 8)⟩, ⟨[], [], .nop⟩] [some 0, none, some 9, some 3, some 4, none, none, none]) (.skip)))))
   (.reg [⟨[], [], .nop⟩, ⟨[], [], .bi .add (.e 4) (.c (.n 1))⟩, ⟨[], [], .nop⟩] [some 0, none, some 2, some 3, some 8, none, none, none])))))))))
 ((.seq (.reg [⟨[], [], .nop⟩, ⟨[], [], .nop⟩] [none, some 2, none, none, none, none, none, none])
 (.ret))))))))))))⟩

/-- loop.example/g03401/impl.HeightsOf -/
def ir_impl_HeightsOf : IF := ⟨[], 1, 4, [1],
 (.seq (.reg [⟨[], [], .cs (.o .v) (.l [])⟩] [some 0, none, none, none])
 ((.seq ((.seq (.reg [⟨[], [], .nop⟩, ⟨[], [], .ca 67 [(.e 0)] 1⟩, ⟨[], [], .un .not (.e 4)⟩] [some 0, none, none, some 5])
 (.cond 3 ((.seq (.reg [⟨[], [], .li (.o .v) []⟩, ⟨[], [], .nop⟩] [none, some 4, none, none])
  (.ret))) (.skip))))
 ((.seq (.reg [⟨[], [], .nop⟩, ⟨[], [], .ca 82 [(.e 0)] 2⟩, ⟨[], [], .nop⟩, ⟨[], [], .nop⟩, ⟨[], [], .nop⟩, ⟨[], [], .nop⟩, ⟨[], [], .nop⟩] [none, none, some 4, none])
 ((.seq (.reg [⟨[], [], .nop⟩, ⟨[], [], .nop⟩] [none, some 2, none, none])
 (.ret))))))))⟩

/-- loop.example/g03401/impl.IsDyck -/
def ir_impl_IsDyck : IF := ⟨[], 1, 4, [1],
 (.seq (.reg [⟨[], [], .cs .v (.b false)⟩] [some 0, none, none, none])
 ((.seq ((.seq (.reg [⟨[], [], .nop⟩, ⟨[], [], .sn (.e 0)⟩, ⟨[], [], .bi .gtr (.e 4) (.c (.n 16))⟩] [some 0, none, none, some 5])
 (.cond 3 ((.seq (.reg [⟨[], [], .cs .v (.b false)⟩] [none, some 4, none, none])
  (.ret))) (.skip))))
 ((.seq (.reg [⟨[], [], .nop⟩, ⟨[], [], .ca 82 [(.e 0)] 2⟩, ⟨[], [], .nop⟩, ⟨[], [], .nop⟩, ⟨[], [], .nop⟩, ⟨[], [], .nop⟩, ⟨[], [], .nop⟩] [none, none, some 5, none])
 ((.seq (.reg [⟨[], [], .nop⟩, ⟨[], [], .nop⟩] [none, some 2, none, none])
 (.ret))))))))⟩

/-- loop.example/g03401/impl.copyInts -/
def ir_impl_copyInts : IF := ⟨[], 1, 2, [1],
 (.seq (.reg [⟨[], [], .cs (.o .v) (.l [])⟩] [some 0, none])
 ((.seq (.reg [⟨[], [], .li (.o .v) []⟩, ⟨[], [], .nop⟩, ⟨[], [], .ap true (.e 2) (.e 0)⟩, ⟨[], [], .nop⟩] [none, some 3])
 (.ret))))⟩

/-- loop.example/g03401/impl.glued -/
def ir_impl_glued : IF := ⟨[], 2, 11, [2],
 (.seq (.reg [⟨[], [], .cs .v (.s [])⟩] [some 0, some 1, none, none, none, none, none, none, none, none, none])
 ((.seq (.reg [⟨[], [], .cs .v (.s [])⟩] [some 0, some 1, none, some 11, none, none, none, none, none, none, none])
 ((.seq ((.seq (.reg [⟨[], [], .nop⟩, ⟨[], [], .ln (.e 0) []⟩, ⟨[], [], .cs .v (.n 0)⟩] [none, some 1, none, some 3, none, none, some 0, some 11, some 12, none, none])
 (.block 0 (.loop ((.seq (.reg [⟨[], [], .bi .lss (.e 8) (.e 7)⟩] [none, some 1, none, some 3, none, none, some 6, some 7, some 8, some 11, none])
   ((.seq (.cond 9 (.skip) (.exit 0))
   ((.seq (.block 1 ((.seq (.reg [⟨[], [], .nop⟩, ⟨[], [], .iy (.e 6) (.e 8)⟩, ⟨[], [], .nop⟩, ⟨[], [], .nop⟩, ⟨[], [], .nop⟩] [none, some 1, none, some 3, some 8, some 11, some 6, some 7, some 8, none, none])
    ((.seq ((.seq (.reg [⟨[], [], .nop⟩, ⟨[], [], .bi .gtr (.e 4) (.c (.n 0))⟩] [none, some 1, none, some 3, none, some 5, some 6, some 7, some 8, none, some 11])
    (.cond 10 (.reg [⟨[], [], .nop⟩, ⟨[], [], .nop⟩, ⟨[], [], .bi .add (.e 3) (.e 1)⟩, ⟨[], [], .nop⟩] [none, some 1, none, some 11, none, some 5, some 6, some 7, some 8, none, none]) (.skip))))
    (.reg [⟨[], [], .nop⟩, ⟨[], [], .nop⟩, ⟨[], [], .bi .add (.e 3) (.e 5)⟩, ⟨[], [], .nop⟩] [none, some 1, none, some 11, none, none, some 6, some 7, some 8, none, none]))))))
   (.reg [⟨[], [], .bi .add (.e 8) (.c (.n 1))⟩, ⟨[], [], .nop⟩] [none, some 1, none, some 3, none, none, some 6, some 7, some 11, none, none])))))))))))
 ((.seq (.reg [⟨[], [], .nop⟩, ⟨[], [], .nop⟩] [none, none, some 3, none, none, none, none, none, none, none, none])
 (.ret))))))))⟩

/-- loop.example/g03401/impl.heights -/
def ir_impl_heights : IF := ⟨[], 1, 11, [1, 2],
 (.seq (.reg [⟨[], [], .cs (.o .v) (.l [])⟩, ⟨[], [], .cs .v (.b false)⟩] [some 0, none, none, none, none, none, none, none, none, none, none])
 ((.seq (.reg [⟨[], [], .li (.o .v) [(.c (.n 0))]⟩, ⟨[], [], .nop⟩] [some 0, none, none, some 11, none, none, none, none, none, none, none])
 ((.seq (.reg [⟨[], [], .cs .v (.n 0)⟩] [some 0, none, none, some 3, some 11, none, none, none, none, none, none])
 ((.seq ((.seq (.reg [⟨[], [], .cs .v (.n 0)⟩] [some 0, none, none, some 3, some 4, some 11, none, none, none, none, none])
 (.block 0 (.loop ((.seq ((.seq (.reg [⟨[], [], .nop⟩, ⟨[], [], .nop⟩, ⟨[], [], .sn (.e 0)⟩, ⟨[], [], .bi .lss (.e 5) (.e 11)⟩] [some 0, none, none, some 3, some 4, some 5, some 12, none, none, none, none])
   (.cond 6 (.skip) (.exit 0))))
   ((.seq (.block 1 ((.seq ((.seq (.reg [⟨[], [], .nop⟩, ⟨[], [], .nop⟩, ⟨[], [], .sx (.e 0) (.e 5)⟩] [some 0, none, none, some 3, some 4, some 5, none, some 11, none, none, none])
    (.block 2 ((.seq (.reg [⟨[], [], .bi .eql (.e 7) (.c (.y 117))⟩, ⟨[], [], .nop⟩] [some 0, none, none, some 3, some 4, some 5, none, some 7, some 11, none, none])
     (.cond 8 (.reg [⟨[], [], .nop⟩, ⟨[], [], .bi .add (.e 4) (.c (.n 1))⟩, ⟨[], [], .nop⟩] [some 0, none, none, some 3, some 11, some 5, none, none, none, none, none]) ((.seq (.reg [⟨[], [], .bi .eql (.e 7) (.c (.y 100))⟩, ⟨[], [], .nop⟩] [some 0, none, none, some 3, some 4, some 5, none, none, none, some 11, none])
      (.cond 9 (.reg [⟨[], [], .nop⟩, ⟨[], [], .bi .sub (.e 4) (.c (.n 1))⟩, ⟨[], [], .nop⟩] [some 0, none, none, some 3, some 11, some 5, none, none, none, none, none]) ((.seq (.reg [⟨[], [], .cs (.o .v) (.l [])⟩, ⟨[], [], .cs .v (.b false)⟩] [none, some 11, some 12, none, none, none, none, none, none, none, none])
       (.ret))))))))))))
    ((.seq ((.seq (.reg [⟨[], [], .nop⟩, ⟨[], [], .bi .lss (.e 4) (.c (.n 0))⟩] [some 0, none, none, some 3, some 4, some 5, none, none, none, none, some 11])
    (.cond 10 ((.seq (.reg [⟨[], [], .cs (.o .v) (.l [])⟩, ⟨[], [], .cs .v (.b false)⟩] [none, some 11, some 12, none, none, none, none, none, none, none, none])
     (.ret))) (.skip))))
    (.reg [⟨[], [], .nop⟩, ⟨[], [], .nop⟩, ⟨[], [], .li (.o .v) [(.e 4)]⟩, ⟨[], [], .ap false (.e 3) (.e 11)⟩, ⟨[], [], .nop⟩] [some 0, none, none, some 12, some 4, some 5, none, none, none, none, none]))))))
   (.reg [⟨[], [], .nop⟩, ⟨[], [], .bi .add (.e 5) (.c (.n 1))⟩, ⟨[], [], .nop⟩] [some 0, none, none, some 3, some 4, some 11, none, none, none, none, none])))))))))
 ((.seq (.reg [⟨[], [], .nop⟩, ⟨[], [], .nop⟩, ⟨[], [], .bi .eql (.e 4) (.c (.n 0))⟩, ⟨[], [], .nop⟩, ⟨[], [], .nop⟩] [none, some 3, some 11, none, none, none, none, none, none, none, none])
 (.ret))))))))))⟩

end Go.Cat

namespace Go.Cat
/-- loop.example/g03401/impl.allPaths -/
def ir_impl_allPaths : IF := ⟨[], 1, 4, [1],
 (.seq (.reg [⟨[], [], .cs (.o .v) (.l [])⟩] [some 0, none, none, none])
 ((.seq (.reg [⟨[], [], .li (.o .v) []⟩, ⟨[], [], .cs (.b (.o .v)) (.g [(.l [])])⟩, ⟨[], [], .up 5 [.k 0] (.e 4)⟩] [some 0, none, some 6, none])
 ((.seq (.reg [⟨[], [], .cs (.b .v) (.g [.u])⟩] [some 0, none, some 2, some 4])
 ((.seq (.reg [⟨[], [], .nop⟩, ⟨[], [], .cb 3⟩, ⟨[], [], .nop⟩, ⟨[], [], .nop⟩, ⟨[], [], .nop⟩, ⟨[], [], .ca 326 [(.c (.s [])), (.e 0), (.e 0), (.e 2), (.e 4)] 1⟩] [none, none, some 5, none])
 ((.seq (.reg [⟨[], [], .tk 2⟩, ⟨[], [], .nop⟩] [none, some 4, none, none])
 (.ret))))))))))⟩

/-- loop.example/g03401/impl.allPaths$1 -/
def ir_impl_allPaths_f1 : IF := ⟨[], 5, 8, [3],
 (.seq ((.seq (.reg [⟨[], [], .nop⟩, ⟨[], [], .bi .eql (.e 1) (.c (.n 0))⟩, ⟨[], [], .nop⟩, ⟨[], [(8, true)], .cy (.e 2)⟩, ⟨[], [(8, true)], .bi .eql (.e 9) (.c (.n 0))⟩, ⟨[], [], .pk (.e 8) (.e 10) (.c (.b false))⟩] [some 0, some 1, some 2, some 3, some 4, some 11, none, none])
 (.cond 5 ((.seq (.reg [⟨[], [], .tk 3⟩, ⟨[], [], .nop⟩, ⟨[], [], .li (.o .v) [(.e 0)]⟩, ⟨[], [], .ap false (.e 8) (.e 10)⟩, ⟨[], [], .up 9 [.k 0] (.e 11)⟩] [none, none, none, some 12, none, none, none, none])
  (.ret))) (.skip))))
 ((.seq ((.seq (.reg [⟨[], [], .nop⟩, ⟨[], [], .bi .gtr (.e 1) (.c (.n 0))⟩] [some 0, some 1, some 2, some 3, some 4, none, some 8, none])
 (.cond 6 (.reg [⟨[], [], .nop⟩, ⟨[], [], .nop⟩, ⟨[], [], .bi .add (.e 0) (.c (.s [117]))⟩, ⟨[], [], .nop⟩, ⟨[], [], .bi .sub (.e 1) (.c (.n 1))⟩, ⟨[], [], .nop⟩, ⟨[], [], .ca 326 [(.e 8), (.e 9), (.e 2), (.e 3), (.e 4)] 1⟩] [some 0, some 1, some 2, some 10, some 4, none, none, none]) (.skip))))
 ((.seq (.reg [⟨[], [], .nop⟩, ⟨[], [], .nop⟩, ⟨[], [], .bi .gtr (.e 2) (.e 1)⟩] [some 0, some 1, some 2, some 3, some 4, none, none, some 8])
 (.cond 7 (.reg [⟨[], [], .nop⟩, ⟨[], [], .nop⟩, ⟨[], [], .bi .add (.e 0) (.c (.s [100]))⟩, ⟨[], [], .nop⟩, ⟨[], [], .nop⟩, ⟨[], [], .bi .sub (.e 2) (.c (.n 1))⟩, ⟨[], [], .ca 326 [(.e 8), (.e 1), (.e 9), (.e 3), (.e 4)] 1⟩] [none, none, none, some 10, none, none, none, none]) (.skip)))))))⟩

/-- loop.example/g03401/impl.choose -/
def ir_impl_choose : IF := ⟨[], 2, 7, [2],
 (.seq (.reg [⟨[], [], .cs .v (.n 0)⟩] [some 0, some 1, none, none, none, none, none])
 ((.seq ((.seq (.reg [⟨[], [], .nop⟩, ⟨[], [], .bi .lss (.e 1) (.c (.n 0))⟩, ⟨[], [], .nop⟩, ⟨[], [(7, false)], .cy (.e 1)⟩, ⟨[], [(7, false)], .cy (.e 0)⟩, ⟨[], [(7, false)], .bi .gtr (.e 8) (.e 9)⟩, ⟨[], [], .pk (.e 7) (.c (.b true)) (.e 10)⟩] [some 0, some 1, none, none, none, some 11, none])
 (.cond 5 ((.seq (.reg [⟨[], [], .cs .v (.n 0)⟩] [none, none, some 7, none, none, none, none])
  (.ret))) (.skip))))
 ((.seq (.reg [⟨[], [], .cs .v (.n 1)⟩] [some 0, some 1, none, some 7, none, none, none])
 ((.seq ((.seq (.reg [⟨[], [], .cs .v (.n 1)⟩] [some 0, some 1, none, some 3, some 7, none, none])
 (.block 0 (.loop ((.seq ((.seq (.reg [⟨[], [], .nop⟩, ⟨[], [], .nop⟩, ⟨[], [], .bi .leq (.e 4) (.e 1)⟩] [some 0, some 1, none, some 3, some 4, none, some 7])
   (.cond 6 (.skip) (.exit 0))))
   ((.seq (.block 1 (.reg [⟨[], [], .nop⟩, ⟨[], [], .nop⟩, ⟨[], [], .nop⟩, ⟨[], [], .bi .sub (.e 0) (.e 1)⟩, ⟨[], [], .nop⟩, ⟨[], [], .bi .add (.e 7) (.e 4)⟩, ⟨[], [], .bi .mul (.e 3) (.e 8)⟩, ⟨[], [], .nop⟩, ⟨[], [], .bi .quo (.e 9) (.e 4)⟩, ⟨[], [], .nop⟩] [some 0, some 1, none, some 10, some 4, none, none]))
   (.reg [⟨[], [], .nop⟩, ⟨[], [], .bi .add (.e 4) (.c (.n 1))⟩, ⟨[], [], .nop⟩] [some 0, some 1, none, some 3, some 7, none, none])))))))))
 ((.seq (.reg [⟨[], [], .nop⟩, ⟨[], [], .nop⟩] [none, none, some 3, none, none, none, none])
 (.ret))))))))))⟩

end Go.Cat

namespace Go.Cat
/-- loop.example/g03401/impl.AddPolynomials -/
def ir_impl_AddPolynomials : IF := ⟨[], 2, 19, [2, 3],
 (.seq (.reg [⟨[], [], .cs (.o .v) (.l [])⟩, ⟨[], [], .cs .v (.b false)⟩] [some 0, some 1, none, none, none, none, none, none, none, none, none, none, none, none, none, none, none, none, none])
 ((.seq ((.seq (.reg [⟨[], [], .nop⟩, ⟨[], [], .ca 428 [(.e 0)] 1⟩, ⟨[], [], .un .not (.e 19)⟩, ⟨[], [], .nop⟩, ⟨[], [(20, false)], .nop⟩, ⟨[], [(20, false)], .ca 428 [(.e 1)] 1⟩, ⟨[], [(20, false)], .un .not (.e 21)⟩, ⟨[], [], .pk (.e 20) (.c (.b true)) (.e 22)⟩] [some 0, some 1, none, none, none, none, none, none, none, some 23, none, none, none, none, none, none, none, none, none])
 (.cond 9 ((.seq (.reg [⟨[], [], .li (.o .v) []⟩, ⟨[], [], .nop⟩, ⟨[], [], .cs .v (.b false)⟩] [none, none, some 19, some 20, none, none, none, none, none, none, none, none, none, none, none, none, none, none, none])
  (.ret))) (.skip))))
 ((.seq (.reg [⟨[], [], .nop⟩, ⟨[], [], .ln (.e 0) []⟩, ⟨[], [], .nop⟩, ⟨[], [], .ln (.e 1) []⟩, ⟨[], [], .mx (.e 19) (.e 20)⟩, ⟨[], [], .mk (.n 0) (.e 21) (.e 21)⟩, ⟨[], [], .nop⟩] [some 0, some 1, none, none, some 22, none, none, none, none, none, none, none, none, none, none, none, none, none, none])
 ((.seq ((.seq (.reg [⟨[], [], .nop⟩, ⟨[], [], .ln (.e 0) []⟩, ⟨[], [], .cs .v (.n 0)⟩] [none, some 1, none, none, some 4, none, none, none, none, none, some 0, some 19, some 20, none, none, none, none, none, none])
 (.block 0 (.loop ((.seq (.reg [⟨[], [], .bi .lss (.e 12) (.e 11)⟩] [none, some 1, none, none, some 4, none, none, none, none, none, some 10, some 11, some 12, some 19, none, none, none, none, none])
   ((.seq (.cond 13 (.skip) (.exit 0))
   ((.seq (.block 1 ((.seq (.reg [⟨[], [], .nop⟩, ⟨[], [], .iy (.e 10) (.e 12)⟩, ⟨[], [], .nop⟩, ⟨[], [], .nop⟩, ⟨[], [], .nop⟩] [none, some 1, none, none, some 4, some 12, some 19, none, none, none, some 10, some 11, some 12, none, none, none, none, none, none])
    (.reg [⟨[], [], .nop⟩, ⟨[], [], .nop⟩, ⟨[], [], .nop⟩, ⟨[], [], .ix (.e 4) [] (.e 5)⟩, ⟨[], [], .up 4 [.e 5] (.e 6)⟩] [none, some 1, none, none, some 20, none, none, none, none, none, some 10, some 11, some 12, none, none, none, none, none, none]))))
   (.reg [⟨[], [], .bi .add (.e 12) (.c (.n 1))⟩, ⟨[], [], .nop⟩] [none, some 1, none, none, some 4, none, none, none, none, none, some 10, some 11, some 19, none, none, none, none, none, none])))))))))))
 ((.seq ((.seq (.reg [⟨[], [], .nop⟩, ⟨[], [], .ln (.e 1) []⟩, ⟨[], [], .cs .v (.n 0)⟩] [none, none, none, none, some 4, none, none, none, none, none, none, none, none, none, some 1, some 19, some 20, none, none])
 (.block 2 (.loop ((.seq (.reg [⟨[], [], .bi .lss (.e 16) (.e 15)⟩] [none, none, none, none, some 4, none, none, none, none, none, none, none, none, none, some 14, some 15, some 16, some 19, none])
   ((.seq (.cond 17 (.skip) (.exit 2))
   ((.seq (.block 3 ((.seq (.reg [⟨[], [], .nop⟩, ⟨[], [], .iy (.e 14) (.e 16)⟩, ⟨[], [], .nop⟩, ⟨[], [], .nop⟩, ⟨[], [], .nop⟩] [none, none, none, none, some 4, none, none, some 16, some 19, none, none, none, none, none, some 14, some 15, some 16, none, none])
    (.reg [⟨[], [], .nop⟩, ⟨[], [], .nop⟩, ⟨[], [], .nop⟩, ⟨[], [], .nop⟩, ⟨[], [], .ix (.e 4) [] (.e 7)⟩, ⟨[], [], .nop⟩, ⟨[], [], .nop⟩, ⟨[], [], .bi .add (.e 19) (.e 8)⟩, ⟨[], [], .ix (.e 4) [] (.e 7)⟩, ⟨[], [], .up 4 [.e 7] (.e 20)⟩] [none, none, none, none, some 22, none, none, none, none, none, none, none, none, none, some 14, some 15, some 16, none, none]))))
   (.reg [⟨[], [], .bi .add (.e 16) (.c (.n 1))⟩, ⟨[], [], .nop⟩] [none, none, none, none, some 4, none, none, none, none, none, none, none, none, none, some 14, some 15, some 19, none, none])))))))))))
 ((.seq (.reg [⟨[], [], .nop⟩, ⟨[], [], .ca 469 [(.e 4)] 1⟩, ⟨[], [], .nop⟩] [none, none, none, none, some 19, none, none, none, none, none, none, none, none, none, none, none, none, none, none])
 ((.seq ((.seq (.reg [⟨[], [], .nop⟩, ⟨[], [], .ca 428 [(.e 4)] 1⟩, ⟨[], [], .un .not (.e 19)⟩] [none, none, none, none, some 4, none, none, none, none, none, none, none, none, none, none, none, none, none, some 20])
 (.cond 18 ((.seq (.reg [⟨[], [], .li (.o .v) []⟩, ⟨[], [], .nop⟩, ⟨[], [], .cs .v (.b false)⟩] [none, none, some 19, some 20, none, none, none, none, none, none, none, none, none, none, none, none, none, none, none])
  (.ret))) (.skip))))
 ((.seq (.reg [⟨[], [], .nop⟩, ⟨[], [], .nop⟩, ⟨[], [], .cs .v (.b true)⟩] [none, none, some 4, some 19, none, none, none, none, none, none, none, none, none, none, none, none, none, none, none])
 (.ret))))))))))))))))⟩

/-- loop.example/g03401/impl.AreaPolynomial -/
def ir_impl_AreaPolynomial : IF := ⟨[], 1, 12, [1, 2],
 (.seq (.reg [⟨[], [], .cs (.o .v) (.l [])⟩, ⟨[], [], .cs .v (.b false)⟩] [some 0, none, none, none, none, none, none, none, none, none, none, none])
 ((.seq ((.seq (.reg [⟨[], [], .nop⟩, ⟨[], [], .ca 23 [(.e 0), (.c (.n 0)), (.c (.n 8))] 1⟩, ⟨[], [], .un .not (.e 12)⟩] [some 0, none, none, none, none, none, some 13, none, none, none, none, none])
 (.cond 6 ((.seq (.reg [⟨[], [], .li (.o .v) []⟩, ⟨[], [], .nop⟩, ⟨[], [], .cs .v (.b false)⟩] [none, some 12, some 13, none, none, none, none, none, none, none, none, none])
  (.ret))) (.skip))))
 ((.seq (.reg [⟨[], [], .li (.o .v) []⟩, ⟨[], [], .nop⟩] [some 0, none, none, some 12, none, none, none, none, none, none, none, none])
 ((.seq ((.seq (.reg [⟨[], [], .nop⟩, ⟨[], [], .ca 314 [(.e 0)] 1⟩, ⟨[], [], .ln (.e 12) []⟩, ⟨[], [], .cs .v (.n 0)⟩] [none, none, none, some 3, none, none, none, some 12, some 13, some 14, none, none])
 (.block 0 (.loop ((.seq (.reg [⟨[], [], .bi .lss (.e 9) (.e 8)⟩] [none, none, none, some 3, none, none, none, some 7, some 8, some 9, some 12, none])
   ((.seq (.cond 10 (.skip) (.exit 0))
   ((.seq (.block 1 ((.seq (.reg [⟨[], [], .ix (.e 7) [] (.e 9)⟩, ⟨[], [], .nop⟩, ⟨[], [], .nop⟩] [none, none, none, some 3, some 12, none, none, some 7, some 8, some 9, none, none])
    ((.seq (.reg [⟨[], [], .nop⟩, ⟨[], [], .ca 465 [(.e 4)] 1⟩, ⟨[], [], .nop⟩] [none, none, none, some 3, none, some 12, none, some 7, some 8, some 9, none, none])
    ((.seq (.block 2 (.loop ((.seq ((.seq (.reg [⟨[], [], .nop⟩, ⟨[], [], .ln (.e 3) []⟩, ⟨[], [], .nop⟩, ⟨[], [], .bi .leq (.e 12) (.e 5)⟩] [none, none, none, some 3, none, some 5, none, some 7, some 8, some 9, none, some 13])
      (.cond 11 (.skip) (.exit 2))))
      (.block 3 (.reg [⟨[], [], .nop⟩, ⟨[], [], .li (.o .v) [(.c (.n 0))]⟩, ⟨[], [], .ap false (.e 3) (.e 12)⟩, ⟨[], [], .nop⟩] [none, none, none, some 13, none, some 5, none, some 7, some 8, some 9, none, none]))))))
    (.reg [⟨[], [], .nop⟩, ⟨[], [], .nop⟩, ⟨[], [], .ix (.e 3) [] (.e 5)⟩, ⟨[], [], .nop⟩, ⟨[], [], .bi .add (.e 12) (.c (.n 1))⟩, ⟨[], [], .ix (.e 3) [] (.e 5)⟩, ⟨[], [], .up 3 [.e 5] (.e 13)⟩] [none, none, none, some 15, none, none, none, some 7, some 8, some 9, none, none]))))))))
   (.reg [⟨[], [], .bi .add (.e 9) (.c (.n 1))⟩, ⟨[], [], .nop⟩] [none, none, none, some 3, none, none, none, some 7, some 8, some 12, none, none])))))))))))
 ((.seq (.reg [⟨[], [], .nop⟩, ⟨[], [], .nop⟩, ⟨[], [], .cs .v (.b true)⟩] [none, some 3, some 12, none, none, none, none, none, none, none, none, none])
 (.ret))))))))))⟩

/-- loop.example/g03401/impl.BinomialPolynomial -/
def ir_impl_BinomialPolynomial : IF := ⟨[], 2, 5, [2, 3],
 (.seq (.reg [⟨[], [], .cs (.o .v) (.l [])⟩, ⟨[], [], .cs .v (.b false)⟩] [some 0, some 1, none, none, none])
 ((.seq ((.seq (.reg [⟨[], [], .nop⟩, ⟨[], [], .ca 23 [(.e 0), (.c (.n 0)), (.c (.n 14))] 1⟩, ⟨[], [], .un .not (.e 5)⟩, ⟨[], [], .nop⟩, ⟨[], [(6, false)], .cy (.e 1)⟩, ⟨[], [(6, false)], .cy (.e 0)⟩, ⟨[], [(6, false)], .ca 23 [(.e 7), (.c (.n 0)), (.e 8)] 1⟩, ⟨[], [(6, false)], .un .not (.e 9)⟩, ⟨[], [], .pk (.e 6) (.c (.b true)) (.e 10)⟩] [some 0, some 1, none, none, some 11])
 (.cond 4 ((.seq (.reg [⟨[], [], .li (.o .v) []⟩, ⟨[], [], .nop⟩, ⟨[], [], .cs .v (.b false)⟩] [none, none, some 5, some 6, none])
  (.ret))) (.skip))))
 ((.seq (.reg [⟨[], [], .nop⟩, ⟨[], [], .nop⟩, ⟨[], [], .ca 466 [(.e 0), (.e 1)] 1⟩, ⟨[], [], .nop⟩, ⟨[], [], .cs .v (.b true)⟩] [none, none, some 5, some 6, none])
 (.ret))))))⟩

/-- loop.example/g03401/impl.CatalanPolynomial -/
def ir_impl_CatalanPolynomial : IF := ⟨[], 1, 8, [1, 2],
 (.seq (.reg [⟨[], [], .cs (.o .v) (.l [])⟩, ⟨[], [], .cs .v (.b false)⟩] [some 0, none, none, none, none, none, none, none])
 ((.seq ((.seq (.reg [⟨[], [], .nop⟩, ⟨[], [], .ca 23 [(.e 0), (.c (.n 0)), (.c (.n 7))] 1⟩, ⟨[], [], .un .not (.e 8)⟩] [some 0, none, none, none, none, none, none, some 9])
 (.cond 7 ((.seq (.reg [⟨[], [], .li (.o .v) []⟩, ⟨[], [], .nop⟩, ⟨[], [], .cs .v (.b false)⟩] [none, some 8, some 9, none, none, none, none, none])
  (.ret))) (.skip))))
 ((.seq (.reg [⟨[], [], .nop⟩, ⟨[], [], .bi .mul (.c (.n 2)) (.e 0)⟩, ⟨[], [], .nop⟩, ⟨[], [], .ca 412 [(.e 8), (.e 0)] 2⟩, ⟨[], [], .nop⟩, ⟨[], [], .nop⟩, ⟨[], [], .nop⟩, ⟨[], [], .nop⟩, ⟨[], [], .nop⟩] [some 0, none, none, some 9, none, none, none, none])
 ((.seq (.reg [⟨[], [], .nop⟩, ⟨[], [], .bi .add (.e 0) (.c (.n 1))⟩, ⟨[], [], .ca 422 [(.e 8)] 2⟩, ⟨[], [], .nop⟩, ⟨[], [], .nop⟩, ⟨[], [], .nop⟩, ⟨[], [], .nop⟩, ⟨[], [], .nop⟩] [none, none, none, some 3, some 9, none, none, none])
 ((.seq (.reg [⟨[], [], .nop⟩, ⟨[], [], .nop⟩, ⟨[], [], .ca 403 [(.e 3), (.e 4)] 3⟩, ⟨[], [], .nop⟩, ⟨[], [], .nop⟩, ⟨[], [], .nop⟩, ⟨[], [], .nop⟩, ⟨[], [], .nop⟩, ⟨[], [], .nop⟩, ⟨[], [], .nop⟩] [none, none, none, none, none, some 8, some 10, none])
 ((.seq (.reg [⟨[], [], .nop⟩, ⟨[], [], .nop⟩, ⟨[], [], .nop⟩, ⟨[], [], .nop⟩] [none, some 5, some 6, none, none, none, none, none])
 (.ret))))))))))))⟩

/-- loop.example/g03401/impl.DividePolynomials -/
def ir_impl_DividePolynomials : IF := ⟨[], 2, 16, [2, 3, 4],
 (.seq (.reg [⟨[], [], .cs (.o .v) (.l [])⟩, ⟨[], [], .cs (.o .v) (.l [])⟩, ⟨[], [], .cs .v (.b false)⟩] [some 0, some 1, none, none, none, none, none, none, none, none, none, none, none, none, none, none])
 ((.seq (.reg [⟨[], [], .nop⟩, ⟨[], [], .ca 460 [(.e 0)] 1⟩, ⟨[], [], .nop⟩, ⟨[], [(16, true)], .nop⟩, ⟨[], [(16, true)], .ln (.e 1) []⟩, ⟨[], [(16, true)], .ca 23 [(.e 17), (.c (.n 1)), (.c (.n 13))] 1⟩, ⟨[], [], .pk (.e 16) (.e 18) (.c (.b false))⟩, ⟨[], [], .nop⟩, ⟨[], [(19, true)], .nop⟩, ⟨[], [(19, true)], .nop⟩, ⟨[], [(19, true)], .ln (.e 1) []⟩, ⟨[], [(19, true)], .bi .sub (.e 20) (.c (.n 1))⟩, ⟨[], [(19, true)], .iy (.e 1) (.e 21)⟩, ⟨[], [(19, true)], .nop⟩, ⟨[], [(19, true)], .bi .eql (.e 22) (.c (.n 1))⟩, ⟨[], [], .pk (.e 19) (.e 23) (.c (.b false))⟩, ⟨[], [], .nop⟩] [some 0, some 1, none, none, none, some 24, none, none, none, none, none, none, none, none, none, none])
 ((.seq ((.seq (.reg [⟨[], [], .nop⟩, ⟨[], [], .ln (.e 1) []⟩, ⟨[], [], .cs .v (.n 0)⟩] [some 0, some 1, none, none, none, some 5, none, none, none, none, some 1, some 16, some 17, none, none, none])
 (.block 0 (.loop ((.seq (.reg [⟨[], [], .bi .lss (.e 12) (.e 11)⟩] [some 0, some 1, none, none, none, some 5, none, none, none, none, some 10, some 11, some 12, some 16, none, none])
   ((.seq (.cond 13 (.skip) (.exit 0))
   ((.seq (.block 1 ((.seq (.reg [⟨[], [], .iy (.e 10) (.e 12)⟩, ⟨[], [], .nop⟩, ⟨[], [], .nop⟩] [some 0, some 1, none, none, none, some 5, some 16, none, none, none, some 10, some 11, some 12, none, none, none])
    (.reg [⟨[], [], .nop⟩, ⟨[], [], .nop⟩, ⟨[], [(5, true)], .cy (.e 6)⟩, ⟨[], [(5, true)], .ca 23 [(.e 16), (.c (.n (-1))), (.c (.n 1))] 1⟩, ⟨[], [], .pk (.e 5) (.e 17) (.c (.b false))⟩, ⟨[], [], .nop⟩] [some 0, some 1, none, none, none, some 18, none, none, none, none, some 10, some 11, some 12, none, none, none]))))
   (.reg [⟨[], [], .bi .add (.e 12) (.c (.n 1))⟩, ⟨[], [], .nop⟩] [some 0, some 1, none, none, none, some 5, none, none, none, none, some 10, some 11, some 16, none, none, none])))))))))))
 ((.seq ((.seq (.reg [⟨[], [], .nop⟩, ⟨[], [], .un .not (.e 5)⟩] [some 0, some 1, none, none, none, none, none, none, none, none, none, none, none, none, some 16, none])
 (.cond 14 ((.seq (.reg [⟨[], [], .li (.o .v) []⟩, ⟨[], [], .li (.o .v) []⟩, ⟨[], [], .nop⟩, ⟨[], [], .nop⟩, ⟨[], [], .cs .v (.b false)⟩] [none, none, some 16, some 17, some 18, none, none, none, none, none, none, none, none, none, none, none])
  (.ret))) (.skip))))
 ((.seq (.reg [⟨[], [], .nop⟩, ⟨[], [], .nop⟩, ⟨[], [], .ca 461 [(.e 0), (.e 1)] 3⟩, ⟨[], [], .nop⟩, ⟨[], [], .nop⟩, ⟨[], [], .nop⟩, ⟨[], [], .nop⟩, ⟨[], [], .nop⟩, ⟨[], [], .nop⟩, ⟨[], [], .nop⟩] [none, none, none, none, none, none, none, some 16, some 17, some 18, none, none, none, none, none, none])
 ((.seq ((.seq (.reg [⟨[], [], .nop⟩, ⟨[], [], .un .not (.e 9)⟩, ⟨[], [], .nop⟩, ⟨[], [(16, false)], .nop⟩, ⟨[], [(16, false)], .ca 428 [(.e 7)] 1⟩, ⟨[], [(16, false)], .un .not (.e 17)⟩, ⟨[], [], .pk (.e 16) (.c (.b true)) (.e 18)⟩, ⟨[], [], .nop⟩, ⟨[], [(19, false)], .nop⟩, ⟨[], [(19, false)], .ca 428 [(.e 8)] 1⟩, ⟨[], [(19, false)], .un .not (.e 20)⟩, ⟨[], [], .pk (.e 19) (.c (.b true)) (.e 21)⟩] [none, none, none, none, none, none, none, some 7, some 8, none, none, none, none, none, none, some 22])
 (.cond 15 ((.seq (.reg [⟨[], [], .li (.o .v) []⟩, ⟨[], [], .li (.o .v) []⟩, ⟨[], [], .nop⟩, ⟨[], [], .nop⟩, ⟨[], [], .cs .v (.b false)⟩] [none, none, some 16, some 17, some 18, none, none, none, none, none, none, none, none, none, none, none])
  (.ret))) (.skip))))
 ((.seq (.reg [⟨[], [], .nop⟩, ⟨[], [], .nop⟩, ⟨[], [], .nop⟩, ⟨[], [], .nop⟩, ⟨[], [], .cs .v (.b true)⟩] [none, none, some 7, some 8, some 16, none, none, none, none, none, none, none, none, none, none, none])
 (.ret))))))))))))))⟩

/-- loop.example/g03401/impl.FormatPolynomial -/
def ir_impl_FormatPolynomial : IF := ⟨[], 1, 9, [1],
 (.seq (.reg [⟨[], [], .cs .v (.s [])⟩] [some 0, none, none, none, none, none, none, none, none])
 ((.seq ((.seq (.reg [⟨[], [], .nop⟩, ⟨[], [], .ln (.e 0) []⟩, ⟨[], [], .bi .eql (.e 9) (.c (.n 0))⟩, ⟨[], [], .nop⟩, ⟨[], [(10, false)], .nop⟩, ⟨[], [(10, false)], .ca 428 [(.e 0)] 1⟩, ⟨[], [(10, false)], .un .not (.e 11)⟩, ⟨[], [], .pk (.e 10) (.c (.b true)) (.e 12)⟩] [some 0, none, none, none, some 13, none, none, none, none])
 (.cond 4 ((.seq (.reg [⟨[], [], .cs .v (.s [48])⟩] [none, some 9, none, none, none, none, none, none, none])
  (.ret))) (.skip))))
 ((.seq (.reg [⟨[], [], .li (.o .v) []⟩, ⟨[], [], .nop⟩] [some 0, none, some 9, none, none, none, none, none, none])
 ((.seq ((.seq (.reg [⟨[], [], .nop⟩, ⟨[], [], .ln (.e 0) []⟩, ⟨[], [], .cs .v (.n 0)⟩] [none, none, some 2, none, none, some 0, some 9, some 10, none])
 (.block 0 (.loop ((.seq (.reg [⟨[], [], .bi .lss (.e 7) (.e 6)⟩] [none, none, some 2, none, none, some 5, some 6, some 7, some 9])
   ((.seq (.cond 8 (.skip) (.exit 0))
   ((.seq (.block 1 ((.seq (.reg [⟨[], [], .iy (.e 5) (.e 7)⟩, ⟨[], [], .nop⟩, ⟨[], [], .nop⟩] [none, none, some 2, some 9, none, some 5, some 6, some 7, none])
    (.reg [⟨[], [], .nop⟩, ⟨[], [], .nop⟩, ⟨[], [], .ca 143 [(.e 3)] 1⟩, ⟨[], [], .li (.o .v) [(.e 9)]⟩, ⟨[], [], .ap false (.e 2) (.e 10)⟩, ⟨[], [], .nop⟩] [none, none, some 11, none, none, some 5, some 6, some 7, none]))))
   (.reg [⟨[], [], .bi .add (.e 7) (.c (.n 1))⟩, ⟨[], [], .nop⟩] [none, none, some 2, none, none, some 5, some 6, some 9, none])))))))))))
 ((.seq (.reg [⟨[], [], .nop⟩, ⟨[], [], .ca 184 [(.e 2), (.c (.s [44]))] 1⟩, ⟨[], [], .nop⟩] [none, some 9, none, none, none, none, none, none, none])
 (.ret))))))))))⟩

/-- loop.example/g03401/impl.IsPolynomial -/
def ir_impl_IsPolynomial : IF := ⟨[], 1, 9, [1],
 (.seq (.reg [⟨[], [], .cs .v (.b false)⟩] [some 0, none, none, none, none, none, none, none, none])
 ((.seq ((.seq (.reg [⟨[], [], .nop⟩, ⟨[], [], .ln (.e 0) []⟩, ⟨[], [], .bi .gtr (.e 9) (.c (.n 61))⟩, ⟨[], [], .nop⟩, ⟨[], [(10, false)], .nop⟩, ⟨[], [(10, false)], .ln (.e 0) []⟩, ⟨[], [(10, false)], .bi .gtr (.e 11) (.c (.n 0))⟩, ⟨[], [(10, false)], .cy (.e 12)⟩, ⟨[], [(10, false), (13, true)], .nop⟩, ⟨[], [(10, false), (13, true)], .nop⟩, ⟨[], [(10, false), (13, true)], .ln (.e 0) []⟩, ⟨[], [(10, false), (13, true)], .bi .sub (.e 14) (.c (.n 1))⟩, ⟨[], [(10, false), (13, true)], .iy (.e 0) (.e 15)⟩, ⟨[], [(10, false), (13, true)], .nop⟩, ⟨[], [(10, false), (13, true)], .bi .eql (.e 16) (.c (.n 0))⟩, ⟨[], [(10, false)], .pk (.e 13) (.e 17) (.c (.b false))⟩, ⟨[], [], .pk (.e 10) (.c (.b true)) (.e 18)⟩] [some 0, none, none, some 19, none, none, none, none, none])
 (.cond 3 ((.seq (.reg [⟨[], [], .cs .v (.b false)⟩] [none, some 9, none, none, none, none, none, none, none])
  (.ret))) (.skip))))
 ((.seq ((.seq (.reg [⟨[], [], .nop⟩, ⟨[], [], .ln (.e 0) []⟩, ⟨[], [], .cs .v (.n 0)⟩] [none, none, none, none, some 0, some 9, some 10, none, none])
 (.block 0 (.loop ((.seq (.reg [⟨[], [], .bi .lss (.e 6) (.e 5)⟩] [none, none, none, none, some 4, some 5, some 6, some 9, none])
   ((.seq (.cond 7 (.skip) (.exit 0))
   ((.seq (.block 1 ((.seq (.reg [⟨[], [], .iy (.e 4) (.e 6)⟩, ⟨[], [], .nop⟩, ⟨[], [], .nop⟩] [none, none, some 9, none, some 4, some 5, some 6, none, none])
    ((.seq (.reg [⟨[], [], .nop⟩, ⟨[], [], .ca 23 [(.e 2), (.c (.n (-1000000000))), (.c (.n 1000000000))] 1⟩, ⟨[], [], .un .not (.e 9)⟩] [none, none, none, none, some 4, some 5, some 6, none, some 10])
    (.cond 8 ((.seq (.reg [⟨[], [], .cs .v (.b false)⟩] [none, some 9, none, none, none, none, none, none, none])
     (.ret))) (.skip)))))))
   (.reg [⟨[], [], .bi .add (.e 6) (.c (.n 1))⟩, ⟨[], [], .nop⟩] [none, none, none, none, some 4, some 5, some 9, none, none])))))))))))
 ((.seq (.reg [⟨[], [], .cs .v (.b true)⟩] [none, some 9, none, none, none, none, none, none, none])
 (.ret))))))))⟩

/-- loop.example/g03401/impl.MultiplyPolynomials -/
def ir_impl_MultiplyPolynomials : IF := ⟨[], 2, 19, [2, 3],
 (.seq (.reg [⟨[], [], .cs (.o .v) (.l [])⟩, ⟨[], [], .cs .v (.b false)⟩] [some 0, some 1, none, none, none, none, none, none, none, none, none, none, none, none, none, none, none, none, none])
 ((.seq ((.seq (.reg [⟨[], [], .nop⟩, ⟨[], [], .ca 460 [(.e 0)] 1⟩, ⟨[], [], .un .not (.e 19)⟩, ⟨[], [], .nop⟩, ⟨[], [(20, false)], .nop⟩, ⟨[], [(20, false)], .ca 460 [(.e 1)] 1⟩, ⟨[], [(20, false)], .un .not (.e 21)⟩, ⟨[], [], .pk (.e 20) (.c (.b true)) (.e 22)⟩, ⟨[], [], .nop⟩, ⟨[], [(23, false)], .nop⟩, ⟨[], [(23, false)], .ln (.e 0) []⟩, ⟨[], [(23, false)], .nop⟩, ⟨[], [(23, false)], .ln (.e 1) []⟩, ⟨[], [(23, false)], .bi .add (.e 24) (.e 25)⟩, ⟨[], [(23, false)], .bi .gtr (.e 26) (.c (.n 62))⟩, ⟨[], [], .pk (.e 23) (.c (.b true)) (.e 27)⟩] [some 0, some 1, none, none, none, none, none, none, none, some 28, none, none, none, none, none, none, none, none, none])
 (.cond 9 ((.seq (.reg [⟨[], [], .li (.o .v) []⟩, ⟨[], [], .nop⟩, ⟨[], [], .cs .v (.b false)⟩] [none, none, some 19, some 20, none, none, none, none, none, none, none, none, none, none, none, none, none, none, none])
  (.ret))) (.skip))))
 ((.seq (.reg [⟨[], [], .nop⟩, ⟨[], [], .ln (.e 0) []⟩, ⟨[], [], .nop⟩, ⟨[], [], .ln (.e 1) []⟩, ⟨[], [], .bi .add (.e 19) (.e 20)⟩, ⟨[], [], .mk (.n 0) (.e 21) (.e 21)⟩, ⟨[], [], .nop⟩] [some 0, some 1, none, none, some 22, none, none, none, none, none, none, none, none, none, none, none, none, none, none])
 ((.seq ((.seq (.reg [⟨[], [], .nop⟩, ⟨[], [], .ln (.e 0) []⟩, ⟨[], [], .cs .v (.n 0)⟩] [none, some 1, none, none, some 4, none, none, none, none, none, some 0, some 19, some 20, none, none, none, none, none, none])
 (.block 0 (.loop ((.seq (.reg [⟨[], [], .bi .lss (.e 12) (.e 11)⟩] [none, some 1, none, none, some 4, none, none, none, none, none, some 10, some 11, some 12, some 19, none, none, none, none, none])
   ((.seq (.cond 13 (.skip) (.exit 0))
   ((.seq (.block 1 ((.seq (.reg [⟨[], [], .nop⟩, ⟨[], [], .iy (.e 10) (.e 12)⟩, ⟨[], [], .nop⟩, ⟨[], [], .nop⟩, ⟨[], [], .nop⟩] [none, some 1, none, none, some 4, some 12, some 19, none, none, none, some 10, some 11, some 12, none, none, none, none, none, none])
    ((.seq (.reg [⟨[], [], .nop⟩, ⟨[], [], .ln (.e 1) []⟩, ⟨[], [], .cs .v (.n 0)⟩] [none, some 1, none, none, some 4, some 5, some 6, none, none, none, some 10, some 11, some 12, none, some 1, some 19, some 20, none, none])
    (.block 2 (.loop ((.seq (.reg [⟨[], [], .bi .lss (.e 16) (.e 15)⟩] [none, some 1, none, none, some 4, some 5, some 6, none, none, none, some 10, some 11, some 12, none, some 14, some 15, some 16, some 19, none])
      ((.seq (.cond 17 (.skip) (.exit 2))
      ((.seq (.block 3 ((.seq (.reg [⟨[], [], .nop⟩, ⟨[], [], .iy (.e 14) (.e 16)⟩, ⟨[], [], .nop⟩, ⟨[], [], .nop⟩, ⟨[], [], .nop⟩] [none, some 1, none, none, some 4, some 5, some 6, some 16, some 19, none, some 10, some 11, some 12, none, some 14, some 15, some 16, none, none])
       (.reg [⟨[], [], .nop⟩, ⟨[], [], .nop⟩, ⟨[], [], .nop⟩, ⟨[], [], .bi .add (.e 5) (.e 7)⟩, ⟨[], [], .nop⟩, ⟨[], [], .nop⟩, ⟨[], [], .nop⟩, ⟨[], [], .bi .add (.e 5) (.e 7)⟩, ⟨[], [], .ix (.e 4) [] (.e 20)⟩, ⟨[], [], .nop⟩, ⟨[], [], .nop⟩, ⟨[], [], .nop⟩, ⟨[], [], .bi .mul (.e 6) (.e 8)⟩, ⟨[], [], .bi .add (.e 21) (.e 22)⟩, ⟨[], [], .ix (.e 4) [] (.e 19)⟩, ⟨[], [], .up 4 [.e 19] (.e 23)⟩] [none, some 1, none, none, some 25, some 5, some 6, none, none, none, some 10, some 11, some 12, none, some 14, some 15, some 16, none, none]))))
      (.reg [⟨[], [], .bi .add (.e 16) (.c (.n 1))⟩, ⟨[], [], .nop⟩] [none, some 1, none, none, some 4, some 5, some 6, none, none, none, some 10, some 11, some 12, none, some 14, some 15, some 19, none, none]))))))))))))))
   (.reg [⟨[], [], .bi .add (.e 12) (.c (.n 1))⟩, ⟨[], [], .nop⟩] [none, some 1, none, none, some 4, none, none, none, none, none, some 10, some 11, some 19, none, none, none, none, none, none])))))))))))
 ((.seq (.reg [⟨[], [], .nop⟩, ⟨[], [], .ca 469 [(.e 4)] 1⟩, ⟨[], [], .nop⟩] [none, none, none, none, some 19, none, none, none, none, none, none, none, none, none, none, none, none, none, none])
 ((.seq ((.seq (.reg [⟨[], [], .nop⟩, ⟨[], [], .ca 428 [(.e 4)] 1⟩, ⟨[], [], .un .not (.e 19)⟩] [none, none, none, none, some 4, none, none, none, none, none, none, none, none, none, none, none, none, none, some 20])
 (.cond 18 ((.seq (.reg [⟨[], [], .li (.o .v) []⟩, ⟨[], [], .nop⟩, ⟨[], [], .cs .v (.b false)⟩] [none, none, some 19, some 20, none, none, none, none, none, none, none, none, none, none, none, none, none, none, none])
  (.ret))) (.skip))))
 ((.seq (.reg [⟨[], [], .nop⟩, ⟨[], [], .nop⟩, ⟨[], [], .cs .v (.b true)⟩] [none, none, some 4, some 19, none, none, none, none, none, none, none, none, none, none, none, none, none, none, none])
 (.ret))))))))))))))⟩

/-- loop.example/g03401/impl.NumberPolynomial -/
def ir_impl_NumberPolynomial : IF := ⟨[], 1, 8, [1, 2],
 (.seq (.reg [⟨[], [], .cs (.o .v) (.l [])⟩, ⟨[], [], .cs .v (.b false)⟩] [some 0, none, none, none, none, none, none, none])
 ((.seq (.reg [⟨[], [], .li (.o .v) []⟩, ⟨[], [], .nop⟩] [some 0, none, none, some 8, none, none, none, none])
 ((.seq ((.seq (.reg [⟨[], [], .nop⟩, ⟨[], [], .ca 23 [(.e 0), (.c (.n 0)), (.c (.n 20))] 1⟩, ⟨[], [], .un .not (.e 8)⟩] [some 0, none, none, some 3, some 9, none, none, none])
 (.cond 4 ((.seq (.reg [⟨[], [], .nop⟩, ⟨[], [], .nop⟩, ⟨[], [], .cs .v (.b false)⟩] [none, some 3, some 8, none, none, none, none, none])
  (.ret))) (.skip))))
 ((.seq ((.seq (.reg [⟨[], [], .nop⟩, ⟨[], [], .cs .v (.n 0)⟩] [none, none, none, some 3, none, some 0, some 8, none])
 (.block 0 (.loop ((.seq (.reg [⟨[], [], .bi .lss (.e 6) (.e 5)⟩] [none, none, none, some 3, none, some 5, some 6, some 8])
   ((.seq (.cond 7 (.skip) (.exit 0))
   ((.seq (.block 1 (.reg [⟨[], [], .nop⟩, ⟨[], [], .li (.o .v) [(.c (.n 1))]⟩, ⟨[], [], .ap false (.e 3) (.e 8)⟩, ⟨[], [], .nop⟩] [none, none, none, some 9, none, some 5, some 6, none]))
   (.reg [⟨[], [], .bi .add (.e 6) (.c (.n 1))⟩, ⟨[], [], .nop⟩] [none, none, none, some 3, none, some 5, some 8, none])))))))))))
 ((.seq (.reg [⟨[], [], .nop⟩, ⟨[], [], .nop⟩, ⟨[], [], .cs .v (.b true)⟩] [none, some 3, some 8, none, none, none, none, none])
 (.ret))))))))))⟩

/-- loop.example/g03401/impl.ValueAt -/
def ir_impl_ValueAt : IF := ⟨[], 2, 9, [2, 3],
 (.seq (.reg [⟨[], [], .cs .v (.n 0)⟩, ⟨[], [], .cs .v (.b false)⟩] [some 0, some 1, none, none, none, none, none, none, none])
 ((.seq ((.seq (.reg [⟨[], [], .nop⟩, ⟨[], [], .ca 428 [(.e 0)] 1⟩, ⟨[], [], .un .not (.e 9)⟩, ⟨[], [], .nop⟩, ⟨[], [(10, false)], .nop⟩, ⟨[], [(10, false)], .ln (.e 0) []⟩, ⟨[], [(10, false)], .bi .gtr (.e 11) (.c (.n 1))⟩, ⟨[], [(10, false)], .cy (.e 12)⟩, ⟨[], [(10, false), (13, true)], .cy (.e 1)⟩, ⟨[], [(10, false), (13, true)], .ca 23 [(.e 14), (.c (.n (-2))), (.c (.n 2))] 1⟩, ⟨[], [(10, false), (13, true)], .un .not (.e 15)⟩, ⟨[], [(10, false)], .pk (.e 13) (.e 16) (.c (.b false))⟩, ⟨[], [], .pk (.e 10) (.c (.b true)) (.e 17)⟩, ⟨[], [], .nop⟩, ⟨[], [(18, false)], .nop⟩, ⟨[], [(18, false)], .ln (.e 0) []⟩, ⟨[], [(18, false)], .bi .gtr (.e 19) (.c (.n 30))⟩, ⟨[], [(18, false)], .cy (.e 20)⟩, ⟨[], [(18, false), (21, true)], .cy (.e 1)⟩, ⟨[], [(18, false), (21, true)], .ca 23 [(.e 22), (.c (.n (-1))), (.c (.n 1))] 1⟩, ⟨[], [(18, false), (21, true)], .un .not (.e 23)⟩, ⟨[], [(18, false)], .pk (.e 21) (.e 24) (.c (.b false))⟩, ⟨[], [], .pk (.e 18) (.c (.b true)) (.e 25)⟩] [some 0, some 1, none, none, none, none, some 26, none, none])
 (.cond 6 ((.seq (.reg [⟨[], [], .cs .v (.n 0)⟩, ⟨[], [], .cs .v (.b false)⟩] [none, none, some 9, some 10, none, none, none, none, none])
  (.ret))) (.skip))))
 ((.seq ((.seq (.reg [⟨[], [], .nop⟩, ⟨[], [], .ln (.e 0) []⟩, ⟨[], [], .bi .eql (.e 9) (.c (.n 0))⟩] [some 0, some 1, none, none, none, none, none, some 10, none])
 (.cond 7 ((.seq (.reg [⟨[], [], .cs .v (.n 0)⟩, ⟨[], [], .cs .v (.b true)⟩] [none, none, some 9, some 10, none, none, none, none, none])
  (.ret))) (.skip))))
 ((.seq (.reg [⟨[], [], .nop⟩, ⟨[], [], .nop⟩, ⟨[], [], .ln (.e 0) []⟩, ⟨[], [], .bi .sub (.e 9) (.c (.n 1))⟩, ⟨[], [], .iy (.e 0) (.e 10)⟩, ⟨[], [], .nop⟩, ⟨[], [], .nop⟩] [some 0, some 1, none, none, some 11, none, none, none, none])
 ((.seq ((.seq (.reg [⟨[], [], .nop⟩, ⟨[], [], .ln (.e 0) []⟩, ⟨[], [], .bi .sub (.e 9) (.c (.n 2))⟩, ⟨[], [], .nop⟩] [some 0, some 1, none, none, some 4, some 10, none, none, none])
 (.block 0 (.loop ((.seq ((.seq (.reg [⟨[], [], .nop⟩, ⟨[], [], .bi .geq (.e 5) (.c (.n 0))⟩] [some 0, some 1, none, none, some 4, some 5, none, none, some 9])
   (.cond 8 (.skip) (.exit 0))))
   ((.seq (.block 1 (.reg [⟨[], [], .nop⟩, ⟨[], [], .nop⟩, ⟨[], [], .bi .mul (.e 4) (.e 1)⟩, ⟨[], [], .nop⟩, ⟨[], [], .nop⟩, ⟨[], [], .iy (.e 0) (.e 5)⟩, ⟨[], [], .nop⟩, ⟨[], [], .bi .add (.e 9) (.e 10)⟩, ⟨[], [], .nop⟩] [some 0, some 1, none, none, some 11, some 5, none, none, none]))
   (.reg [⟨[], [], .nop⟩, ⟨[], [], .bi .sub (.e 5) (.c (.n 1))⟩, ⟨[], [], .nop⟩] [some 0, some 1, none, none, some 4, some 9, none, none, none])))))))))
 ((.seq (.reg [⟨[], [], .nop⟩, ⟨[], [], .nop⟩, ⟨[], [], .cs .v (.b true)⟩] [none, none, some 4, some 9, none, none, none, none, none])
 (.ret))))))))))))⟩

/-- loop.example/g03401/impl.divide -/
def ir_impl_divide : IF := ⟨[], 2, 17, [2, 3, 4],
 (.seq (.reg [⟨[], [], .cs (.o .v) (.l [])⟩, ⟨[], [], .cs (.o .v) (.l [])⟩, ⟨[], [], .cs .v (.b false)⟩] [some 0, some 1, none, none, none, none, none, none, none, none, none, none, none, none, none, none, none])
 ((.seq (.reg [⟨[], [], .nop⟩, ⟨[], [], .ca 75 [(.e 0)] 1⟩, ⟨[], [], .nop⟩] [some 0, some 1, none, none, none, some 17, none, none, none, none, none, none, none, none, none, none, none])
 ((.seq (.reg [⟨[], [], .nop⟩, ⟨[], [], .ln (.e 0) []⟩, ⟨[], [], .nop⟩, ⟨[], [], .ln (.e 1) []⟩, ⟨[], [], .bi .sub (.e 17) (.e 18)⟩, ⟨[], [], .bi .add (.e 19) (.c (.n 1))⟩, ⟨[], [], .mx (.c (.n 0)) (.e 20)⟩, ⟨[], [], .mk (.n 0) (.e 21) (.e 21)⟩, ⟨[], [], .nop⟩] [none, some 1, none, none, none, some 5, some 22, none, none, none, none, none, none, none, none, none, none])
 ((.seq ((.seq (.reg [⟨[], [], .nop⟩, ⟨[], [], .ln (.e 6) []⟩, ⟨[], [], .bi .sub (.e 17) (.c (.n 1))⟩, ⟨[], [], .nop⟩] [none, some 1, none, none, none, some 5, some 6, some 18, none, none, none, none, none, none, none, none, none])
 (.block 0 (.loop ((.seq ((.seq (.reg [⟨[], [], .nop⟩, ⟨[], [], .bi .geq (.e 7) (.c (.n 0))⟩] [none, some 1, none, none, none, some 5, some 6, some 7, none, none, none, some 17, none, none, none, none, none])
   (.cond 11 (.skip) (.exit 0))))
   ((.seq (.block 1 ((.seq (.reg [⟨[], [], .nop⟩, ⟨[], [], .nop⟩, ⟨[], [], .nop⟩, ⟨[], [], .ln (.e 1) []⟩, ⟨[], [], .bi .add (.e 7) (.e 17)⟩, ⟨[], [], .bi .sub (.e 18) (.c (.n 1))⟩, ⟨[], [], .ix (.e 5) [] (.e 19)⟩, ⟨[], [], .nop⟩, ⟨[], [], .nop⟩] [none, some 1, none, none, none, some 5, some 6, some 7, some 20, none, none, none, none, none, none, none, none])
    ((.seq ((.seq (.reg [⟨[], [], .nop⟩, ⟨[], [], .ca 23 [(.e 8), (.c (.n (-1000000000))), (.c (.n 1000000000))] 1⟩, ⟨[], [], .un .not (.e 17)⟩] [none, some 1, none, none, none, some 5, some 6, some 7, some 8, none, none, none, some 18, none, none, none, none])
    (.cond 12 ((.seq (.reg [⟨[], [], .cs (.o .v) (.l [])⟩, ⟨[], [], .cs (.o .v) (.l [])⟩, ⟨[], [], .cs .v (.b false)⟩] [none, none, some 17, some 18, some 19, none, none, none, none, none, none, none, none, none, none, none, none])
     (.ret))) (.skip))))
    ((.seq (.reg [⟨[], [], .nop⟩, ⟨[], [], .nop⟩, ⟨[], [], .nop⟩, ⟨[], [], .ix (.e 6) [] (.e 7)⟩, ⟨[], [], .up 6 [.e 7] (.e 8)⟩] [none, some 1, none, none, none, some 5, some 18, some 7, some 8, none, none, none, none, none, none, none, none])
    ((.seq (.reg [⟨[], [], .nop⟩, ⟨[], [], .ln (.e 1) []⟩, ⟨[], [], .cs .v (.n 0)⟩] [none, some 1, none, none, none, some 5, some 6, some 7, some 8, none, none, none, none, some 1, some 17, some 18, none])
    (.block 2 (.loop ((.seq (.reg [⟨[], [], .bi .lss (.e 15) (.e 14)⟩] [none, some 1, none, none, none, some 5, some 6, some 7, some 8, none, none, none, none, some 13, some 14, some 15, some 17])
      ((.seq (.cond 16 (.skip) (.exit 2))
      ((.seq (.block 3 ((.seq (.reg [⟨[], [], .nop⟩, ⟨[], [], .iy (.e 13) (.e 15)⟩, ⟨[], [], .nop⟩, ⟨[], [], .nop⟩, ⟨[], [], .nop⟩] [none, some 1, none, none, none, some 5, some 6, some 7, some 8, some 15, some 17, none, none, some 13, some 14, some 15, none])
       (.reg [⟨[], [], .nop⟩, ⟨[], [], .nop⟩, ⟨[], [], .nop⟩, ⟨[], [], .bi .add (.e 7) (.e 9)⟩, ⟨[], [], .nop⟩, ⟨[], [], .nop⟩, ⟨[], [], .nop⟩, ⟨[], [], .bi .add (.e 7) (.e 9)⟩, ⟨[], [], .ix (.e 5) [] (.e 18)⟩, ⟨[], [], .nop⟩, ⟨[], [], .nop⟩, ⟨[], [], .nop⟩, ⟨[], [], .bi .mul (.e 8) (.e 10)⟩, ⟨[], [], .bi .sub (.e 19) (.e 20)⟩, ⟨[], [], .ix (.e 5) [] (.e 17)⟩, ⟨[], [], .up 5 [.e 17] (.e 21)⟩] [none, some 1, none, none, none, some 23, some 6, some 7, some 8, none, none, none, none, some 13, some 14, some 15, none]))))
      (.reg [⟨[], [], .bi .add (.e 15) (.c (.n 1))⟩, ⟨[], [], .nop⟩] [none, some 1, none, none, none, some 5, some 6, some 7, some 8, none, none, none, none, some 13, some 14, some 17, none]))))))))))))))))))
   (.reg [⟨[], [], .nop⟩, ⟨[], [], .bi .sub (.e 7) (.c (.n 1))⟩, ⟨[], [], .nop⟩] [none, some 1, none, none, none, some 5, some 6, some 17, none, none, none, none, none, none, none, none, none])))))))))
 ((.seq (.reg [⟨[], [], .nop⟩, ⟨[], [], .ca 469 [(.e 6)] 1⟩, ⟨[], [], .nop⟩, ⟨[], [], .ca 469 [(.e 5)] 1⟩, ⟨[], [], .nop⟩, ⟨[], [], .nop⟩, ⟨[], [], .cs .v (.b true)⟩] [none, none, some 17, some 18, some 19, none, none, none, none, none, none, none, none, none, none, none, none])
 (.ret))))))))))⟩

/-- loop.example/g03401/impl.gauss -/
def ir_impl_gauss : IF := ⟨[], 2, 19, [2],
 (.seq (.reg [⟨[], [], .cs (.o .v) (.l [])⟩] [some 0, some 1, none, none, none, none, none, none, none, none, none, none, none, none, none, none, none, none, none])
 ((.seq ((.seq (.reg [⟨[], [], .nop⟩, ⟨[], [], .bi .eql (.e 1) (.c (.n 0))⟩, ⟨[], [], .nop⟩, ⟨[], [(19, false)], .cy (.e 1)⟩, ⟨[], [(19, false)], .cy (.e 0)⟩, ⟨[], [(19, false)], .bi .eql (.e 20) (.e 21)⟩, ⟨[], [], .pk (.e 19) (.c (.b true)) (.e 22)⟩] [some 0, some 1, none, none, none, none, none, none, none, none, some 23, none, none, none, none, none, none, none, none])
 (.cond 10 ((.seq (.reg [⟨[], [], .li (.o .v) [(.c (.n 1))]⟩, ⟨[], [], .nop⟩] [none, none, some 19, none, none, none, none, none, none, none, none, none, none, none, none, none, none, none, none])
  (.ret))) (.skip))))
 ((.seq (.reg [⟨[], [], .nop⟩, ⟨[], [], .bi .sub (.e 0) (.c (.n 1))⟩, ⟨[], [], .nop⟩, ⟨[], [], .ca 466 [(.e 19), (.e 1)] 1⟩, ⟨[], [], .nop⟩, ⟨[], [], .bi .sub (.e 0) (.c (.n 1))⟩, ⟨[], [], .nop⟩, ⟨[], [], .bi .sub (.e 1) (.c (.n 1))⟩, ⟨[], [], .ca 466 [(.e 21), (.e 22)] 1⟩, ⟨[], [], .nop⟩, ⟨[], [], .nop⟩] [some 0, some 1, none, some 20, some 23, none, none, none, none, none, none, none, none, none, none, none, none, none, none])
 ((.seq (.reg [⟨[], [], .nop⟩, ⟨[], [], .ln (.e 3) []⟩, ⟨[], [], .nop⟩, ⟨[], [], .ln (.e 4) []⟩, ⟨[], [], .nop⟩, ⟨[], [], .bi .add (.e 20) (.e 0)⟩, ⟨[], [], .nop⟩, ⟨[], [], .bi .sub (.e 21) (.e 1)⟩, ⟨[], [], .mx (.e 19) (.e 22)⟩, ⟨[], [], .mk (.n 0) (.e 23) (.e 23)⟩, ⟨[], [], .nop⟩] [some 0, some 1, none, some 3, some 4, some 24, none, none, none, none, none, none, none, none, none, none, none, none, none])
 ((.seq ((.seq (.reg [⟨[], [], .nop⟩, ⟨[], [], .ln (.e 3) []⟩, ⟨[], [], .cs .v (.n 0)⟩] [some 0, some 1, none, none, some 4, some 5, none, none, none, none, none, some 3, some 19, some 20, none, none, none, none, none])
 (.block 0 (.loop ((.seq (.reg [⟨[], [], .bi .lss (.e 13) (.e 12)⟩] [some 0, some 1, none, none, some 4, some 5, none, none, none, none, none, some 11, some 12, some 13, some 19, none, none, none, none])
   ((.seq (.cond 14 (.skip) (.exit 0))
   ((.seq (.block 1 ((.seq (.reg [⟨[], [], .nop⟩, ⟨[], [], .ix (.e 11) [] (.e 13)⟩, ⟨[], [], .nop⟩, ⟨[], [], .nop⟩, ⟨[], [], .nop⟩] [some 0, some 1, none, none, some 4, some 5, some 13, some 19, none, none, none, some 11, some 12, some 13, none, none, none, none, none])
    (.reg [⟨[], [], .nop⟩, ⟨[], [], .nop⟩, ⟨[], [], .nop⟩, ⟨[], [], .ix (.e 5) [] (.e 6)⟩, ⟨[], [], .up 5 [.e 6] (.e 7)⟩] [some 0, some 1, none, none, some 4, some 20, none, none, none, none, none, some 11, some 12, some 13, none, none, none, none, none]))))
   (.reg [⟨[], [], .bi .add (.e 13) (.c (.n 1))⟩, ⟨[], [], .nop⟩] [some 0, some 1, none, none, some 4, some 5, none, none, none, none, none, some 11, some 12, some 19, none, none, none, none, none])))))))))))
 ((.seq ((.seq (.reg [⟨[], [], .nop⟩, ⟨[], [], .ln (.e 4) []⟩, ⟨[], [], .cs .v (.n 0)⟩] [some 0, some 1, none, none, none, some 5, none, none, none, none, none, none, none, none, none, some 4, some 19, some 20, none])
 (.block 2 (.loop ((.seq (.reg [⟨[], [], .bi .lss (.e 17) (.e 16)⟩] [some 0, some 1, none, none, none, some 5, none, none, none, none, none, none, none, none, none, some 15, some 16, some 17, some 19])
   ((.seq (.cond 18 (.skip) (.exit 2))
   ((.seq (.block 3 ((.seq (.reg [⟨[], [], .nop⟩, ⟨[], [], .ix (.e 15) [] (.e 17)⟩, ⟨[], [], .nop⟩, ⟨[], [], .nop⟩, ⟨[], [], .nop⟩] [some 0, some 1, none, none, none, some 5, none, none, some 17, some 19, none, none, none, none, none, some 15, some 16, some 17, none])
    (.reg [⟨[], [], .nop⟩, ⟨[], [], .nop⟩, ⟨[], [], .nop⟩, ⟨[], [], .bi .add (.e 8) (.e 0)⟩, ⟨[], [], .nop⟩, ⟨[], [], .bi .sub (.e 19) (.e 1)⟩, ⟨[], [], .nop⟩, ⟨[], [], .nop⟩, ⟨[], [], .nop⟩, ⟨[], [], .bi .add (.e 8) (.e 0)⟩, ⟨[], [], .nop⟩, ⟨[], [], .bi .sub (.e 21) (.e 1)⟩, ⟨[], [], .ix (.e 5) [] (.e 22)⟩, ⟨[], [], .nop⟩, ⟨[], [], .nop⟩, ⟨[], [], .bi .add (.e 23) (.e 9)⟩, ⟨[], [], .ix (.e 5) [] (.e 20)⟩, ⟨[], [], .up 5 [.e 20] (.e 24)⟩] [some 0, some 1, none, none, none, some 26, none, none, none, none, none, none, none, none, none, some 15, some 16, some 17, none]))))
   (.reg [⟨[], [], .bi .add (.e 17) (.c (.n 1))⟩, ⟨[], [], .nop⟩] [some 0, some 1, none, none, none, some 5, none, none, none, none, none, none, none, none, none, some 15, some 16, some 19, none])))))))))))
 ((.seq (.reg [⟨[], [], .nop⟩, ⟨[], [], .nop⟩] [none, none, some 5, none, none, none, none, none, none, none, none, none, none, none, none, none, none, none, none])
 (.ret))))))))))))))⟩

/-- loop.example/g03401/impl.isFactor -/
def ir_impl_isFactor : IF := ⟨[], 1, 8, [1],
 (.seq (.reg [⟨[], [], .cs .v (.b false)⟩] [some 0, none, none, none, none, none, none, none])
 ((.seq ((.seq (.reg [⟨[], [], .nop⟩, ⟨[], [], .ln (.e 0) []⟩, ⟨[], [], .cs .v (.n 0)⟩] [some 0, none, none, some 0, some 8, some 9, none, none])
 (.block 0 (.loop ((.seq (.reg [⟨[], [], .bi .lss (.e 5) (.e 4)⟩] [some 0, none, none, some 3, some 4, some 5, some 8, none])
   ((.seq (.cond 6 (.skip) (.exit 0))
   ((.seq (.block 1 ((.seq (.reg [⟨[], [], .iy (.e 3) (.e 5)⟩, ⟨[], [], .nop⟩, ⟨[], [], .nop⟩] [some 0, none, some 8, some 3, some 4, some 5, none, none])
    ((.seq (.reg [⟨[], [], .nop⟩, ⟨[], [], .ca 23 [(.e 2), (.c (.n (-100000))), (.c (.n 100000))] 1⟩, ⟨[], [], .un .not (.e 8)⟩] [some 0, none, none, some 3, some 4, some 5, none, some 9])
    (.cond 7 ((.seq (.reg [⟨[], [], .cs .v (.b false)⟩] [none, some 8, none, none, none, none, none, none])
     (.ret))) (.skip)))))))
   (.reg [⟨[], [], .bi .add (.e 5) (.c (.n 1))⟩, ⟨[], [], .nop⟩] [some 0, none, none, some 3, some 4, some 8, none, none])))))))))))
 ((.seq (.reg [⟨[], [], .nop⟩, ⟨[], [], .ca 428 [(.e 0)] 1⟩, ⟨[], [], .nop⟩] [none, some 8, none, none, none, none, none, none])
 (.ret))))))⟩

/-- loop.example/g03401/impl.trimmed -/
def ir_impl_trimmed : IF := ⟨[], 1, 4, [1],
 (.seq (.reg [⟨[], [], .cs (.o .v) (.l [])⟩] [some 0, none, none, none])
 ((.seq (.reg [⟨[], [], .nop⟩, ⟨[], [], .ln (.e 0) []⟩, ⟨[], [], .nop⟩] [some 0, none, some 4, none])
 ((.seq (.block 0 (.loop ((.seq ((.seq (.reg [⟨[], [], .nop⟩, ⟨[], [], .bi .gtr (.e 2) (.c (.n 0))⟩, ⟨[], [], .nop⟩, ⟨[], [(4, true)], .nop⟩, ⟨[], [(4, true)], .cy (.e 2)⟩, ⟨[], [(4, true)], .bi .sub (.e 5) (.c (.n 1))⟩, ⟨[], [(4, true)], .ix (.e 0) [] (.e 6)⟩, ⟨[], [(4, true)], .nop⟩, ⟨[], [(4, true)], .bi .eql (.e 7) (.c (.n 0))⟩, ⟨[], [], .pk (.e 4) (.e 8) (.c (.b false))⟩] [some 0, none, some 2, some 9])
   (.cond 3 (.skip) (.exit 0))))
   (.block 1 (.reg [⟨[], [], .nop⟩, ⟨[], [], .bi .sub (.e 2) (.c (.n 1))⟩, ⟨[], [], .nop⟩] [some 0, none, some 4, none]))))))
 ((.seq (.reg [⟨[], [], .nop⟩, ⟨[], [], .nop⟩, ⟨[], [], .sb true (.e 0) none (some (.e 2))⟩, ⟨[], [], .nop⟩] [none, some 4, none, none])
 (.ret))))))))⟩

end Go.Cat

namespace Go.Cat
/-- loop.example/g03401/impl.CountWords -/
def ir_impl_CountWords : IF := ⟨[], 2, 4, [2],
 (.seq (.reg [⟨[], [], .cs .v (.n 0)⟩] [some 0, some 1, none, none])
 ((.seq ((.seq (.reg [⟨[], [], .nop⟩, ⟨[], [], .ca 23 [(.e 0), (.c (.n 0)), (.c (.n 15))] 1⟩, ⟨[], [], .un .not (.e 4)⟩, ⟨[], [], .nop⟩, ⟨[], [(5, false)], .cy (.e 1)⟩, ⟨[], [(5, false)], .ca 23 [(.e 6), (.c (.n 0)), (.c (.n 15))] 1⟩, ⟨[], [(5, false)], .un .not (.e 7)⟩, ⟨[], [], .pk (.e 5) (.c (.b true)) (.e 8)⟩] [some 0, some 1, none, some 9])
 (.cond 3 ((.seq (.reg [⟨[], [], .cs .v (.n (-1))⟩] [none, none, some 4, none])
  (.ret))) (.skip))))
 ((.seq (.reg [⟨[], [], .nop⟩, ⟨[], [], .nop⟩, ⟨[], [], .bi .add (.e 0) (.e 1)⟩, ⟨[], [], .nop⟩, ⟨[], [], .ca 25 [(.e 4), (.e 0)] 1⟩, ⟨[], [], .nop⟩] [none, none, some 5, none])
 (.ret))))))⟩

end Go.Cat

namespace Go.Cat
/-- loop.example/g03401/laws.FnPolynomials -/
def ir_laws_FnPolynomials : IF := ⟨[], 1, 69, [1],
 (.seq (.reg [⟨[], [], .cs .v (.b false)⟩] [some 0, none, none, none, none, none, none, none, none, none, none, none, none, none, none, none, none, none, none, none, none, none, none, none, none, none, none, none, none, none, none, none, none, none, none, none, none, none, none, none, none, none, none, none, none, none, none, none, none, none, none, none, none, none, none, none, none, none, none, none, none, none, none, none, none, none, none, none, none])
 ((.seq ((.seq (.reg [⟨[], [], .nop⟩, ⟨[], [], .ca 220 [(.e 0)] 1⟩] [some 0, none, none, none, none, none, none, none, none, none, none, none, none, none, none, none, none, none, none, none, none, none, none, none, none, none, none, none, none, none, none, none, none, none, none, none, none, none, none, none, none, none, none, none, none, none, none, none, none, none, none, none, none, none, none, none, none, none, none, none, none, some 69, none, none, none, none, none, none, none])
 (.cond 61 ((.seq (.reg [⟨[], [], .cs .v (.b true)⟩] [none, some 69, none, none, none, none, none, none, none, none, none, none, none, none, none, none, none, none, none, none, none, none, none, none, none, none, none, none, none, none, none, none, none, none, none, none, none, none, none, none, none, none, none, none, none, none, none, none, none, none, none, none, none, none, none, none, none, none, none, none, none, none, none, none, none, none, none, none, none])
  (.ret))) (.skip))))
 ((.seq (.reg [⟨[], [], .nop⟩, ⟨[], [], .ca 402 [(.e 0)] 2⟩, ⟨[], [], .nop⟩, ⟨[], [], .nop⟩, ⟨[], [], .nop⟩, ⟨[], [], .nop⟩, ⟨[], [], .nop⟩] [some 0, none, some 69, some 70, none, none, none, none, none, none, none, none, none, none, none, none, none, none, none, none, none, none, none, none, none, none, none, none, none, none, none, none, none, none, none, none, none, none, none, none, none, none, none, none, none, none, none, none, none, none, none, none, none, none, none, none, none, none, none, none, none, none, none, none, none, none, none, none, none])
 ((.seq (.reg [⟨[], [], .nop⟩, ⟨[], [], .nop⟩, ⟨[], [], .ca 403 [(.e 2), (.e 3)] 3⟩, ⟨[], [], .nop⟩, ⟨[], [], .nop⟩, ⟨[], [], .nop⟩, ⟨[], [], .nop⟩, ⟨[], [], .nop⟩, ⟨[], [], .nop⟩, ⟨[], [], .nop⟩] [some 0, none, some 2, some 3, some 69, some 70, some 71, none, none, none, none, none, none, none, none, none, none, none, none, none, none, none, none, none, none, none, none, none, none, none, none, none, none, none, none, none, none, none, none, none, none, none, none, none, none, none, none, none, none, none, none, none, none, none, none, none, none, none, none, none, none, none, none, none, none, none, none, none, none])
 ((.seq (.reg [⟨[], [], .nop⟩, ⟨[], [], .nop⟩, ⟨[], [], .ca 404 [(.e 2), (.e 3)] 3⟩, ⟨[], [], .nop⟩, ⟨[], [], .nop⟩, ⟨[], [], .nop⟩, ⟨[], [], .nop⟩, ⟨[], [], .nop⟩, ⟨[], [], .nop⟩, ⟨[], [], .nop⟩] [some 0, none, some 2, some 3, some 4, some 5, some 6, some 69, some 70, some 71, none, none, none, none, none, none, none, none, none, none, none, none, none, none, none, none, none, none, none, none, none, none, none, none, none, none, none, none, none, none, none, none, none, none, none, none, none, none, none, none, none, none, none, none, none, none, none, none, none, none, none, none, none, none, none, none, none, none, none])
 ((.seq ((.seq (.reg [⟨[], [], .nop⟩, ⟨[], [], .nop⟩, ⟨[], [], .bb .neq (.e 6) (.e 9)⟩, ⟨[], [], .nop⟩, ⟨[], [(69, false)], .cy (.e 4)⟩, ⟨[], [(69, false)], .cy (.e 7)⟩, ⟨[], [(69, false)], .ca 239 [(.e 70), (.e 71)] 1⟩, ⟨[], [(69, false)], .un .not (.e 72)⟩, ⟨[], [], .pk (.e 69) (.c (.b true)) (.e 73)⟩, ⟨[], [], .nop⟩, ⟨[], [(74, false)], .cy (.e 5)⟩, ⟨[], [(74, false)], .cy (.e 8)⟩, ⟨[], [(74, false)], .ca 239 [(.e 75), (.e 76)] 1⟩, ⟨[], [(74, false)], .un .not (.e 77)⟩, ⟨[], [], .pk (.e 74) (.c (.b true)) (.e 78)⟩] [some 0, none, some 2, some 3, none, none, some 6, some 7, some 8, none, none, none, none, none, none, none, none, none, none, none, none, none, none, none, none, none, none, none, none, none, none, none, none, none, none, none, none, none, none, none, none, none, none, none, none, none, none, none, none, none, none, none, none, none, none, none, none, none, none, none, none, none, some 79, none, none, none, none, none, none])
 (.cond 62 ((.seq (.reg [⟨[], [], .cs .v (.b false)⟩] [none, some 69, none, none, none, none, none, none, none, none, none, none, none, none, none, none, none, none, none, none, none, none, none, none, none, none, none, none, none, none, none, none, none, none, none, none, none, none, none, none, none, none, none, none, none, none, none, none, none, none, none, none, none, none, none, none, none, none, none, none, none, none, none, none, none, none, none, none, none])
  (.ret))) (.skip))))
 ((.seq ((.seq (.reg [⟨[], [], .nop⟩] [some 0, none, some 2, some 3, none, none, none, some 7, some 8, none, none, none, none, none, none, none, none, none, none, none, none, none, none, none, none, none, none, none, none, none, none, none, none, none, none, none, none, none, none, none, none, none, none, none, none, none, none, none, none, none, none, none, none, none, none, none, none, none, none, none, none, none, none, some 6, none, none, none, none, none])
 (.cond 63 ((.seq (.reg [⟨[], [], .nop⟩, ⟨[], [], .nop⟩, ⟨[], [], .ca 405 [(.e 7), (.e 3)] 2⟩, ⟨[], [], .nop⟩, ⟨[], [], .nop⟩, ⟨[], [], .nop⟩, ⟨[], [], .nop⟩, ⟨[], [], .nop⟩] [some 0, none, some 2, some 3, none, none, none, none, some 8, none, some 69, some 70, none, none, none, none, none, none, none, none, none, none, none, none, none, none, none, none, none, none, none, none, none, none, none, none, none, none, none, none, none, none, none, none, none, none, none, none, none, none, none, none, none, none, none, none, none, none, none, none, none, none, none, none, none, none, none, none, none])
  ((.seq (.reg [⟨[], [], .nop⟩, ⟨[], [], .nop⟩, ⟨[], [], .ca 406 [(.e 10), (.e 8)] 2⟩, ⟨[], [], .nop⟩, ⟨[], [], .nop⟩, ⟨[], [], .nop⟩, ⟨[], [], .nop⟩, ⟨[], [], .nop⟩] [some 0, none, some 2, some 3, none, none, none, none, some 8, none, none, some 11, some 69, some 70, none, none, none, none, none, none, none, none, none, none, none, none, none, none, none, none, none, none, none, none, none, none, none, none, none, none, none, none, none, none, none, none, none, none, none, none, none, none, none, none, none, none, none, none, none, none, none, none, none, none, none, none, none, none, none])
  ((.seq (.reg [⟨[], [], .nop⟩, ⟨[], [], .nop⟩, ⟨[], [(11, true)], .cy (.e 13)⟩, ⟨[], [], .pk (.e 11) (.e 69) (.c (.b false))⟩, ⟨[], [], .nop⟩, ⟨[], [(70, true)], .cy (.e 12)⟩, ⟨[], [(70, true)], .cy (.e 2)⟩, ⟨[], [(70, true)], .ca 239 [(.e 71), (.e 72)] 1⟩, ⟨[], [(70, true)], .un .not (.e 73)⟩, ⟨[], [], .pk (.e 70) (.e 74) (.c (.b false))⟩, ⟨[], [], .nop⟩, ⟨[], [(75, false)], .cy (.e 8)⟩, ⟨[], [(75, false)], .ln (.e 76) []⟩, ⟨[], [(75, false)], .cy (.e 3)⟩, ⟨[], [(75, false)], .ln (.e 78) []⟩, ⟨[], [(75, false)], .bi .geq (.e 77) (.e 79)⟩, ⟨[], [], .pk (.e 75) (.c (.b true)) (.e 80)⟩] [some 0, none, none, none, none, none, none, none, none, none, none, none, none, none, none, none, none, none, none, none, none, none, none, none, none, none, none, none, none, none, none, none, none, none, none, none, none, none, none, none, none, none, none, none, none, none, none, none, none, none, none, none, none, none, none, none, none, none, none, none, none, none, none, none, some 81, none, none, none, none])
  (.cond 64 ((.seq (.reg [⟨[], [], .cs .v (.b false)⟩] [none, some 69, none, none, none, none, none, none, none, none, none, none, none, none, none, none, none, none, none, none, none, none, none, none, none, none, none, none, none, none, none, none, none, none, none, none, none, none, none, none, none, none, none, none, none, none, none, none, none, none, none, none, none, none, none, none, none, none, none, none, none, none, none, none, none, none, none, none, none])
   (.ret))) (.skip)))))))) (.skip))))
 ((.seq (.reg [⟨[], [], .nop⟩, ⟨[], [], .ca 407 [(.e 0), (.c (.n 1))] 1⟩, ⟨[], [], .bi .rem (.e 69) (.c (.n 7))⟩, ⟨[], [], .nop⟩] [some 0, none, none, none, none, none, none, none, none, none, none, none, none, none, some 70, none, none, none, none, none, none, none, none, none, none, none, none, none, none, none, none, none, none, none, none, none, none, none, none, none, none, none, none, none, none, none, none, none, none, none, none, none, none, none, none, none, none, none, none, none, none, none, none, none, none, none, none, none, none])
 ((.seq (.reg [⟨[], [], .nop⟩, ⟨[], [], .ca 408 [(.e 14)] 2⟩, ⟨[], [], .nop⟩, ⟨[], [], .nop⟩, ⟨[], [], .nop⟩, ⟨[], [], .nop⟩, ⟨[], [], .nop⟩] [some 0, none, none, none, none, none, none, none, none, none, none, none, none, none, some 14, some 69, none, none, none, none, none, none, none, none, none, none, none, none, none, none, none, none, none, none, none, none, none, none, none, none, none, none, none, none, none, none, none, none, none, none, none, none, none, none, none, none, none, none, none, none, none, none, none, none, none, none, none, none, none])
 ((.seq (.reg [⟨[], [], .nop⟩, ⟨[], [], .ca 409 [(.e 14)] 2⟩, ⟨[], [], .nop⟩, ⟨[], [], .nop⟩, ⟨[], [], .nop⟩, ⟨[], [], .nop⟩, ⟨[], [], .nop⟩] [some 0, none, none, none, none, none, none, none, none, none, none, none, none, none, some 14, some 15, some 69, none, none, none, none, none, none, none, none, none, none, none, none, none, none, none, none, none, none, none, none, none, none, none, none, none, none, none, none, none, none, none, none, none, none, none, none, none, none, none, none, none, none, none, none, none, none, none, none, none, none, none, none])
 ((.seq (.reg [⟨[], [], .nop⟩, ⟨[], [], .ca 410 [(.c (.s [109, 97, 106, 111, 114])), (.e 14)] 2⟩, ⟨[], [], .nop⟩, ⟨[], [], .nop⟩, ⟨[], [], .nop⟩, ⟨[], [], .nop⟩, ⟨[], [], .nop⟩] [some 0, none, none, none, none, none, none, none, none, none, none, none, none, none, some 14, some 15, some 16, some 69, none, none, none, none, none, none, none, none, none, none, none, none, none, none, none, none, none, none, none, none, none, none, none, none, none, none, none, none, none, none, none, none, none, none, none, none, none, none, none, none, none, none, none, none, none, none, none, none, none, none, none])
 ((.seq (.reg [⟨[], [], .nop⟩, ⟨[], [], .ca 410 [(.c (.s [97, 114, 101, 97])), (.e 14)] 2⟩, ⟨[], [], .nop⟩, ⟨[], [], .nop⟩, ⟨[], [], .nop⟩, ⟨[], [], .nop⟩, ⟨[], [], .nop⟩] [some 0, none, none, none, none, none, none, none, none, none, none, none, none, none, none, some 15, some 16, some 17, some 69, none, none, none, none, none, none, none, none, none, none, none, none, none, none, none, none, none, none, none, none, none, none, none, none, none, none, none, none, none, none, none, none, none, none, none, none, none, none, none, none, none, none, none, none, none, none, none, none, none, none])
 ((.seq ((.seq (.reg [⟨[], [], .nop⟩, ⟨[], [], .nop⟩, ⟨[], [], .ca 239 [(.e 15), (.e 17)] 1⟩, ⟨[], [], .un .not (.e 69)⟩, ⟨[], [], .nop⟩, ⟨[], [(70, false)], .cy (.e 16)⟩, ⟨[], [(70, false)], .cy (.e 18)⟩, ⟨[], [(70, false)], .ca 239 [(.e 71), (.e 72)] 1⟩, ⟨[], [(70, false)], .un .not (.e 73)⟩, ⟨[], [], .pk (.e 70) (.c (.b true)) (.e 74)⟩] [some 0, none, none, none, none, none, none, none, none, none, none, none, none, none, none, none, none, none, none, none, none, none, none, none, none, none, none, none, none, none, none, none, none, none, none, none, none, none, none, none, none, none, none, none, none, none, none, none, none, none, none, none, none, none, none, none, none, none, none, none, none, none, none, none, none, some 75, none, none, none])
 (.cond 65 ((.seq (.reg [⟨[], [], .cs .v (.b false)⟩] [none, some 69, none, none, none, none, none, none, none, none, none, none, none, none, none, none, none, none, none, none, none, none, none, none, none, none, none, none, none, none, none, none, none, none, none, none, none, none, none, none, none, none, none, none, none, none, none, none, none, none, none, none, none, none, none, none, none, none, none, none, none, none, none, none, none, none, none, none, none])
  (.ret))) (.skip))))
 ((.seq (.reg [⟨[], [], .nop⟩, ⟨[], [], .ca 411 [(.e 0)] 2⟩, ⟨[], [], .nop⟩, ⟨[], [], .nop⟩, ⟨[], [], .nop⟩, ⟨[], [], .nop⟩, ⟨[], [], .nop⟩] [some 0, none, none, none, none, none, none, none, none, none, none, none, none, none, none, none, none, none, none, some 69, some 70, none, none, none, none, none, none, none, none, none, none, none, none, none, none, none, none, none, none, none, none, none, none, none, none, none, none, none, none, none, none, none, none, none, none, none, none, none, none, none, none, none, none, none, none, none, none, none, none])
 ((.seq (.reg [⟨[], [], .nop⟩, ⟨[], [], .nop⟩, ⟨[], [], .ca 412 [(.e 19), (.e 20)] 2⟩, ⟨[], [], .nop⟩, ⟨[], [], .nop⟩, ⟨[], [], .nop⟩, ⟨[], [], .nop⟩, ⟨[], [], .nop⟩] [some 0, none, none, none, none, none, none, none, none, none, none, none, none, none, none, none, none, none, none, some 19, some 20, some 69, some 70, none, none, none, none, none, none, none, none, none, none, none, none, none, none, none, none, none, none, none, none, none, none, none, none, none, none, none, none, none, none, none, none, none, none, none, none, none, none, none, none, none, none, none, none, none, none])
 ((.seq (.reg [⟨[], [], .nop⟩, ⟨[], [], .nop⟩, ⟨[], [], .ca 413 [(.e 19), (.e 20)] 2⟩, ⟨[], [], .nop⟩, ⟨[], [], .nop⟩, ⟨[], [], .nop⟩, ⟨[], [], .nop⟩, ⟨[], [], .nop⟩] [some 0, none, none, none, none, none, none, none, none, none, none, none, none, none, none, none, none, none, none, some 19, some 20, some 21, some 22, some 69, some 70, none, none, none, none, none, none, none, none, none, none, none, none, none, none, none, none, none, none, none, none, none, none, none, none, none, none, none, none, none, none, none, none, none, none, none, none, none, none, none, none, none, none, none, none])
 ((.seq ((.seq (.reg [⟨[], [], .nop⟩, ⟨[], [], .nop⟩, ⟨[], [], .bb .neq (.e 22) (.e 24)⟩, ⟨[], [], .nop⟩, ⟨[], [(69, false)], .cy (.e 21)⟩, ⟨[], [(69, false)], .cy (.e 23)⟩, ⟨[], [(69, false)], .ca 239 [(.e 70), (.e 71)] 1⟩, ⟨[], [(69, false)], .un .not (.e 72)⟩, ⟨[], [], .pk (.e 69) (.c (.b true)) (.e 73)⟩] [some 0, none, none, none, none, none, none, none, none, none, none, none, none, none, none, none, none, none, none, some 19, some 20, none, some 22, some 23, none, none, none, none, none, none, none, none, none, none, none, none, none, none, none, none, none, none, none, none, none, none, none, none, none, none, none, none, none, none, none, none, none, none, none, none, none, none, none, none, none, none, some 74, none, none])
 (.cond 66 ((.seq (.reg [⟨[], [], .cs .v (.b false)⟩] [none, some 69, none, none, none, none, none, none, none, none, none, none, none, none, none, none, none, none, none, none, none, none, none, none, none, none, none, none, none, none, none, none, none, none, none, none, none, none, none, none, none, none, none, none, none, none, none, none, none, none, none, none, none, none, none, none, none, none, none, none, none, none, none, none, none, none, none, none, none])
  (.ret))) (.skip))))
 ((.seq ((.seq (.reg [⟨[], [], .nop⟩] [some 0, none, none, none, none, none, none, none, none, none, none, none, none, none, none, none, none, none, none, some 19, some 20, none, none, some 23, none, none, none, none, none, none, none, none, none, none, none, none, none, none, none, none, none, none, none, none, none, none, none, none, none, none, none, none, none, none, none, none, none, none, none, none, none, none, none, none, none, none, none, some 22, none])
 (.cond 67 ((.seq (.reg [⟨[], [], .nop⟩, ⟨[], [], .nop⟩, ⟨[], [], .nop⟩, ⟨[], [], .bi .sub (.e 19) (.e 20)⟩, ⟨[], [], .ca 412 [(.e 19), (.e 69)] 2⟩, ⟨[], [], .nop⟩, ⟨[], [], .nop⟩, ⟨[], [], .nop⟩, ⟨[], [], .nop⟩, ⟨[], [], .nop⟩] [some 0, none, none, none, none, none, none, none, none, none, none, none, none, none, none, none, none, none, none, some 19, some 20, none, none, some 23, none, some 70, none, none, none, none, none, none, none, none, none, none, none, none, none, none, none, none, none, none, none, none, none, none, none, none, none, none, none, none, none, none, none, none, none, none, none, none, none, none, none, none, none, none, none])
  ((.seq (.reg [⟨[], [], .nop⟩, ⟨[], [], .ca 414 [(.e 23), (.c (.n 1))] 2⟩, ⟨[], [], .nop⟩, ⟨[], [], .nop⟩, ⟨[], [], .nop⟩, ⟨[], [], .nop⟩, ⟨[], [], .nop⟩] [some 0, none, none, none, none, none, none, none, none, none, none, none, none, none, none, none, none, none, none, some 19, some 20, none, none, some 23, none, some 25, some 69, some 70, none, none, none, none, none, none, none, none, none, none, none, none, none, none, none, none, none, none, none, none, none, none, none, none, none, none, none, none, none, none, none, none, none, none, none, none, none, none, none, none, none])
  ((.seq (.reg [⟨[], [], .nop⟩, ⟨[], [], .nop⟩, ⟨[], [], .ca 239 [(.e 25), (.e 23)] 1⟩, ⟨[], [], .un .not (.e 69)⟩, ⟨[], [], .nop⟩, ⟨[], [(70, false)], .cy (.e 27)⟩, ⟨[], [(70, false)], .un .not (.e 71)⟩, ⟨[], [], .pk (.e 70) (.c (.b true)) (.e 72)⟩, ⟨[], [], .nop⟩, ⟨[], [(73, false)], .cy (.e 26)⟩, ⟨[], [(73, false)], .cy (.e 20)⟩, ⟨[], [(73, false)], .cy (.e 19)⟩, ⟨[], [(73, false)], .cy (.e 20)⟩, ⟨[], [(73, false)], .bi .sub (.e 76) (.e 77)⟩, ⟨[], [(73, false)], .ca 10 [(.e 75), (.e 78)] 1⟩, ⟨[], [(73, false)], .bi .neq (.e 74) (.e 79)⟩, ⟨[], [], .pk (.e 73) (.c (.b true)) (.e 80)⟩] [some 0, none, none, none, none, none, none, none, none, none, none, none, none, none, none, none, none, none, none, none, none, none, none, none, none, none, none, none, none, none, none, none, none, none, none, none, none, none, none, none, none, none, none, none, none, none, none, none, none, none, none, none, none, none, none, none, none, none, none, none, none, none, none, none, none, none, none, none, some 81])
  (.cond 68 ((.seq (.reg [⟨[], [], .cs .v (.b false)⟩] [none, some 69, none, none, none, none, none, none, none, none, none, none, none, none, none, none, none, none, none, none, none, none, none, none, none, none, none, none, none, none, none, none, none, none, none, none, none, none, none, none, none, none, none, none, none, none, none, none, none, none, none, none, none, none, none, none, none, none, none, none, none, none, none, none, none, none, none, none, none])
   (.ret))) (.skip)))))))) (.skip))))
 ((.seq (.reg [⟨[], [], .nop⟩, ⟨[], [], .ca 415 [(.e 0)] 2⟩, ⟨[], [], .nop⟩, ⟨[], [], .nop⟩, ⟨[], [], .nop⟩, ⟨[], [], .nop⟩, ⟨[], [], .nop⟩] [some 0, none, none, none, none, none, none, none, none, none, none, none, none, none, none, none, none, none, none, none, none, none, none, none, none, none, none, none, some 69, some 70, none, none, none, none, none, none, none, none, none, none, none, none, none, none, none, none, none, none, none, none, none, none, none, none, none, none, none, none, none, none, none, none, none, none, none, none, none, none, none])
 ((.seq (.reg [⟨[], [], .nop⟩, ⟨[], [], .nop⟩, ⟨[], [], .ca 416 [(.e 28), (.e 29)] 2⟩, ⟨[], [], .nop⟩, ⟨[], [], .nop⟩, ⟨[], [], .nop⟩, ⟨[], [], .nop⟩, ⟨[], [], .nop⟩] [some 0, none, none, none, none, none, none, none, none, none, none, none, none, none, none, none, none, none, none, none, none, none, none, none, none, none, none, none, some 28, some 29, some 69, some 70, none, none, none, none, none, none, none, none, none, none, none, none, none, none, none, none, none, none, none, none, none, none, none, none, none, none, none, none, none, none, none, none, none, none, none, none, none])
 ((.seq (.reg [⟨[], [], .nop⟩, ⟨[], [], .nop⟩, ⟨[], [], .ca 405 [(.e 28), (.e 29)] 2⟩, ⟨[], [], .nop⟩, ⟨[], [], .nop⟩, ⟨[], [], .nop⟩, ⟨[], [], .nop⟩, ⟨[], [], .nop⟩] [some 0, none, none, none, none, none, none, none, none, none, none, none, none, none, none, none, none, none, none, none, none, none, none, none, none, none, none, none, none, none, some 30, some 31, some 69, some 70, none, none, none, none, none, none, none, none, none, none, none, none, none, none, none, none, none, none, none, none, none, none, none, none, none, none, none, none, none, none, none, none, none, none, none])
 ((.seq (.reg [⟨[], [], .nop⟩, ⟨[], [], .ca 417 [(.e 0)] 2⟩, ⟨[], [], .nop⟩, ⟨[], [], .nop⟩, ⟨[], [], .nop⟩, ⟨[], [], .nop⟩, ⟨[], [], .nop⟩] [some 0, none, none, none, none, none, none, none, none, none, none, none, none, none, none, none, none, none, none, none, none, none, none, none, none, none, none, none, none, none, some 30, some 31, some 32, some 33, some 69, some 70, none, none, none, none, none, none, none, none, none, none, none, none, none, none, none, none, none, none, none, none, none, none, none, none, none, none, none, none, none, none, none, none, none])
 ((.seq (.reg [⟨[], [], .nop⟩, ⟨[], [], .nop⟩, ⟨[], [], .ca 418 [(.e 34), (.e 35)] 2⟩, ⟨[], [], .nop⟩, ⟨[], [], .nop⟩, ⟨[], [], .nop⟩, ⟨[], [], .nop⟩, ⟨[], [], .nop⟩] [some 0, none, none, none, none, none, none, none, none, none, none, none, none, none, none, none, none, none, none, none, none, none, none, none, none, none, none, none, none, none, some 30, some 31, some 32, some 33, some 34, some 35, some 69, some 70, none, none, none, none, none, none, none, none, none, none, none, none, none, none, none, none, none, none, none, none, none, none, none, none, none, none, none, none, none, none, none])
 ((.seq (.reg [⟨[], [], .nop⟩, ⟨[], [], .nop⟩, ⟨[], [], .ca 406 [(.e 34), (.e 35)] 2⟩, ⟨[], [], .nop⟩, ⟨[], [], .nop⟩, ⟨[], [], .nop⟩, ⟨[], [], .nop⟩, ⟨[], [], .nop⟩] [some 0, none, none, none, none, none, none, none, none, none, none, none, none, none, none, none, none, none, none, none, none, none, none, none, none, none, none, none, none, none, some 30, some 31, some 32, some 33, none, none, some 36, some 37, some 69, some 70, none, none, none, none, none, none, none, none, none, none, none, none, none, none, none, none, none, none, none, none, none, none, none, none, none, none, none, none, none])
 ((.seq (.reg [⟨[], [], .nop⟩, ⟨[], [], .ca 419 [(.e 0)] 2⟩, ⟨[], [], .nop⟩, ⟨[], [], .nop⟩, ⟨[], [], .nop⟩, ⟨[], [], .nop⟩, ⟨[], [], .nop⟩] [some 0, none, none, none, none, none, none, none, none, none, none, none, none, none, none, none, none, none, none, none, none, none, none, none, none, none, none, none, none, none, some 30, some 31, some 32, some 33, none, none, some 36, some 37, some 38, some 39, some 69, some 70, none, none, none, none, none, none, none, none, none, none, none, none, none, none, none, none, none, none, none, none, none, none, none, none, none, none, none])
 ((.seq (.reg [⟨[], [], .nop⟩, ⟨[], [], .nop⟩, ⟨[], [], .ca 414 [(.e 40), (.e 41)] 2⟩, ⟨[], [], .nop⟩, ⟨[], [], .nop⟩, ⟨[], [], .nop⟩, ⟨[], [], .nop⟩, ⟨[], [], .nop⟩] [some 0, none, none, none, none, none, none, none, none, none, none, none, none, none, none, none, none, none, none, none, none, none, none, none, none, none, none, none, none, none, some 30, some 31, some 32, some 33, none, none, some 36, some 37, some 38, some 39, some 40, some 41, some 69, some 70, none, none, none, none, none, none, none, none, none, none, none, none, none, none, none, none, none, none, none, none, none, none, none, none, none])
 ((.seq (.reg [⟨[], [], .nop⟩, ⟨[], [], .nop⟩, ⟨[], [], .ca 420 [(.e 40), (.e 41)] 2⟩, ⟨[], [], .nop⟩, ⟨[], [], .nop⟩, ⟨[], [], .nop⟩, ⟨[], [], .nop⟩, ⟨[], [], .nop⟩] [some 0, none, none, none, none, none, none, none, none, none, none, none, none, none, none, none, none, none, none, none, none, none, none, none, none, none, none, none, none, none, some 30, some 31, some 32, some 33, none, none, some 36, some 37, some 38, some 39, some 40, none, some 42, some 43, some 69, some 70, none, none, none, none, none, none, none, none, none, none, none, none, none, none, none, none, none, none, none, none, none, none, none])
 ((.seq (.reg [⟨[], [], .nop⟩, ⟨[], [], .ca 421 [(.e 0)] 1⟩, ⟨[], [], .nop⟩] [some 0, none, none, none, none, none, none, none, none, none, none, none, none, none, none, none, none, none, none, none, none, none, none, none, none, none, none, none, none, none, some 30, some 31, some 32, some 33, none, none, some 36, some 37, some 38, some 39, some 40, none, some 42, some 43, some 44, some 45, some 69, none, none, none, none, none, none, none, none, none, none, none, none, none, none, none, none, none, none, none, none, none, none])
 ((.seq (.reg [⟨[], [], .nop⟩, ⟨[], [], .ca 422 [(.e 46)] 2⟩, ⟨[], [], .nop⟩, ⟨[], [], .nop⟩, ⟨[], [], .nop⟩, ⟨[], [], .nop⟩, ⟨[], [], .nop⟩] [some 0, none, none, none, none, none, none, none, none, none, none, none, none, none, none, none, none, none, none, none, none, none, none, none, none, none, none, none, none, none, some 30, some 31, some 32, some 33, none, none, some 36, some 37, some 38, some 39, some 40, none, some 42, some 43, some 44, some 45, some 46, some 69, some 70, none, none, none, none, none, none, none, none, none, none, none, none, none, none, none, none, none, none, none, none])
 ((.seq (.reg [⟨[], [], .nop⟩, ⟨[], [], .ca 423 [(.e 46)] 2⟩, ⟨[], [], .nop⟩, ⟨[], [], .nop⟩, ⟨[], [], .nop⟩, ⟨[], [], .nop⟩, ⟨[], [], .nop⟩] [some 0, none, none, none, none, none, none, none, none, none, none, none, none, none, none, none, none, none, none, none, none, none, none, none, none, none, none, none, none, none, some 30, some 31, some 32, some 33, none, none, some 36, some 37, some 38, some 39, some 40, none, some 42, some 43, some 44, some 45, none, some 47, some 48, some 69, some 70, none, none, none, none, none, none, none, none, none, none, none, none, none, none, none, none, none, none])
 ((.seq (.reg [⟨[], [], .nop⟩, ⟨[], [], .ca 424 [(.e 0)] 1⟩, ⟨[], [], .nop⟩] [some 0, none, none, none, none, none, none, none, none, none, none, none, none, none, none, none, none, none, none, none, none, none, none, none, none, none, none, none, none, none, some 30, some 31, some 32, some 33, none, none, some 36, some 37, some 38, some 39, some 40, none, some 42, some 43, some 44, some 45, none, some 47, some 48, some 49, some 50, some 69, none, none, none, none, none, none, none, none, none, none, none, none, none, none, none, none, none])
 ((.seq (.reg [⟨[], [], .nop⟩, ⟨[], [], .ca 408 [(.e 51)] 2⟩, ⟨[], [], .nop⟩, ⟨[], [], .nop⟩, ⟨[], [], .nop⟩, ⟨[], [], .nop⟩, ⟨[], [], .nop⟩] [some 0, none, none, none, none, none, none, none, none, none, none, none, none, none, none, none, none, none, none, none, none, none, none, none, none, none, none, none, none, none, some 30, some 31, some 32, some 33, none, none, some 36, some 37, some 38, some 39, some 40, none, some 42, some 43, some 44, some 45, none, some 47, some 48, some 49, some 50, some 51, some 69, some 70, none, none, none, none, none, none, none, none, none, none, none, none, none, none, none])
 ((.seq (.reg [⟨[], [], .nop⟩, ⟨[], [], .ca 425 [(.e 51)] 2⟩, ⟨[], [], .nop⟩, ⟨[], [], .nop⟩, ⟨[], [], .nop⟩, ⟨[], [], .nop⟩, ⟨[], [], .nop⟩] [some 0, none, none, none, none, none, none, none, none, none, none, none, none, none, none, none, none, none, none, none, none, none, none, none, none, none, none, none, none, none, some 30, some 31, some 32, some 33, none, none, some 36, some 37, some 38, some 39, some 40, none, some 42, some 43, some 44, some 45, none, some 47, some 48, some 49, some 50, none, some 52, some 53, some 69, some 70, none, none, none, none, none, none, none, none, none, none, none, none, none])
 ((.seq (.reg [⟨[], [], .nop⟩, ⟨[], [], .ca 426 [(.e 0)] 1⟩, ⟨[], [], .nop⟩] [none, none, none, none, none, none, none, none, none, none, none, none, none, none, none, none, none, none, none, none, none, none, none, none, none, none, none, none, none, none, some 30, some 31, some 32, some 33, none, none, some 36, some 37, some 38, some 39, some 40, none, some 42, some 43, some 44, some 45, none, some 47, some 48, some 49, some 50, none, some 52, some 53, some 54, some 55, some 69, none, none, none, none, none, none, none, none, none, none, none, none])
 ((.seq (.reg [⟨[], [], .nop⟩, ⟨[], [], .ca 409 [(.e 56)] 2⟩, ⟨[], [], .nop⟩, ⟨[], [], .nop⟩, ⟨[], [], .nop⟩, ⟨[], [], .nop⟩, ⟨[], [], .nop⟩] [none, none, none, none, none, none, none, none, none, none, none, none, none, none, none, none, none, none, none, none, none, none, none, none, none, none, none, none, none, none, some 30, some 31, some 32, some 33, none, none, some 36, some 37, some 38, some 39, some 40, none, some 42, some 43, some 44, some 45, none, some 47, some 48, some 49, some 50, none, some 52, some 53, some 54, some 55, some 56, some 69, some 70, none, none, none, none, none, none, none, none, none, none])
 ((.seq (.reg [⟨[], [], .nop⟩, ⟨[], [], .ca 427 [(.e 56)] 2⟩, ⟨[], [], .nop⟩, ⟨[], [], .nop⟩, ⟨[], [], .nop⟩, ⟨[], [], .nop⟩, ⟨[], [], .nop⟩] [none, none, none, none, none, none, none, none, none, none, none, none, none, none, none, none, none, none, none, none, none, none, none, none, none, none, none, none, none, none, some 30, some 31, some 32, some 33, none, none, some 36, some 37, some 38, some 39, some 40, none, some 42, some 43, some 44, some 45, none, some 47, some 48, some 49, some 50, none, some 52, some 53, some 54, some 55, none, some 57, some 58, some 69, some 70, none, none, none, none, none, none, none, none])
 ((.seq (.reg [⟨[], [], .nop⟩, ⟨[], [], .nop⟩, ⟨[], [], .bb .eql (.e 31) (.e 33)⟩, ⟨[], [], .nop⟩, ⟨[], [(69, true)], .cy (.e 30)⟩, ⟨[], [(69, true)], .cy (.e 32)⟩, ⟨[], [(69, true)], .ca 239 [(.e 70), (.e 71)] 1⟩, ⟨[], [], .pk (.e 69) (.e 72) (.c (.b false))⟩, ⟨[], [], .nop⟩, ⟨[], [(73, true)], .cy (.e 37)⟩, ⟨[], [(73, true)], .cy (.e 39)⟩, ⟨[], [(73, true)], .bb .eql (.e 74) (.e 75)⟩, ⟨[], [], .pk (.e 73) (.e 76) (.c (.b false))⟩, ⟨[], [], .nop⟩, ⟨[], [(77, true)], .cy (.e 36)⟩, ⟨[], [(77, true)], .cy (.e 38)⟩, ⟨[], [(77, true)], .ca 239 [(.e 78), (.e 79)] 1⟩, ⟨[], [], .pk (.e 77) (.e 80) (.c (.b false))⟩, ⟨[], [], .nop⟩, ⟨[], [(81, true)], .cy (.e 42)⟩, ⟨[], [(81, true)], .cy (.e 44)⟩, ⟨[], [(81, true)], .bi .eql (.e 82) (.e 83)⟩, ⟨[], [], .pk (.e 81) (.e 84) (.c (.b false))⟩, ⟨[], [], .nop⟩, ⟨[], [(85, true)], .cy (.e 43)⟩, ⟨[], [(85, true)], .cy (.e 45)⟩, ⟨[], [(85, true)], .bb .eql (.e 86) (.e 87)⟩, ⟨[], [], .pk (.e 85) (.e 88) (.c (.b false))⟩, ⟨[], [], .nop⟩, ⟨[], [(89, true)], .cy (.e 48)⟩, ⟨[], [(89, true)], .cy (.e 50)⟩, ⟨[], [(89, true)], .bb .eql (.e 90) (.e 91)⟩, ⟨[], [], .pk (.e 89) (.e 92) (.c (.b false))⟩, ⟨[], [], .nop⟩, ⟨[], [(93, true)], .cy (.e 47)⟩, ⟨[], [(93, true)], .cy (.e 49)⟩, ⟨[], [(93, true)], .ca 239 [(.e 94), (.e 95)] 1⟩, ⟨[], [], .pk (.e 93) (.e 96) (.c (.b false))⟩, ⟨[], [], .nop⟩, ⟨[], [(97, true)], .cy (.e 53)⟩, ⟨[], [(97, true)], .cy (.e 55)⟩, ⟨[], [(97, true)], .bb .eql (.e 98) (.e 99)⟩, ⟨[], [], .pk (.e 97) (.e 100) (.c (.b false))⟩, ⟨[], [], .nop⟩, ⟨[], [(101, true)], .cy (.e 52)⟩, ⟨[], [(101, true)], .cy (.e 54)⟩, ⟨[], [(101, true)], .ca 239 [(.e 102), (.e 103)] 1⟩, ⟨[], [], .pk (.e 101) (.e 104) (.c (.b false))⟩, ⟨[], [], .nop⟩, ⟨[], [(105, true)], .cy (.e 58)⟩, ⟨[], [(105, true)], .cy (.e 60)⟩, ⟨[], [(105, true)], .bb .eql (.e 106) (.e 107)⟩, ⟨[], [], .pk (.e 105) (.e 108) (.c (.b false))⟩, ⟨[], [], .nop⟩, ⟨[], [(109, true)], .cy (.e 57)⟩, ⟨[], [(109, true)], .cy (.e 59)⟩, ⟨[], [(109, true)], .ca 239 [(.e 110), (.e 111)] 1⟩, ⟨[], [], .pk (.e 109) (.e 112) (.c (.b false))⟩, ⟨[], [], .nop⟩, ⟨[], [(113, true)], .cy (.e 40)⟩, ⟨[], [(113, true)], .ca 428 [(.e 114)] 1⟩, ⟨[], [(113, true)], .cy (.e 40)⟩, ⟨[], [(113, true)], .ca 429 [(.e 116)] 1⟩, ⟨[], [(113, true)], .bb .eql (.e 115) (.e 117)⟩, ⟨[], [], .pk (.e 113) (.e 118) (.c (.b false))⟩, ⟨[], [], .nop⟩, ⟨[], [(119, true)], .cy (.e 40)⟩, ⟨[], [(119, true)], .ca 430 [(.e 120)] 1⟩, ⟨[], [(119, true)], .cy (.e 40)⟩, ⟨[], [(119, true)], .ca 431 [(.e 122)] 1⟩, ⟨[], [(119, true)], .bi .eql (.e 121) (.e 123)⟩, ⟨[], [], .pk (.e 119) (.e 124) (.c (.b false))⟩, ⟨[], [], .nop⟩] [none, some 125, none, none, none, none, none, none, none, none, none, none, none, none, none, none, none, none, none, none, none, none, none, none, none, none, none, none, none, none, none, none, none, none, none, none, none, none, none, none, none, none, none, none, none, none, none, none, none, none, none, none, none, none, none, none, none, none, none, none, none, none, none, none, none, none, none, none, none])
 (.ret))))))))))))))))))))))))))))))))))))))))))))))))))))))))))))))))))))))))))⟩

end Go.Cat

namespace Go.Cat
/-- loop.example/g03401/spec.FormatInt -/
def ir_spec_FormatInt : IF := ⟨[], 1, 9, [1],
 (.seq (.reg [⟨[], [], .cs .v (.s [])⟩] [some 0, none, none, none, none, none, none, none, none])
 ((.seq ((.seq (.reg [⟨[], [], .nop⟩, ⟨[], [], .bi .eql (.e 0) (.c (.n 0))⟩] [some 0, none, none, none, none, some 9, none, none, none])
 (.cond 5 ((.seq (.reg [⟨[], [], .cs .v (.s [48])⟩] [none, some 9, none, none, none, none, none, none, none])
  (.ret))) (.skip))))
 ((.seq (.reg [⟨[], [], .cs .v (.s [])⟩] [some 0, none, some 9, none, none, none, none, none, none])
 ((.seq (.reg [⟨[], [], .nop⟩, ⟨[], [], .bi .lss (.e 0) (.c (.n 0))⟩, ⟨[], [], .nop⟩] [some 0, none, some 2, some 9, none, none, none, none, none])
 ((.seq (.block 0 (.loop ((.seq ((.seq (.reg [⟨[], [], .nop⟩, ⟨[], [], .bi .neq (.e 0) (.c (.n 0))⟩] [some 0, none, some 2, some 3, none, none, some 9, none, none])
   (.cond 6 (.skip) (.exit 0))))
   (.block 1 ((.seq (.reg [⟨[], [], .nop⟩, ⟨[], [], .bi .rem (.e 0) (.c (.n 10))⟩, ⟨[], [], .nop⟩] [some 0, none, some 2, some 3, some 9, none, none, none, none])
    ((.seq ((.seq (.reg [⟨[], [], .nop⟩, ⟨[], [], .bi .lss (.e 4) (.c (.n 0))⟩] [some 0, none, some 2, some 3, some 4, none, none, some 9, none])
    (.cond 7 (.reg [⟨[], [], .nop⟩, ⟨[], [], .un .neg (.e 4)⟩, ⟨[], [], .nop⟩] [some 0, none, some 2, some 3, some 9, none, none, none, none]) (.skip))))
    ((.seq (.reg [⟨[], [], .nop⟩, ⟨[], [], .bi .add (.c (.n 48)) (.e 4)⟩, ⟨[], [], .cv .u8 (.e 9)⟩, ⟨[], [], .li (.o .v) [(.e 10)]⟩, ⟨[], [], .bs (.e 11)⟩, ⟨[], [], .nop⟩, ⟨[], [], .bi .add (.e 12) (.e 2)⟩, ⟨[], [], .nop⟩] [some 0, none, some 13, some 3, none, none, none, none, none])
    (.reg [⟨[], [], .nop⟩, ⟨[], [], .bi .quo (.e 0) (.c (.n 10))⟩, ⟨[], [], .nop⟩] [some 9, none, some 2, some 3, none, none, none, none, none]))))))))))))
 ((.seq ((.seq (.reg [⟨[], [], .nop⟩] [none, none, some 2, none, none, none, none, none, some 3])
 (.cond 8 ((.seq (.reg [⟨[], [], .nop⟩, ⟨[], [], .bi .add (.c (.s [45])) (.e 2)⟩, ⟨[], [], .nop⟩] [none, some 9, none, none, none, none, none, none, none])
  (.ret))) (.skip))))
 ((.seq (.reg [⟨[], [], .nop⟩, ⟨[], [], .nop⟩] [none, some 2, none, none, none, none, none, none, none])
 (.ret))))))))))))))⟩

/-- loop.example/g03401/spec.l1Below -/
def ir_spec_l1Below : IF := ⟨[], 2, 9, [2, 0],
 (.seq (.reg [⟨[], [], .cs .v (.n 0)⟩] [some 0, some 1, none, none, none, none, none, none, none])
 ((.seq ((.seq (.reg [⟨[], [], .nop⟩, ⟨[], [], .bi .leq (.e 1) (.c (.n 0))⟩] [some 0, some 1, none, none, none, none, none, some 9, none])
 (.cond 7 ((.seq (.reg [⟨[], [], .cs .v (.n 0)⟩] [some 0, none, some 9, none, none, none, none, none, none])
  (.ret))) (.skip))))
 ((.seq ((.seq (.reg [⟨[], [], .nop⟩, ⟨[], [], .bi .leq (.e 1) (.c (.n 256))⟩] [some 0, some 1, none, none, none, none, none, none, some 9])
 (.cond 8 ((.seq (.reg [⟨[], [], .nop⟩, ⟨[], [], .ca 316 [(.e 0)] 2⟩, ⟨[], [], .nop⟩, ⟨[], [], .bi .rem (.e 9) (.e 1)⟩, ⟨[], [], .nop⟩] [some 10, none, some 11, none, none, none, none, none, none])
  (.ret))) (.skip))))
 ((.seq (.reg [⟨[], [], .nop⟩, ⟨[], [], .ca 316 [(.e 0)] 2⟩, ⟨[], [], .nop⟩] [some 10, some 1, none, some 9, none, none, none, none, none])
 ((.seq (.reg [⟨[], [], .nop⟩, ⟨[], [], .ca 316 [(.e 0)] 2⟩, ⟨[], [], .nop⟩] [some 10, some 1, none, some 3, some 9, none, none, none, none])
 ((.seq (.reg [⟨[], [], .nop⟩, ⟨[], [], .ca 316 [(.e 0)] 2⟩, ⟨[], [], .nop⟩] [some 10, some 1, none, some 3, some 4, some 9, none, none, none])
 ((.seq (.reg [⟨[], [], .nop⟩, ⟨[], [], .ca 316 [(.e 0)] 2⟩, ⟨[], [], .nop⟩] [some 10, some 1, none, some 3, some 4, some 5, some 9, none, none])
 ((.seq (.reg [⟨[], [], .nop⟩, ⟨[], [], .bi .mul (.e 3) (.c (.n 16777216))⟩, ⟨[], [], .nop⟩, ⟨[], [], .bi .mul (.e 4) (.c (.n 65536))⟩, ⟨[], [], .bi .add (.e 9) (.e 10)⟩, ⟨[], [], .nop⟩, ⟨[], [], .bi .mul (.e 5) (.c (.n 256))⟩, ⟨[], [], .bi .add (.e 11) (.e 12)⟩, ⟨[], [], .nop⟩, ⟨[], [], .bi .add (.e 13) (.e 6)⟩, ⟨[], [], .nop⟩, ⟨[], [], .bi .rem (.e 14) (.e 1)⟩, ⟨[], [], .nop⟩] [some 0, none, some 15, none, none, none, none, none, none])
 (.ret))))))))))))))))⟩

/-- loop.example/g03401/spec.l1Byte -/
def ir_spec_l1Byte : IF := ⟨[], 1, 4, [1, 0],
 (.seq (.reg [⟨[], [], .cs .v (.n 0)⟩] [some 0, none, none, none])
 ((.seq (.reg [⟨[], [], .nop⟩, ⟨[], [], .nop⟩, ⟨[], [], .nop⟩, ⟨[], [], .gt (.e 0) [.k 2]⟩, ⟨[], [], .nop⟩, ⟨[], [], .bi .mul (.e 4) (.c (.n 6364136223846793005))⟩, ⟨[], [], .bi .add (.e 5) (.c (.n 1442695040888963407))⟩, ⟨[], [], .nop⟩, ⟨[], [], .gt (.e 0) [.k 2]⟩, ⟨[], [], .up 0 [.k 2] (.e 6)⟩] [some 8, none, none, none])
 ((.seq (.reg [⟨[], [], .nop⟩, ⟨[], [], .nop⟩, ⟨[], [], .gt (.e 0) [.k 2]⟩, ⟨[], [], .nop⟩, ⟨[], [], .bi .shr (.e 4) (.c (.i .u64 (33)))⟩, ⟨[], [], .nop⟩, ⟨[], [], .nop⟩, ⟨[], [], .gt (.e 0) [.k 2]⟩, ⟨[], [], .nop⟩, ⟨[], [], .bi .shr (.e 6) (.c (.i .u64 (45)))⟩, ⟨[], [], .bi .xor (.e 5) (.e 7)⟩, ⟨[], [], .bi .and (.e 8) (.c (.n 255))⟩, ⟨[], [], .nop⟩] [some 0, none, some 9, none])
 ((.seq ((.seq (.reg [⟨[], [], .nop⟩, ⟨[], [], .nop⟩, ⟨[], [], .gt (.e 0) [.k 1]⟩, ⟨[], [], .nop⟩, ⟨[], [], .nop⟩, ⟨[], [], .nop⟩, ⟨[], [], .gt (.e 0) [.k 0]⟩, ⟨[], [], .nop⟩, ⟨[], [], .ln (.e 5) []⟩, ⟨[], [], .bi .lss (.e 4) (.e 6)⟩] [some 0, none, some 2, some 7])
 (.cond 3 ((.seq (.reg [⟨[], [], .nop⟩, ⟨[], [], .nop⟩, ⟨[], [], .nop⟩, ⟨[], [], .gt (.e 0) [.k 0]⟩, ⟨[], [], .nop⟩, ⟨[], [], .nop⟩, ⟨[], [], .nop⟩, ⟨[], [], .gt (.e 0) [.k 1]⟩, ⟨[], [], .nop⟩, ⟨[], [], .ix (.e 4) [] (.e 5)⟩, ⟨[], [], .nop⟩, ⟨[], [], .cv .i64 (.e 6)⟩, ⟨[], [], .bi .add (.e 2) (.e 7)⟩, ⟨[], [], .bi .and (.e 8) (.c (.n 255))⟩, ⟨[], [], .nop⟩] [some 0, none, some 9, none])
  (.reg [⟨[], [], .nop⟩, ⟨[], [], .nop⟩, ⟨[], [], .nop⟩, ⟨[], [], .gt (.e 0) [.k 1]⟩, ⟨[], [], .nop⟩, ⟨[], [], .bi .add (.e 4) (.c (.n 1))⟩, ⟨[], [], .nop⟩, ⟨[], [], .gt (.e 0) [.k 1]⟩, ⟨[], [], .up 0 [.k 1] (.e 5)⟩] [some 7, none, some 2, none]))) (.skip))))
 ((.seq (.reg [⟨[], [], .nop⟩, ⟨[], [], .nop⟩] [some 0, some 2, none, none])
 (.ret))))))))))⟩

/-- loop.example/g03401/spec.l1In -/
def ir_spec_l1In : IF := ⟨[], 3, 4, [3],
 (.seq (.reg [⟨[], [], .cs .v (.b false)⟩] [some 0, some 1, some 2, none])
 ((.seq (.reg [⟨[], [], .nop⟩, ⟨[], [], .nop⟩, ⟨[], [], .bi .geq (.e 0) (.e 1)⟩, ⟨[], [], .nop⟩, ⟨[], [(4, true)], .cy (.e 0)⟩, ⟨[], [(4, true)], .cy (.e 2)⟩, ⟨[], [(4, true)], .bi .leq (.e 5) (.e 6)⟩, ⟨[], [], .pk (.e 4) (.e 7) (.c (.b false))⟩, ⟨[], [], .nop⟩] [none, none, none, some 8])
 (.ret))))⟩

/-- loop.example/g03401/spec.l1New -/
def ir_spec_l1New : IF := ⟨[], 1, 5, [1],
 (.seq (.reg [⟨[], [], .cs .v .z⟩] [some 0, none, none, none, none])
 ((.seq (.reg [⟨[], [], .nop⟩, ⟨[], [], .ln (.e 0) []⟩, ⟨[], [], .bi .add (.c (.n 10101)) (.e 5)⟩, ⟨[], [], .nop⟩] [some 0, none, some 6, none, none])
 ((.seq ((.seq (.reg [⟨[], [], .cs .v (.n 0)⟩] [some 0, none, some 2, some 5, none])
 (.block 0 (.loop ((.seq ((.seq (.reg [⟨[], [], .nop⟩, ⟨[], [], .nop⟩, ⟨[], [], .ln (.e 0) []⟩, ⟨[], [], .bi .lss (.e 3) (.e 5)⟩, ⟨[], [], .nop⟩, ⟨[], [(6, true)], .cy (.e 3)⟩, ⟨[], [(6, true)], .bi .lss (.e 7) (.c (.n 4000))⟩, ⟨[], [], .pk (.e 6) (.e 8) (.c (.b false))⟩] [some 0, none, some 2, some 3, some 9])
   (.cond 4 (.skip) (.exit 0))))
   ((.seq (.block 1 (.reg [⟨[], [], .nop⟩, ⟨[], [], .bi .mul (.e 2) (.c (.n 131))⟩, ⟨[], [], .nop⟩, ⟨[], [], .nop⟩, ⟨[], [], .ix (.e 0) [] (.e 3)⟩, ⟨[], [], .nop⟩, ⟨[], [], .cv .i64 (.e 6)⟩, ⟨[], [], .bi .add (.e 5) (.e 7)⟩, ⟨[], [], .bi .add (.e 8) (.c (.n 7))⟩, ⟨[], [], .bi .and (.e 9) (.c (.n 1073741823))⟩, ⟨[], [], .nop⟩] [some 0, none, some 10, some 3, none]))
   (.reg [⟨[], [], .nop⟩, ⟨[], [], .bi .add (.e 3) (.c (.n 1))⟩, ⟨[], [], .nop⟩] [some 0, none, some 2, some 5, none])))))))))
 ((.seq (.reg [⟨[], [], .nop⟩, ⟨[], [], .nop⟩, ⟨[], [], .bg 0 [((.e 0), 0), ((.c (.n 0)), 0), ((.e 2), 0)]⟩, ⟨[], [], .wl 3 (.e 5)⟩, ⟨[], [], .nop⟩] [none, some 6, none, none, none])
 (.ret))))))))⟩

/-- loop.example/g03401/spec.l1Once -/
def ir_spec_l1Once : IF := ⟨[], 2, 3, [2, 0],
 (.seq (.reg [⟨[], [], .cs .v (.b false)⟩] [some 0, some 1, none])
 ((.seq (.reg [⟨[], [], .nop⟩, ⟨[], [], .nop⟩, ⟨[], [], .ca 289 [(.e 0), (.e 1)] 2⟩, ⟨[], [], .bi .eql (.e 3) (.c (.n 0))⟩, ⟨[], [], .nop⟩] [some 4, none, some 5])
 (.ret))))⟩

/-- loop.example/g03401/spec.l1PickInt -/
def ir_spec_l1PickInt : IF := ⟨[], 2, 3, [2, 0],
 (.seq (.reg [⟨[], [], .cs .v (.n 0)⟩] [some 0, some 1, none])
 ((.seq (.reg [⟨[], [], .nop⟩, ⟨[], [], .nop⟩, ⟨[], [], .nop⟩, ⟨[], [], .ln (.e 1) []⟩, ⟨[], [], .ca 289 [(.e 0), (.e 3)] 2⟩, ⟨[], [], .iy (.e 1) (.e 4)⟩, ⟨[], [], .nop⟩, ⟨[], [], .nop⟩] [some 5, none, some 6])
 (.ret))))⟩

end Go.Cat

namespace Go.Cat
/-- loop.example/g03401/spec.AreaOf -/
def ir_spec_AreaOf : IF := ⟨[], 1, 8, [1],
 (.seq (.reg [⟨[], [], .cs .v (.n 0)⟩] [some 0, none, none, none, none, none, none, none])
 ((.seq (.reg [⟨[], [], .nop⟩, ⟨[], [], .ca 319 [(.e 0)] 1⟩, ⟨[], [], .nop⟩] [some 0, none, some 8, none, none, none, none, none])
 ((.seq (.reg [⟨[], [], .cs .v (.n 0)⟩] [some 0, none, some 2, some 8, none, none, none, none])
 ((.seq ((.seq (.reg [⟨[], [], .cs .v (.n 0)⟩] [some 0, none, some 2, some 3, some 8, none, none, none])
 (.block 0 (.loop ((.seq ((.seq (.reg [⟨[], [], .nop⟩, ⟨[], [], .nop⟩, ⟨[], [], .sn (.e 0)⟩, ⟨[], [], .bi .lss (.e 4) (.e 8)⟩, ⟨[], [], .nop⟩, ⟨[], [(9, true)], .cy (.e 2)⟩, ⟨[], [(9, true)], .ln (.e 10) []⟩, ⟨[], [(9, true)], .bi .gtr (.e 11) (.c (.n 0))⟩, ⟨[], [], .pk (.e 9) (.e 12) (.c (.b false))⟩] [some 0, none, some 2, some 3, some 4, some 13, none, none])
   (.cond 5 (.skip) (.exit 0))))
   ((.seq (.block 1 ((.seq (.reg [⟨[], [], .nop⟩, ⟨[], [], .nop⟩, ⟨[], [], .sx (.e 0) (.e 4)⟩, ⟨[], [], .bi .eql (.e 8) (.c (.y 117))⟩] [some 0, none, some 2, some 3, some 4, none, some 9, none])
    (.cond 6 (.reg [⟨[], [], .nop⟩, ⟨[], [], .nop⟩, ⟨[], [], .nop⟩, ⟨[], [], .ix (.e 2) [] (.e 4)⟩, ⟨[], [], .nop⟩, ⟨[], [], .bi .add (.e 3) (.e 8)⟩, ⟨[], [], .nop⟩] [some 0, none, some 2, some 9, some 4, none, none, none]) (.skip)))))
   (.reg [⟨[], [], .nop⟩, ⟨[], [], .bi .add (.e 4) (.c (.n 1))⟩, ⟨[], [], .nop⟩] [some 0, none, some 2, some 3, some 8, none, none, none])))))))))
 ((.seq ((.seq (.reg [⟨[], [], .nop⟩, ⟨[], [], .ln (.e 2) []⟩, ⟨[], [], .bi .eql (.e 8) (.c (.n 0))⟩] [none, none, none, some 3, none, none, none, some 9])
 (.cond 7 ((.seq (.reg [⟨[], [], .cs .v (.n (-1))⟩] [none, some 8, none, none, none, none, none, none])
  (.ret))) (.skip))))
 ((.seq (.reg [⟨[], [], .nop⟩, ⟨[], [], .nop⟩] [none, some 3, none, none, none, none, none, none])
 (.ret))))))))))))⟩

/-- loop.example/g03401/spec.HeightsOf -/
def ir_spec_HeightsOf : IF := ⟨[], 1, 8, [1],
 (.seq (.reg [⟨[], [], .cs (.o .v) (.l [])⟩] [some 0, none, none, none, none, none, none, none])
 ((.seq (.reg [⟨[], [], .li (.o .v) []⟩, ⟨[], [], .nop⟩] [some 0, none, some 8, none, none, none, none, none])
 ((.seq ((.seq (.reg [⟨[], [], .nop⟩, ⟨[], [], .ca 64 [(.e 0)] 1⟩, ⟨[], [], .un .not (.e 8)⟩] [some 0, none, some 2, none, none, some 9, none, none])
 (.cond 5 ((.seq (.reg [⟨[], [], .nop⟩, ⟨[], [], .nop⟩] [none, some 2, none, none, none, none, none, none])
  (.ret))) (.skip))))
 ((.seq (.reg [⟨[], [], .cs .v (.n 0)⟩] [some 0, none, some 2, some 8, none, none, none, none])
 ((.seq ((.seq (.reg [⟨[], [], .cs .v (.n 0)⟩] [some 0, none, some 2, some 3, some 8, none, none, none])
 (.block 0 (.loop ((.seq ((.seq (.reg [⟨[], [], .nop⟩, ⟨[], [], .nop⟩, ⟨[], [], .sn (.e 0)⟩, ⟨[], [], .bi .lss (.e 4) (.e 8)⟩] [some 0, none, some 2, some 3, some 4, none, some 9, none])
   (.cond 6 (.skip) (.exit 0))))
   ((.seq (.block 1 ((.seq (.reg [⟨[], [], .nop⟩, ⟨[], [], .nop⟩, ⟨[], [], .li (.o .v) [(.e 3)]⟩, ⟨[], [], .ap false (.e 2) (.e 8)⟩, ⟨[], [], .nop⟩] [some 0, none, some 9, some 3, some 4, none, none, none])
    ((.seq (.reg [⟨[], [], .nop⟩, ⟨[], [], .nop⟩, ⟨[], [], .sx (.e 0) (.e 4)⟩, ⟨[], [], .bi .eql (.e 8) (.c (.y 117))⟩] [some 0, none, some 2, some 3, some 4, none, none, some 9])
    (.cond 7 (.reg [⟨[], [], .nop⟩, ⟨[], [], .bi .add (.e 3) (.c (.n 1))⟩, ⟨[], [], .nop⟩] [some 0, none, some 2, some 8, some 4, none, none, none]) (.reg [⟨[], [], .nop⟩, ⟨[], [], .bi .sub (.e 3) (.c (.n 1))⟩, ⟨[], [], .nop⟩] [some 0, none, some 2, some 8, some 4, none, none, none])))))))
   (.reg [⟨[], [], .nop⟩, ⟨[], [], .bi .add (.e 4) (.c (.n 1))⟩, ⟨[], [], .nop⟩] [some 0, none, some 2, some 3, some 8, none, none, none])))))))))
 ((.seq (.reg [⟨[], [], .nop⟩, ⟨[], [], .nop⟩, ⟨[], [], .li (.o .v) [(.e 3)]⟩, ⟨[], [], .ap false (.e 2) (.e 8)⟩, ⟨[], [], .nop⟩] [none, some 9, none, none, none, none, none, none])
 (.ret))))))))))))⟩

/-- loop.example/g03401/spec.IsDyck -/
def ir_spec_IsDyck : IF := ⟨[], 1, 9, [1],
 (.seq (.reg [⟨[], [], .cs .v (.b false)⟩] [some 0, none, none, none, none, none, none, none, none])
 ((.seq (.reg [⟨[], [], .cs .v (.n 0)⟩] [some 0, none, some 9, none, none, none, none, none, none])
 ((.seq ((.seq (.reg [⟨[], [], .cs .v (.n 0)⟩] [some 0, none, some 2, some 9, none, none, none, none, none])
 (.block 0 (.loop ((.seq ((.seq (.reg [⟨[], [], .nop⟩, ⟨[], [], .nop⟩, ⟨[], [], .sn (.e 0)⟩, ⟨[], [], .bi .lss (.e 3) (.e 9)⟩] [some 0, none, some 2, some 3, some 10, none, none, none, none])
   (.cond 4 (.skip) (.exit 0))))
   ((.seq (.block 1 ((.seq ((.seq (.reg [⟨[], [], .nop⟩, ⟨[], [], .nop⟩, ⟨[], [], .sx (.e 0) (.e 3)⟩] [some 0, none, some 2, some 3, none, some 9, none, none, none])
    (.block 2 ((.seq (.reg [⟨[], [], .bi .eql (.e 5) (.c (.y 117))⟩, ⟨[], [], .nop⟩] [some 0, none, some 2, some 3, none, some 5, some 9, none, none])
     (.cond 6 (.reg [⟨[], [], .nop⟩, ⟨[], [], .bi .add (.e 2) (.c (.n 1))⟩, ⟨[], [], .nop⟩] [some 0, none, some 9, some 3, none, none, none, none, none]) ((.seq (.reg [⟨[], [], .bi .eql (.e 5) (.c (.y 100))⟩, ⟨[], [], .nop⟩] [some 0, none, some 2, some 3, none, none, none, some 9, none])
      (.cond 7 (.reg [⟨[], [], .nop⟩, ⟨[], [], .bi .sub (.e 2) (.c (.n 1))⟩, ⟨[], [], .nop⟩] [some 0, none, some 9, some 3, none, none, none, none, none]) ((.seq (.reg [⟨[], [], .cs .v (.b false)⟩] [none, some 9, none, none, none, none, none, none, none])
       (.ret))))))))))))
    ((.seq (.reg [⟨[], [], .nop⟩, ⟨[], [], .bi .lss (.e 2) (.c (.n 0))⟩] [some 0, none, some 2, some 3, none, none, none, none, some 9])
    (.cond 8 ((.seq (.reg [⟨[], [], .cs .v (.b false)⟩] [none, some 9, none, none, none, none, none, none, none])
     (.ret))) (.skip)))))))
   (.reg [⟨[], [], .nop⟩, ⟨[], [], .bi .add (.e 3) (.c (.n 1))⟩, ⟨[], [], .nop⟩] [some 0, none, some 2, some 9, none, none, none, none, none])))))))))
 ((.seq (.reg [⟨[], [], .nop⟩, ⟨[], [], .bi .eql (.e 2) (.c (.n 0))⟩, ⟨[], [], .nop⟩, ⟨[], [(9, true)], .cy (.e 0)⟩, ⟨[], [(9, true)], .sn (.e 10)⟩, ⟨[], [(9, true)], .bi .leq (.e 11) (.c (.n 16))⟩, ⟨[], [], .pk (.e 9) (.e 12) (.c (.b false))⟩, ⟨[], [], .nop⟩] [none, some 13, none, none, none, none, none, none, none])
 (.ret))))))))⟩

/-- loop.example/g03401/spec.PeaksOf -/
def ir_spec_PeaksOf : IF := ⟨[], 1, 7, [1],
 (.seq (.reg [⟨[], [], .cs .v (.n 0)⟩] [some 0, none, none, none, none, none, none])
 ((.seq ((.seq (.reg [⟨[], [], .nop⟩, ⟨[], [], .ca 64 [(.e 0)] 1⟩, ⟨[], [], .un .not (.e 7)⟩] [some 0, none, none, none, some 8, none, none])
 (.cond 4 ((.seq (.reg [⟨[], [], .cs .v (.n (-1))⟩] [none, some 7, none, none, none, none, none])
  (.ret))) (.skip))))
 ((.seq (.reg [⟨[], [], .cs .v (.n 0)⟩] [some 0, none, some 7, none, none, none, none])
 ((.seq ((.seq (.reg [⟨[], [], .cs .v (.n 1)⟩] [some 0, none, some 2, some 7, none, none, none])
 (.block 0 (.loop ((.seq ((.seq (.reg [⟨[], [], .nop⟩, ⟨[], [], .nop⟩, ⟨[], [], .sn (.e 0)⟩, ⟨[], [], .bi .lss (.e 3) (.e 7)⟩] [some 0, none, some 2, some 3, none, some 8, none])
   (.cond 5 (.skip) (.exit 0))))
   ((.seq (.block 1 ((.seq (.reg [⟨[], [], .nop⟩, ⟨[], [], .nop⟩, ⟨[], [], .bi .sub (.e 3) (.c (.n 1))⟩, ⟨[], [], .nop⟩, ⟨[], [], .bi .add (.e 3) (.c (.n 1))⟩, ⟨[], [], .ss (.e 0) (some (.e 7)) (some (.e 8))⟩, ⟨[], [], .bi .eql (.e 9) (.c (.s [117, 100]))⟩] [some 0, none, some 2, some 3, none, none, some 10])
    (.cond 6 (.reg [⟨[], [], .nop⟩, ⟨[], [], .bi .add (.e 2) (.c (.n 1))⟩, ⟨[], [], .nop⟩] [some 0, none, some 7, some 3, none, none, none]) (.skip)))))
   (.reg [⟨[], [], .nop⟩, ⟨[], [], .bi .add (.e 3) (.c (.n 1))⟩, ⟨[], [], .nop⟩] [some 0, none, some 2, some 7, none, none, none])))))))))
 ((.seq (.reg [⟨[], [], .nop⟩, ⟨[], [], .nop⟩] [none, some 2, none, none, none, none, none])
 (.ret))))))))))⟩

/-- loop.example/g03401/spec.ReturnsOf -/
def ir_spec_ReturnsOf : IF := ⟨[], 1, 7, [1],
 (.seq (.reg [⟨[], [], .cs .v (.n 0)⟩] [some 0, none, none, none, none, none, none])
 ((.seq (.reg [⟨[], [], .nop⟩, ⟨[], [], .ca 319 [(.e 0)] 1⟩, ⟨[], [], .nop⟩] [none, none, some 7, none, none, none, none])
 ((.seq (.reg [⟨[], [], .cs .v (.n (-1))⟩] [none, none, some 2, some 7, none, none, none])
 ((.seq ((.seq (.reg [⟨[], [], .cs .v (.n 0)⟩] [none, none, some 2, some 3, some 7, none, none])
 (.block 0 (.loop ((.seq ((.seq (.reg [⟨[], [], .nop⟩, ⟨[], [], .nop⟩, ⟨[], [], .ln (.e 2) []⟩, ⟨[], [], .bi .lss (.e 4) (.e 7)⟩] [none, none, some 2, some 3, some 4, some 8, none])
   (.cond 5 (.skip) (.exit 0))))
   ((.seq (.block 1 ((.seq (.reg [⟨[], [], .nop⟩, ⟨[], [], .nop⟩, ⟨[], [], .ix (.e 2) [] (.e 4)⟩, ⟨[], [], .nop⟩, ⟨[], [], .bi .eql (.e 7) (.c (.n 0))⟩] [none, none, some 2, some 3, some 4, none, some 8])
    (.cond 6 (.reg [⟨[], [], .nop⟩, ⟨[], [], .bi .add (.e 3) (.c (.n 1))⟩, ⟨[], [], .nop⟩] [none, none, some 2, some 7, some 4, none, none]) (.skip)))))
   (.reg [⟨[], [], .nop⟩, ⟨[], [], .bi .add (.e 4) (.c (.n 1))⟩, ⟨[], [], .nop⟩] [none, none, some 2, some 3, some 7, none, none])))))))))
 ((.seq (.reg [⟨[], [], .nop⟩, ⟨[], [], .nop⟩] [none, some 3, none, none, none, none, none])
 (.ret))))))))))⟩

end Go.Cat

namespace Go.Cat
/-- loop.example/g03401/spec.PathsOf -/
def ir_spec_PathsOf : IF := ⟨[], 1, 3, [1],
 (.seq (.reg [⟨[], [], .cs (.o .v) (.l [])⟩] [some 0, none, none])
 ((.seq ((.seq (.reg [⟨[], [], .nop⟩, ⟨[], [], .ca 22 [(.e 0), (.c (.n 0)), (.c (.n 6))] 1⟩, ⟨[], [], .un .not (.e 3)⟩] [some 0, none, some 4])
 (.cond 2 ((.seq (.reg [⟨[], [], .li (.o .v) []⟩, ⟨[], [], .nop⟩] [none, some 3, none])
  (.ret))) (.skip))))
 ((.seq (.reg [⟨[], [], .nop⟩, ⟨[], [], .nop⟩, ⟨[], [], .ca 292 [(.c (.s [])), (.e 0), (.e 0)] 1⟩, ⟨[], [], .nop⟩] [none, some 3, none])
 (.ret))))))⟩

/-- loop.example/g03401/spec.l3All -/
def ir_spec_l3All : IF := ⟨[], 3, 8, [3],
 (.seq (.reg [⟨[], [], .cs (.o .v) (.l [])⟩] [some 0, some 1, some 2, none, none, none, none, none])
 ((.seq ((.seq (.reg [⟨[], [], .nop⟩, ⟨[], [], .bi .eql (.e 2) (.c (.n 0))⟩] [some 0, some 1, some 2, none, none, some 8, none, none])
 (.cond 5 ((.seq (.reg [⟨[], [], .nop⟩, ⟨[], [], .li (.o .v) [(.e 0)]⟩, ⟨[], [], .nop⟩] [none, none, none, some 8, none, none, none, none])
  (.ret))) (.skip))))
 ((.seq (.reg [⟨[], [], .li (.o .v) []⟩, ⟨[], [], .nop⟩] [some 0, some 1, some 2, none, some 8, none, none, none])
 ((.seq ((.seq (.reg [⟨[], [], .nop⟩, ⟨[], [], .bi .gtr (.e 1) (.c (.n 0))⟩] [some 0, some 1, some 2, none, some 4, none, some 8, none])
 (.cond 6 (.reg [⟨[], [], .nop⟩, ⟨[], [], .nop⟩, ⟨[], [], .bi .add (.e 0) (.c (.s [117]))⟩, ⟨[], [], .nop⟩, ⟨[], [], .bi .sub (.e 1) (.c (.n 1))⟩, ⟨[], [], .nop⟩, ⟨[], [], .ca 292 [(.e 8), (.e 9), (.e 2)] 1⟩, ⟨[], [], .ap false (.e 4) (.e 10)⟩, ⟨[], [], .nop⟩] [some 0, some 1, some 2, none, some 11, none, none, none]) (.skip))))
 ((.seq ((.seq (.reg [⟨[], [], .nop⟩, ⟨[], [], .nop⟩, ⟨[], [], .bi .gtr (.e 2) (.e 1)⟩] [some 0, some 1, some 2, none, some 4, none, none, some 8])
 (.cond 7 (.reg [⟨[], [], .nop⟩, ⟨[], [], .nop⟩, ⟨[], [], .bi .add (.e 0) (.c (.s [100]))⟩, ⟨[], [], .nop⟩, ⟨[], [], .nop⟩, ⟨[], [], .bi .sub (.e 2) (.c (.n 1))⟩, ⟨[], [], .ca 292 [(.e 8), (.e 1), (.e 9)] 1⟩, ⟨[], [], .ap false (.e 4) (.e 10)⟩, ⟨[], [], .nop⟩] [none, none, none, none, some 11, none, none, none]) (.skip))))
 ((.seq (.reg [⟨[], [], .nop⟩, ⟨[], [], .nop⟩] [none, none, none, some 4, none, none, none, none])
 (.ret))))))))))))⟩

end Go.Cat

namespace Go.Cat
/-- loop.example/g03401/spec.BracketsOf -/
def ir_spec_BracketsOf : IF := ⟨[], 1, 7, [1, 2],
 (.seq (.reg [⟨[], [], .cs .v (.s [])⟩, ⟨[], [], .cs .v (.b false)⟩] [some 0, none, none, none, none, none, none])
 ((.seq (.reg [⟨[], [], .cs .v (.s [])⟩] [some 0, none, none, some 7, none, none, none])
 ((.seq ((.seq (.reg [⟨[], [], .cs .v (.n 0)⟩] [some 0, none, none, some 3, some 7, none, none])
 (.block 0 (.loop ((.seq ((.seq (.reg [⟨[], [], .nop⟩, ⟨[], [], .nop⟩, ⟨[], [], .sn (.e 0)⟩, ⟨[], [], .bi .lss (.e 4) (.e 7)⟩, ⟨[], [], .nop⟩, ⟨[], [(8, true)], .cy (.e 0)⟩, ⟨[], [(8, true)], .ca 64 [(.e 9)] 1⟩, ⟨[], [], .pk (.e 8) (.e 10) (.c (.b false))⟩] [some 0, none, none, some 3, some 4, some 11, none])
   (.cond 5 (.skip) (.exit 0))))
   ((.seq (.block 1 ((.seq (.reg [⟨[], [], .nop⟩, ⟨[], [], .nop⟩, ⟨[], [], .sx (.e 0) (.e 4)⟩, ⟨[], [], .bi .eql (.e 7) (.c (.y 117))⟩] [some 0, none, none, some 3, some 4, none, some 8])
    (.cond 6 (.reg [⟨[], [], .nop⟩, ⟨[], [], .bi .add (.e 3) (.c (.s [40]))⟩, ⟨[], [], .nop⟩] [some 0, none, none, some 7, some 4, none, none]) (.reg [⟨[], [], .nop⟩, ⟨[], [], .bi .add (.e 3) (.c (.s [41]))⟩, ⟨[], [], .nop⟩] [some 0, none, none, some 7, some 4, none, none])))))
   (.reg [⟨[], [], .nop⟩, ⟨[], [], .bi .add (.e 4) (.c (.n 1))⟩, ⟨[], [], .nop⟩] [some 0, none, none, some 3, some 7, none, none])))))))))
 ((.seq (.reg [⟨[], [], .nop⟩, ⟨[], [], .nop⟩, ⟨[], [], .ca 64 [(.e 0)] 1⟩, ⟨[], [], .nop⟩, ⟨[], [], .nop⟩] [none, some 3, some 7, none, none, none, none])
 (.ret))))))))⟩

/-- loop.example/g03401/spec.DepthOf -/
def ir_spec_DepthOf : IF := ⟨[], 1, 9, [1],
 (.seq (.reg [⟨[], [], .cs .v (.n 0)⟩] [some 0, none, none, none, none, none, none, none, none])
 ((.seq (.reg [⟨[], [], .nop⟩, ⟨[], [], .ca 320 [(.e 0)] 2⟩, ⟨[], [], .nop⟩, ⟨[], [], .nop⟩, ⟨[], [], .nop⟩, ⟨[], [], .nop⟩, ⟨[], [], .nop⟩] [none, none, some 9, some 10, none, none, none, none, none])
 ((.seq ((.seq (.reg [⟨[], [], .nop⟩, ⟨[], [], .un .not (.e 3)⟩] [none, none, some 2, none, none, none, none, some 9, none])
 (.cond 7 ((.seq (.reg [⟨[], [], .cs .v (.n (-1))⟩] [none, some 9, none, none, none, none, none, none, none])
  (.ret))) (.skip))))
 ((.seq (.reg [⟨[], [], .nop⟩, ⟨[], [], .ca 319 [(.e 2)] 1⟩, ⟨[], [], .nop⟩] [none, none, none, none, some 9, none, none, none, none])
 ((.seq (.reg [⟨[], [], .cs .v (.n 0)⟩] [none, none, none, none, some 4, some 9, none, none, none])
 ((.seq ((.seq (.reg [⟨[], [], .cs .v (.n 0)⟩] [none, none, none, none, some 4, some 5, some 9, none, none])
 (.block 0 (.loop ((.seq ((.seq (.reg [⟨[], [], .nop⟩, ⟨[], [], .nop⟩, ⟨[], [], .ln (.e 4) []⟩, ⟨[], [], .bi .lss (.e 6) (.e 9)⟩] [none, none, none, none, some 4, some 5, some 6, none, some 10])
   (.cond 8 (.skip) (.exit 0))))
   ((.seq (.block 1 (.reg [⟨[], [], .nop⟩, ⟨[], [], .nop⟩, ⟨[], [], .nop⟩, ⟨[], [], .ix (.e 4) [] (.e 6)⟩, ⟨[], [], .nop⟩, ⟨[], [], .mx (.e 5) (.e 9)⟩, ⟨[], [], .nop⟩] [none, none, none, none, some 4, some 10, some 6, none, none]))
   (.reg [⟨[], [], .nop⟩, ⟨[], [], .bi .add (.e 6) (.c (.n 1))⟩, ⟨[], [], .nop⟩] [none, none, none, none, some 4, some 5, some 9, none, none])))))))))
 ((.seq (.reg [⟨[], [], .nop⟩, ⟨[], [], .nop⟩] [none, some 5, none, none, none, none, none, none, none])
 (.ret))))))))))))))⟩

/-- loop.example/g03401/spec.PathOfBrackets -/
def ir_spec_PathOfBrackets : IF := ⟨[], 1, 10, [1, 2],
 (.seq (.reg [⟨[], [], .cs .v (.s [])⟩, ⟨[], [], .cs .v (.b false)⟩] [some 0, none, none, none, none, none, none, none, none, none])
 ((.seq (.reg [⟨[], [], .cs .v (.s [])⟩] [some 0, none, none, some 10, none, none, none, none, none, none])
 ((.seq ((.seq (.reg [⟨[], [], .cs .v (.n 0)⟩] [some 0, none, none, some 3, some 10, none, none, none, none, none])
 (.block 0 (.loop ((.seq ((.seq (.reg [⟨[], [], .nop⟩, ⟨[], [], .nop⟩, ⟨[], [], .sn (.e 0)⟩, ⟨[], [], .bi .lss (.e 4) (.e 10)⟩, ⟨[], [], .nop⟩, ⟨[], [(11, true)], .cy (.e 0)⟩, ⟨[], [(11, true)], .sn (.e 12)⟩, ⟨[], [(11, true)], .bi .leq (.e 13) (.c (.n 16))⟩, ⟨[], [], .pk (.e 11) (.e 14) (.c (.b false))⟩] [some 0, none, none, some 3, some 4, some 15, none, none, none, none])
   (.cond 5 (.skip) (.exit 0))))
   ((.seq (.block 1 ((.seq (.reg [⟨[], [], .nop⟩, ⟨[], [], .nop⟩, ⟨[], [], .sx (.e 0) (.e 4)⟩] [some 0, none, none, some 3, some 4, none, some 10, none, none, none])
    (.block 2 ((.seq (.reg [⟨[], [], .bi .eql (.e 6) (.c (.y 40))⟩, ⟨[], [], .nop⟩] [some 0, none, none, some 3, some 4, none, some 6, some 10, none, none])
     (.cond 7 (.reg [⟨[], [], .nop⟩, ⟨[], [], .bi .add (.e 3) (.c (.s [117]))⟩, ⟨[], [], .nop⟩] [some 0, none, none, some 10, some 4, none, none, none, none, none]) ((.seq (.reg [⟨[], [], .bi .eql (.e 6) (.c (.y 41))⟩, ⟨[], [], .nop⟩] [some 0, none, none, some 3, some 4, none, none, none, some 10, none])
      (.cond 8 (.reg [⟨[], [], .nop⟩, ⟨[], [], .bi .add (.e 3) (.c (.s [100]))⟩, ⟨[], [], .nop⟩] [some 0, none, none, some 10, some 4, none, none, none, none, none]) ((.seq (.reg [⟨[], [], .cs .v (.s [])⟩, ⟨[], [], .cs .v (.b false)⟩] [none, some 10, some 11, none, none, none, none, none, none, none])
       (.ret)))))))))))))
   (.reg [⟨[], [], .nop⟩, ⟨[], [], .bi .add (.e 4) (.c (.n 1))⟩, ⟨[], [], .nop⟩] [some 0, none, none, some 3, some 10, none, none, none, none, none])))))))))
 ((.seq ((.seq (.reg [⟨[], [], .nop⟩, ⟨[], [], .sn (.e 0)⟩, ⟨[], [], .bi .gtr (.e 10) (.c (.n 16))⟩, ⟨[], [], .nop⟩, ⟨[], [(11, false)], .cy (.e 3)⟩, ⟨[], [(11, false)], .ca 64 [(.e 12)] 1⟩, ⟨[], [(11, false)], .un .not (.e 13)⟩, ⟨[], [], .pk (.e 11) (.c (.b true)) (.e 14)⟩] [none, none, none, some 3, none, none, none, none, none, some 15])
 (.cond 9 ((.seq (.reg [⟨[], [], .cs .v (.s [])⟩, ⟨[], [], .cs .v (.b false)⟩] [none, some 10, some 11, none, none, none, none, none, none, none])
  (.ret))) (.skip))))
 ((.seq (.reg [⟨[], [], .nop⟩, ⟨[], [], .nop⟩, ⟨[], [], .cs .v (.b true)⟩] [none, some 3, some 10, none, none, none, none, none, none, none])
 (.ret))))))))))⟩

end Go.Cat

namespace Go.Cat
/-- loop.example/g03401/spec.ChildrenOf -/
def ir_spec_ChildrenOf : IF := ⟨[], 2, 7, [2],
 (.seq (.reg [⟨[], [], .cs (.o .v) (.l [])⟩] [some 0, some 1, none, none, none, none, none])
 ((.seq (.reg [⟨[], [], .li (.o .v) []⟩, ⟨[], [], .nop⟩] [some 0, some 1, none, some 7, none, none, none])
 ((.seq ((.seq (.reg [⟨[], [], .cs .v (.n 1)⟩] [some 0, some 1, none, some 3, some 7, none, none])
 (.block 0 (.loop ((.seq ((.seq (.reg [⟨[], [], .nop⟩, ⟨[], [], .nop⟩, ⟨[], [], .ln (.e 0) []⟩, ⟨[], [], .bi .lss (.e 4) (.e 7)⟩, ⟨[], [], .nop⟩, ⟨[], [(8, true)], .nop⟩, ⟨[], [(8, true)], .ca 321 [(.e 0)] 1⟩, ⟨[], [], .pk (.e 8) (.e 9) (.c (.b false))⟩, ⟨[], [], .nop⟩, ⟨[], [(10, true)], .cy (.e 1)⟩, ⟨[], [(10, true)], .bi .geq (.e 11) (.c (.n 0))⟩, ⟨[], [], .pk (.e 10) (.e 12) (.c (.b false))⟩] [some 0, some 1, none, some 3, some 4, some 13, none])
   (.cond 5 (.skip) (.exit 0))))
   ((.seq (.block 1 ((.seq (.reg [⟨[], [], .nop⟩, ⟨[], [], .nop⟩, ⟨[], [], .iy (.e 0) (.e 4)⟩, ⟨[], [], .nop⟩, ⟨[], [], .nop⟩, ⟨[], [], .bi .eql (.e 7) (.e 1)⟩] [some 0, some 1, none, some 3, some 4, none, some 8])
    (.cond 6 (.reg [⟨[], [], .nop⟩, ⟨[], [], .nop⟩, ⟨[], [], .li (.o .v) [(.e 4)]⟩, ⟨[], [], .ap false (.e 3) (.e 7)⟩, ⟨[], [], .nop⟩] [some 0, some 1, none, some 8, some 4, none, none]) (.skip)))))
   (.reg [⟨[], [], .nop⟩, ⟨[], [], .bi .add (.e 4) (.c (.n 1))⟩, ⟨[], [], .nop⟩] [some 0, some 1, none, some 3, some 7, none, none])))))))))
 ((.seq (.reg [⟨[], [], .nop⟩, ⟨[], [], .nop⟩] [none, none, some 3, none, none, none, none])
 (.ret))))))))⟩

/-- loop.example/g03401/spec.IsPlane -/
def ir_spec_IsPlane : IF := ⟨[], 1, 9, [1],
 (.seq (.reg [⟨[], [], .cs .v (.b false)⟩] [some 0, none, none, none, none, none, none, none, none])
 ((.seq ((.seq (.reg [⟨[], [], .cs .v (.n 0)⟩] [some 0, none, some 9, none, none, none, none, none, none])
 (.block 0 (.loop ((.seq ((.seq (.reg [⟨[], [], .nop⟩, ⟨[], [], .nop⟩, ⟨[], [], .ln (.e 0) []⟩, ⟨[], [], .bi .lss (.e 2) (.e 9)⟩] [some 0, none, some 2, none, none, some 10, none, none, none])
   (.cond 5 (.skip) (.exit 0))))
   ((.seq (.block 1 ((.seq ((.seq (.reg [⟨[], [], .nop⟩, ⟨[], [], .bi .eql (.e 2) (.c (.n 0))⟩, ⟨[], [], .nop⟩, ⟨[], [(9, true)], .nop⟩, ⟨[], [(9, true)], .iy (.e 0) (.c (.n 0))⟩, ⟨[], [(9, true)], .nop⟩, ⟨[], [(9, true)], .bi .neq (.e 10) (.c (.n (-1)))⟩, ⟨[], [], .pk (.e 9) (.e 11) (.c (.b false))⟩, ⟨[], [], .nop⟩, ⟨[], [(12, false)], .cy (.e 2)⟩, ⟨[], [(12, false)], .bi .gtr (.e 13) (.c (.n 0))⟩, ⟨[], [(12, false)], .cy (.e 14)⟩, ⟨[], [(12, false), (15, true)], .nop⟩, ⟨[], [(12, false), (15, true)], .cy (.e 2)⟩, ⟨[], [(12, false), (15, true)], .iy (.e 0) (.e 16)⟩, ⟨[], [(12, false), (15, true)], .nop⟩, ⟨[], [(12, false), (15, true)], .cy (.e 2)⟩, ⟨[], [(12, false), (15, true)], .bi .sub (.e 18) (.c (.n 1))⟩, ⟨[], [(12, false), (15, true)], .ca 22 [(.e 17), (.c (.n 0)), (.e 19)] 1⟩, ⟨[], [(12, false), (15, true)], .un .not (.e 20)⟩, ⟨[], [(12, false)], .pk (.e 15) (.e 21) (.c (.b false))⟩, ⟨[], [], .pk (.e 12) (.c (.b true)) (.e 22)⟩] [some 0, none, some 2, none, none, none, some 23, none, none])
    (.cond 6 ((.seq (.reg [⟨[], [], .cs .v (.b false)⟩] [none, some 9, none, none, none, none, none, none, none])
     (.ret))) (.skip))))
    ((.seq (.reg [⟨[], [], .nop⟩, ⟨[], [], .bi .eql (.e 2) (.c (.n 0))⟩, ⟨[], [], .nop⟩] [some 0, none, some 2, some 9, none, none, none, none, none])
    ((.seq ((.seq (.reg [⟨[], [], .nop⟩, ⟨[], [], .bi .sub (.e 2) (.c (.n 1))⟩, ⟨[], [], .nop⟩] [some 0, none, some 2, some 3, some 9, none, none, none, none])
    (.block 2 (.loop ((.seq ((.seq (.reg [⟨[], [], .nop⟩, ⟨[], [], .bi .geq (.e 4) (.c (.n 0))⟩, ⟨[], [], .nop⟩, ⟨[], [(9, true)], .cy (.e 2)⟩, ⟨[], [(9, true)], .bi .gtr (.e 10) (.c (.n 0))⟩, ⟨[], [], .pk (.e 9) (.e 11) (.c (.b false))⟩] [some 0, none, some 2, some 3, some 4, none, none, some 12, none])
      (.cond 7 (.skip) (.exit 2))))
      ((.seq (.block 3 (.reg [⟨[], [], .nop⟩, ⟨[], [], .nop⟩, ⟨[], [(3, false)], .cy (.e 4)⟩, ⟨[], [(3, false)], .nop⟩, ⟨[], [(3, false)], .cy (.e 2)⟩, ⟨[], [(3, false)], .iy (.e 0) (.e 10)⟩, ⟨[], [(3, false)], .nop⟩, ⟨[], [(3, false)], .bi .eql (.e 9) (.e 11)⟩, ⟨[], [], .pk (.e 3) (.c (.b true)) (.e 12)⟩, ⟨[], [], .nop⟩] [some 0, none, some 2, some 13, some 4, none, none, none, none]))
      (.reg [⟨[], [], .nop⟩, ⟨[], [], .nop⟩, ⟨[], [], .iy (.e 0) (.e 4)⟩, ⟨[], [], .nop⟩, ⟨[], [], .nop⟩] [some 0, none, some 2, some 3, some 9, none, none, none, none])))))))))
    ((.seq (.reg [⟨[], [], .nop⟩, ⟨[], [], .un .not (.e 3)⟩] [some 0, none, some 2, none, none, none, none, none, some 9])
    (.cond 8 ((.seq (.reg [⟨[], [], .cs .v (.b false)⟩] [none, some 9, none, none, none, none, none, none, none])
     (.ret))) (.skip)))))))))))
   (.reg [⟨[], [], .nop⟩, ⟨[], [], .bi .add (.e 2) (.c (.n 1))⟩, ⟨[], [], .nop⟩] [some 0, none, some 9, none, none, none, none, none, none])))))))))
 ((.seq (.reg [⟨[], [], .nop⟩, ⟨[], [], .ln (.e 0) []⟩, ⟨[], [], .ca 22 [(.e 9), (.c (.n 1)), (.c (.n 9))] 1⟩, ⟨[], [], .nop⟩] [none, some 10, none, none, none, none, none, none, none])
 (.ret))))))⟩

/-- loop.example/g03401/spec.LeavesOf -/
def ir_spec_LeavesOf : IF := ⟨[], 1, 6, [1],
 (.seq (.reg [⟨[], [], .cs .v (.n 0)⟩] [some 0, none, none, none, none, none])
 ((.seq (.reg [⟨[], [], .cs .v (.n 0)⟩] [some 0, none, some 6, none, none, none])
 ((.seq ((.seq (.reg [⟨[], [], .cs .v (.n 0)⟩] [some 0, none, some 2, some 6, none, none])
 (.block 0 (.loop ((.seq ((.seq (.reg [⟨[], [], .nop⟩, ⟨[], [], .nop⟩, ⟨[], [], .ln (.e 0) []⟩, ⟨[], [], .bi .lss (.e 3) (.e 6)⟩, ⟨[], [], .nop⟩, ⟨[], [(7, true)], .nop⟩, ⟨[], [(7, true)], .ca 321 [(.e 0)] 1⟩, ⟨[], [], .pk (.e 7) (.e 8) (.c (.b false))⟩] [some 0, none, some 2, some 3, some 9, none])
   (.cond 4 (.skip) (.exit 0))))
   ((.seq (.block 1 ((.seq (.reg [⟨[], [], .nop⟩, ⟨[], [], .nop⟩, ⟨[], [], .ca 322 [(.e 0), (.e 3)] 1⟩, ⟨[], [], .ln (.e 6) []⟩, ⟨[], [], .bi .eql (.e 7) (.c (.n 0))⟩] [some 0, none, some 2, some 3, none, some 8])
    (.cond 5 (.reg [⟨[], [], .nop⟩, ⟨[], [], .bi .add (.e 2) (.c (.n 1))⟩, ⟨[], [], .nop⟩] [some 0, none, some 6, some 3, none, none]) (.skip)))))
   (.reg [⟨[], [], .nop⟩, ⟨[], [], .bi .add (.e 3) (.c (.n 1))⟩, ⟨[], [], .nop⟩] [some 0, none, some 2, some 6, none, none])))))))))
 ((.seq (.reg [⟨[], [], .nop⟩, ⟨[], [], .nop⟩] [none, some 2, none, none, none, none])
 (.ret))))))))⟩

/-- loop.example/g03401/spec.PlaneOf -/
def ir_spec_PlaneOf : IF := ⟨[], 1, 9, [1, 2],
 (.seq (.reg [⟨[], [], .cs (.o .v) (.l [])⟩, ⟨[], [], .cs .v (.b false)⟩] [some 0, none, none, none, none, none, none, none, none])
 ((.seq (.reg [⟨[], [], .li (.o .v) [(.c (.n (-1)))]⟩, ⟨[], [], .nop⟩] [some 0, none, none, some 9, none, none, none, none, none])
 ((.seq (.reg [⟨[], [], .cs .v (.n 0)⟩] [some 0, none, none, some 3, some 9, none, none, none, none])
 ((.seq ((.seq (.reg [⟨[], [], .cs .v (.n 0)⟩] [some 0, none, none, some 3, some 4, some 9, none, none, none])
 (.block 0 (.loop ((.seq ((.seq (.reg [⟨[], [], .nop⟩, ⟨[], [], .nop⟩, ⟨[], [], .sn (.e 0)⟩, ⟨[], [], .bi .lss (.e 5) (.e 9)⟩, ⟨[], [], .nop⟩, ⟨[], [(10, true)], .cy (.e 0)⟩, ⟨[], [(10, true)], .ca 64 [(.e 11)] 1⟩, ⟨[], [], .pk (.e 10) (.e 12) (.c (.b false))⟩] [some 0, none, none, some 3, some 4, some 5, some 13, none, none])
   (.cond 6 (.skip) (.exit 0))))
   ((.seq (.block 1 ((.seq (.reg [⟨[], [], .nop⟩, ⟨[], [], .nop⟩, ⟨[], [], .sx (.e 0) (.e 5)⟩, ⟨[], [], .bi .eql (.e 9) (.c (.y 117))⟩] [some 0, none, none, some 3, some 4, some 5, none, some 10, none])
    (.cond 7 ((.seq (.reg [⟨[], [], .nop⟩, ⟨[], [], .nop⟩, ⟨[], [], .li (.o .v) [(.e 4)]⟩, ⟨[], [], .ap false (.e 3) (.e 9)⟩, ⟨[], [], .nop⟩] [some 0, none, none, some 10, none, some 5, none, none, none])
     (.reg [⟨[], [], .nop⟩, ⟨[], [], .ln (.e 3) []⟩, ⟨[], [], .bi .sub (.e 9) (.c (.n 1))⟩, ⟨[], [], .nop⟩] [some 0, none, none, some 3, some 10, some 5, none, none, none]))) (.reg [⟨[], [], .nop⟩, ⟨[], [], .nop⟩, ⟨[], [], .ix (.e 3) [] (.e 4)⟩, ⟨[], [], .nop⟩, ⟨[], [], .nop⟩] [some 0, none, none, some 3, some 9, some 5, none, none, none])))))
   (.reg [⟨[], [], .nop⟩, ⟨[], [], .bi .add (.e 5) (.c (.n 1))⟩, ⟨[], [], .nop⟩] [some 0, none, none, some 3, some 4, some 9, none, none, none])))))))))
 ((.seq ((.seq (.reg [⟨[], [], .nop⟩, ⟨[], [], .ca 64 [(.e 0)] 1⟩, ⟨[], [], .un .not (.e 9)⟩] [none, none, none, some 3, none, none, none, none, some 10])
 (.cond 8 ((.seq (.reg [⟨[], [], .li (.o .v) []⟩, ⟨[], [], .nop⟩, ⟨[], [], .cs .v (.b false)⟩] [none, some 9, some 10, none, none, none, none, none, none])
  (.ret))) (.skip))))
 ((.seq (.reg [⟨[], [], .nop⟩, ⟨[], [], .nop⟩, ⟨[], [], .cs .v (.b true)⟩] [none, some 3, some 9, none, none, none, none, none, none])
 (.ret))))))))))))⟩

end Go.Cat

namespace Go.Cat
/-- loop.example/g03401/spec.BlocksOf -/
def ir_spec_BlocksOf : IF := ⟨[], 1, 6, [1],
 (.seq (.reg [⟨[], [], .cs .v (.l [])⟩] [some 0, none, none, none, none, none])
 ((.seq (.reg [⟨[], [], .li (.o (.o .v)) []⟩, ⟨[], [], .nop⟩] [some 0, none, some 6, none, none, none])
 ((.seq ((.seq (.reg [⟨[], [], .cs .v (.n 0)⟩] [some 0, none, some 2, some 6, none, none])
 (.block 0 (.loop ((.seq ((.seq (.reg [⟨[], [], .nop⟩, ⟨[], [], .nop⟩, ⟨[], [], .ln (.e 0) []⟩, ⟨[], [], .bi .lss (.e 3) (.e 6)⟩, ⟨[], [], .nop⟩, ⟨[], [(7, true)], .nop⟩, ⟨[], [(7, true)], .ca 324 [(.e 0)] 1⟩, ⟨[], [], .pk (.e 7) (.e 8) (.c (.b false))⟩] [some 0, none, some 2, some 3, some 9, none])
   (.cond 4 (.skip) (.exit 0))))
   ((.seq (.block 1 ((.seq ((.seq (.reg [⟨[], [], .nop⟩, ⟨[], [], .nop⟩, ⟨[], [], .iy (.e 0) (.e 3)⟩, ⟨[], [], .nop⟩, ⟨[], [], .nop⟩, ⟨[], [], .ln (.e 2) []⟩, ⟨[], [], .bi .eql (.e 6) (.e 7)⟩] [some 0, none, some 2, some 3, none, some 8])
    (.cond 5 (.reg [⟨[], [], .nop⟩, ⟨[], [], .li (.o .v) []⟩, ⟨[], [], .li (.o (.o .v)) [(.e 6)]⟩, ⟨[], [], .ap false (.e 2) (.e 7)⟩, ⟨[], [], .nop⟩] [some 0, none, some 8, some 3, none, none]) (.skip))))
    (.reg [⟨[], [], .ln (.e 2) []⟩, ⟨[], [], .nop⟩, ⟨[], [], .nop⟩, ⟨[], [], .nop⟩, ⟨[], [], .iy (.e 0) (.e 3)⟩, ⟨[], [], .nop⟩, ⟨[], [], .nop⟩, ⟨[], [], .nop⟩, ⟨[], [], .nop⟩, ⟨[], [], .iy (.e 0) (.e 3)⟩, ⟨[], [], .nop⟩, ⟨[], [], .ix (.e 2) [] (.e 8)⟩, ⟨[], [], .sp 2 [.e 8] 1⟩, ⟨[], [], .nop⟩, ⟨[], [], .li (.o .v) [(.e 3)]⟩, ⟨[], [], .ap false (.e 10) (.e 12)⟩, ⟨[], [], .ix (.e 2) [] (.e 7)⟩, ⟨[], [], .up 11 [.e 7] (.e 13)⟩] [some 0, none, some 15, some 3, none, none]))))
   (.reg [⟨[], [], .nop⟩, ⟨[], [], .bi .add (.e 3) (.c (.n 1))⟩, ⟨[], [], .nop⟩] [some 0, none, some 2, some 6, none, none])))))))))
 ((.seq (.reg [⟨[], [], .nop⟩, ⟨[], [], .nop⟩] [none, some 2, none, none, none, none])
 (.ret))))))))⟩

/-- loop.example/g03401/spec.IsPartition -/
def ir_spec_IsPartition : IF := ⟨[], 1, 7, [1],
 (.seq (.reg [⟨[], [], .cs .v (.b false)⟩] [some 0, none, none, none, none, none, none])
 ((.seq (.reg [⟨[], [], .cs .v (.n 0)⟩] [some 0, none, some 7, none, none, none, none])
 ((.seq ((.seq (.reg [⟨[], [], .cs .v (.n 0)⟩] [some 0, none, some 2, some 7, none, none, none])
 (.block 0 (.loop ((.seq ((.seq (.reg [⟨[], [], .nop⟩, ⟨[], [], .nop⟩, ⟨[], [], .ln (.e 0) []⟩, ⟨[], [], .bi .lss (.e 3) (.e 7)⟩] [some 0, none, some 2, some 3, some 8, none, none])
   (.cond 4 (.skip) (.exit 0))))
   ((.seq (.block 1 ((.seq ((.seq (.reg [⟨[], [], .nop⟩, ⟨[], [], .nop⟩, ⟨[], [], .iy (.e 0) (.e 3)⟩, ⟨[], [], .nop⟩, ⟨[], [], .nop⟩, ⟨[], [], .ca 22 [(.e 7), (.c (.n 0)), (.e 2)] 1⟩, ⟨[], [], .un .not (.e 8)⟩] [some 0, none, some 2, some 3, none, some 9, none])
    (.cond 5 ((.seq (.reg [⟨[], [], .cs .v (.b false)⟩] [none, some 7, none, none, none, none, none])
     (.ret))) (.skip))))
    ((.seq (.reg [⟨[], [], .nop⟩, ⟨[], [], .nop⟩, ⟨[], [], .iy (.e 0) (.e 3)⟩, ⟨[], [], .nop⟩, ⟨[], [], .nop⟩, ⟨[], [], .bi .eql (.e 7) (.e 2)⟩] [some 0, none, some 2, some 3, none, none, some 8])
    (.cond 6 (.reg [⟨[], [], .nop⟩, ⟨[], [], .bi .add (.e 2) (.c (.n 1))⟩, ⟨[], [], .nop⟩] [some 0, none, some 7, some 3, none, none, none]) (.skip)))))))
   (.reg [⟨[], [], .nop⟩, ⟨[], [], .bi .add (.e 3) (.c (.n 1))⟩, ⟨[], [], .nop⟩] [some 0, none, some 2, some 7, none, none, none])))))))))
 ((.seq (.reg [⟨[], [], .nop⟩, ⟨[], [], .ln (.e 0) []⟩, ⟨[], [], .bi .leq (.e 7) (.c (.n 8))⟩, ⟨[], [], .nop⟩] [none, some 8, none, none, none, none, none])
 (.ret))))))))⟩

/-- loop.example/g03401/spec.PartitionOf -/
def ir_spec_PartitionOf : IF := ⟨[], 1, 12, [1, 2],
 (.seq (.reg [⟨[], [], .cs (.o .v) (.l [])⟩, ⟨[], [], .cs .v (.b false)⟩] [some 0, none, none, none, none, none, none, none, none, none, none, none])
 ((.seq ((.seq (.reg [⟨[], [], .nop⟩, ⟨[], [], .ca 64 [(.e 0)] 1⟩, ⟨[], [], .un .not (.e 12)⟩] [some 0, none, none, none, none, none, none, none, some 13, none, none, none])
 (.cond 8 ((.seq (.reg [⟨[], [], .li (.o .v) []⟩, ⟨[], [], .nop⟩, ⟨[], [], .cs .v (.b false)⟩] [none, some 12, some 13, none, none, none, none, none, none, none, none, none])
  (.ret))) (.skip))))
 ((.seq (.reg [⟨[], [], .nop⟩, ⟨[], [], .sn (.e 0)⟩, ⟨[], [], .bi .quo (.e 12) (.c (.n 2))⟩, ⟨[], [], .mk (.n 0) (.e 13) (.e 13)⟩, ⟨[], [], .nop⟩] [some 0, none, none, some 14, none, none, none, none, none, none, none, none])
 ((.seq (.reg [⟨[], [], .li (.o .v) []⟩, ⟨[], [], .nop⟩] [some 0, none, none, some 3, some 12, none, none, none, none, none, none, none])
 ((.seq (.reg [⟨[], [], .cs .v (.n 0)⟩] [some 0, none, none, some 3, some 4, some 12, none, none, none, none, none, none])
 ((.seq (.reg [⟨[], [], .cs .v (.n 0)⟩] [some 0, none, none, some 3, some 4, some 5, some 12, none, none, none, none, none])
 ((.seq ((.seq (.reg [⟨[], [], .cs .v (.n 0)⟩] [some 0, none, none, some 3, some 4, some 5, some 6, some 12, none, none, none, none])
 (.block 0 (.loop ((.seq ((.seq (.reg [⟨[], [], .nop⟩, ⟨[], [], .nop⟩, ⟨[], [], .sn (.e 0)⟩, ⟨[], [], .bi .lss (.e 7) (.e 12)⟩] [some 0, none, none, some 3, some 4, some 5, some 6, some 7, none, some 13, none, none])
   (.cond 9 (.skip) (.exit 0))))
   ((.seq (.block 1 ((.seq ((.seq (.reg [⟨[], [], .nop⟩, ⟨[], [], .nop⟩, ⟨[], [], .sx (.e 0) (.e 7)⟩, ⟨[], [], .bi .eql (.e 12) (.c (.y 117))⟩] [some 0, none, none, some 3, some 4, some 5, some 6, some 7, none, none, some 13, none])
    (.cond 10 ((.seq (.reg [⟨[], [], .nop⟩, ⟨[], [], .nop⟩, ⟨[], [], .li (.o .v) [(.e 5)]⟩, ⟨[], [], .ap false (.e 4) (.e 12)⟩, ⟨[], [], .nop⟩] [some 0, none, none, some 3, some 13, some 5, some 6, some 7, none, none, none, none])
     ((.seq (.reg [⟨[], [], .nop⟩, ⟨[], [], .bi .add (.e 5) (.c (.n 1))⟩, ⟨[], [], .nop⟩] [some 0, none, none, some 3, some 4, some 12, some 6, some 7, none, none, none, none])
     (.exit 1))))) (.skip))))
    ((.seq (.reg [⟨[], [], .nop⟩, ⟨[], [], .nop⟩, ⟨[], [], .nop⟩, ⟨[], [], .ln (.e 4) []⟩, ⟨[], [], .bi .sub (.e 12) (.c (.n 1))⟩, ⟨[], [], .ix (.e 4) [] (.e 13)⟩, ⟨[], [], .nop⟩, ⟨[], [], .nop⟩, ⟨[], [], .ix (.e 3) [] (.e 14)⟩, ⟨[], [], .up 3 [.e 14] (.e 6)⟩] [some 0, none, none, some 16, some 4, some 5, some 6, some 7, none, none, none, none])
    ((.seq (.reg [⟨[], [], .nop⟩, ⟨[], [], .nop⟩, ⟨[], [], .ln (.e 4) []⟩, ⟨[], [], .bi .sub (.e 12) (.c (.n 1))⟩, ⟨[], [], .sb true (.e 4) none (some (.e 13))⟩, ⟨[], [], .nop⟩] [some 0, none, none, some 3, some 14, some 5, some 6, some 7, none, none, none, none])
    ((.seq (.reg [⟨[], [], .nop⟩, ⟨[], [], .bi .add (.e 7) (.c (.n 1))⟩, ⟨[], [], .nop⟩, ⟨[], [], .sn (.e 0)⟩, ⟨[], [], .bi .eql (.e 12) (.e 13)⟩, ⟨[], [], .nop⟩, ⟨[], [(14, false)], .cy (.e 0)⟩, ⟨[], [(14, false)], .cy (.e 7)⟩, ⟨[], [(14, false)], .bi .add (.e 16) (.c (.n 1))⟩, ⟨[], [(14, false)], .sx (.e 15) (.e 17)⟩, ⟨[], [(14, false)], .bi .eql (.e 18) (.c (.y 117))⟩, ⟨[], [], .pk (.e 14) (.c (.b true)) (.e 19)⟩] [some 0, none, none, some 3, some 4, some 5, some 6, some 7, none, none, none, some 20])
    (.cond 11 (.reg [⟨[], [], .nop⟩, ⟨[], [], .bi .add (.e 6) (.c (.n 1))⟩, ⟨[], [], .nop⟩] [some 0, none, none, some 3, some 4, some 5, some 12, some 7, none, none, none, none]) (.skip)))))))))))
   (.reg [⟨[], [], .nop⟩, ⟨[], [], .bi .add (.e 7) (.c (.n 1))⟩, ⟨[], [], .nop⟩] [some 0, none, none, some 3, some 4, some 5, some 6, some 12, none, none, none, none])))))))))
 ((.seq (.reg [⟨[], [], .nop⟩, ⟨[], [], .ca 323 [(.e 3)] 1⟩, ⟨[], [], .nop⟩, ⟨[], [], .cs .v (.b true)⟩] [none, some 12, some 13, none, none, none, none, none, none, none, none, none])
 (.ret))))))))))))))))⟩

/-- loop.example/g03401/spec.l8Renumber -/
def ir_spec_l8Renumber : IF := ⟨[], 1, 11, [1],
 (.seq (.reg [⟨[], [], .cs (.o .v) (.l [])⟩] [some 0, none, none, none, none, none, none, none, none, none, none])
 ((.seq (.reg [⟨[], [], .li (.o .v) []⟩, ⟨[], [], .nop⟩] [some 0, none, some 11, none, none, none, none, none, none, none, none])
 ((.seq (.reg [⟨[], [], .li (.o .v) []⟩, ⟨[], [], .nop⟩] [some 0, none, some 2, some 11, none, none, none, none, none, none, none])
 ((.seq ((.seq (.reg [⟨[], [], .cs .v (.n 0)⟩] [some 0, none, some 2, some 3, some 11, none, none, none, none, none, none])
 (.block 0 (.loop ((.seq ((.seq (.reg [⟨[], [], .nop⟩, ⟨[], [], .nop⟩, ⟨[], [], .ln (.e 0) []⟩, ⟨[], [], .bi .lss (.e 4) (.e 11)⟩] [some 0, none, some 2, some 3, some 4, none, none, some 12, none, none, none])
   (.cond 7 (.skip) (.exit 0))))
   ((.seq (.block 1 ((.seq (.reg [⟨[], [], .cs .v (.n (-1))⟩] [some 0, none, some 2, some 3, some 4, some 11, none, none, none, none, none])
    ((.seq ((.seq (.reg [⟨[], [], .cs .v (.n 0)⟩] [some 0, none, some 2, some 3, some 4, some 5, some 11, none, none, none, none])
    (.block 2 (.loop ((.seq ((.seq (.reg [⟨[], [], .nop⟩, ⟨[], [], .nop⟩, ⟨[], [], .ln (.e 3) []⟩, ⟨[], [], .bi .lss (.e 6) (.e 11)⟩] [some 0, none, some 2, some 3, some 4, some 5, some 6, none, some 12, none, none])
      (.cond 8 (.skip) (.exit 2))))
      ((.seq (.block 3 ((.seq (.reg [⟨[], [], .nop⟩, ⟨[], [], .nop⟩, ⟨[], [], .ix (.e 3) [] (.e 6)⟩, ⟨[], [], .nop⟩, ⟨[], [], .nop⟩, ⟨[], [], .nop⟩, ⟨[], [], .iy (.e 0) (.e 4)⟩, ⟨[], [], .nop⟩, ⟨[], [], .bi .eql (.e 11) (.e 12)⟩] [some 0, none, some 2, some 3, some 4, some 5, some 6, none, none, some 13, none])
       (.cond 9 (.reg [⟨[], [], .nop⟩, ⟨[], [], .nop⟩] [some 0, none, some 2, some 3, some 4, some 6, some 6, none, none, none, none]) (.skip)))))
      (.reg [⟨[], [], .nop⟩, ⟨[], [], .bi .add (.e 6) (.c (.n 1))⟩, ⟨[], [], .nop⟩] [some 0, none, some 2, some 3, some 4, some 5, some 11, none, none, none, none])))))))))
    ((.seq ((.seq (.reg [⟨[], [], .nop⟩, ⟨[], [], .bi .lss (.e 5) (.c (.n 0))⟩] [some 0, none, some 2, some 3, some 4, some 5, none, none, none, none, some 11])
    (.cond 10 ((.seq (.reg [⟨[], [], .nop⟩, ⟨[], [], .ln (.e 3) []⟩, ⟨[], [], .nop⟩] [some 0, none, some 2, some 3, some 4, some 11, none, none, none, none, none])
     (.reg [⟨[], [], .nop⟩, ⟨[], [], .nop⟩, ⟨[], [], .nop⟩, ⟨[], [], .iy (.e 0) (.e 4)⟩, ⟨[], [], .nop⟩, ⟨[], [], .li (.o .v) [(.e 11)]⟩, ⟨[], [], .ap false (.e 3) (.e 12)⟩, ⟨[], [], .nop⟩] [some 0, none, some 2, some 13, some 4, some 5, none, none, none, none, none]))) (.skip))))
    (.reg [⟨[], [], .nop⟩, ⟨[], [], .nop⟩, ⟨[], [], .li (.o .v) [(.e 5)]⟩, ⟨[], [], .ap false (.e 2) (.e 11)⟩, ⟨[], [], .nop⟩] [some 0, none, some 12, some 3, some 4, none, none, none, none, none, none]))))))))
   (.reg [⟨[], [], .nop⟩, ⟨[], [], .bi .add (.e 4) (.c (.n 1))⟩, ⟨[], [], .nop⟩] [some 0, none, some 2, some 3, some 11, none, none, none, none, none, none])))))))))
 ((.seq (.reg [⟨[], [], .nop⟩, ⟨[], [], .nop⟩] [none, some 2, none, none, none, none, none, none, none, none, none])
 (.ret))))))))))⟩

end Go.Cat

namespace Go.Cat
/-- loop.example/g03401/spec.MajorOf -/
def ir_spec_MajorOf : IF := ⟨[], 1, 7, [1],
 (.seq (.reg [⟨[], [], .cs .v (.n 0)⟩] [some 0, none, none, none, none, none, none])
 ((.seq ((.seq (.reg [⟨[], [], .nop⟩, ⟨[], [], .ca 64 [(.e 0)] 1⟩, ⟨[], [], .un .not (.e 7)⟩] [some 0, none, none, none, some 8, none, none])
 (.cond 4 ((.seq (.reg [⟨[], [], .cs .v (.n (-1))⟩] [none, some 7, none, none, none, none, none])
  (.ret))) (.skip))))
 ((.seq (.reg [⟨[], [], .cs .v (.n 0)⟩] [some 0, none, some 7, none, none, none, none])
 ((.seq ((.seq (.reg [⟨[], [], .cs .v (.n 1)⟩] [some 0, none, some 2, some 7, none, none, none])
 (.block 0 (.loop ((.seq ((.seq (.reg [⟨[], [], .nop⟩, ⟨[], [], .nop⟩, ⟨[], [], .sn (.e 0)⟩, ⟨[], [], .bi .lss (.e 3) (.e 7)⟩] [some 0, none, some 2, some 3, none, some 8, none])
   (.cond 5 (.skip) (.exit 0))))
   ((.seq (.block 1 ((.seq (.reg [⟨[], [], .nop⟩, ⟨[], [], .nop⟩, ⟨[], [], .bi .sub (.e 3) (.c (.n 1))⟩, ⟨[], [], .sx (.e 0) (.e 7)⟩, ⟨[], [], .bi .eql (.e 8) (.c (.y 100))⟩, ⟨[], [], .nop⟩, ⟨[], [(9, true)], .cy (.e 0)⟩, ⟨[], [(9, true)], .cy (.e 3)⟩, ⟨[], [(9, true)], .sx (.e 10) (.e 11)⟩, ⟨[], [(9, true)], .bi .eql (.e 12) (.c (.y 117))⟩, ⟨[], [], .pk (.e 9) (.e 13) (.c (.b false))⟩] [some 0, none, some 2, some 3, none, none, some 14])
    (.cond 6 (.reg [⟨[], [], .nop⟩, ⟨[], [], .nop⟩, ⟨[], [], .bi .add (.e 2) (.e 3)⟩, ⟨[], [], .nop⟩] [some 0, none, some 7, some 3, none, none, none]) (.skip)))))
   (.reg [⟨[], [], .nop⟩, ⟨[], [], .bi .add (.e 3) (.c (.n 1))⟩, ⟨[], [], .nop⟩] [some 0, none, some 2, some 7, none, none, none])))))))))
 ((.seq (.reg [⟨[], [], .nop⟩, ⟨[], [], .nop⟩] [none, some 2, none, none, none, none, none])
 (.ret))))))))))⟩

end Go.Cat

namespace Go.Cat
/-- loop.example/g03401/spec.DistributionOf -/
def ir_spec_DistributionOf : IF := ⟨[], 2, 11, [2, 3],
 (.seq (.reg [⟨[], [], .cs (.o .v) (.l [])⟩, ⟨[], [], .cs .v (.b false)⟩] [some 0, some 1, none, none, none, none, none, none, none, none, none])
 ((.seq (.reg [⟨[], [], .li (.o .v) []⟩, ⟨[], [], .nop⟩] [some 0, some 1, none, none, some 11, none, none, none, none, none, none])
 ((.seq (.reg [⟨[], [], .nop⟩, ⟨[], [], .ca 234 [(.e 1)] 1⟩, ⟨[], [], .nop⟩] [some 0, none, none, none, some 4, some 11, none, none, none, none, none])
 ((.seq ((.seq (.reg [⟨[], [], .nop⟩, ⟨[], [], .ln (.e 5) []⟩, ⟨[], [], .bi .eql (.e 11) (.c (.n 0))⟩, ⟨[], [], .nop⟩, ⟨[], [(12, false)], .cy (.e 0)⟩, ⟨[], [(12, false)], .ca 235 [(.e 13), (.c (.s []))] 1⟩, ⟨[], [(12, false)], .bi .lss (.e 14) (.c (.n 0))⟩, ⟨[], [], .pk (.e 12) (.c (.b true)) (.e 15)⟩] [some 0, none, none, none, some 4, some 5, none, none, some 16, none, none])
 (.cond 8 ((.seq (.reg [⟨[], [], .nop⟩, ⟨[], [], .nop⟩, ⟨[], [], .cs .v (.b false)⟩] [none, none, some 4, some 11, none, none, none, none, none, none, none])
  (.ret))) (.skip))))
 ((.seq ((.seq (.reg [⟨[], [], .cs .v (.n 0)⟩] [some 0, none, none, none, some 4, some 5, some 11, none, none, none, none])
 (.block 0 (.loop ((.seq ((.seq (.reg [⟨[], [], .nop⟩, ⟨[], [], .nop⟩, ⟨[], [], .ln (.e 5) []⟩, ⟨[], [], .bi .lss (.e 6) (.e 11)⟩] [some 0, none, none, none, some 4, some 5, some 6, none, none, some 12, none])
   (.cond 9 (.skip) (.exit 0))))
   ((.seq (.block 1 ((.seq (.reg [⟨[], [], .nop⟩, ⟨[], [], .nop⟩, ⟨[], [], .nop⟩, ⟨[], [], .ix (.e 5) [] (.e 6)⟩, ⟨[], [], .nop⟩, ⟨[], [], .ca 235 [(.e 0), (.e 11)] 1⟩, ⟨[], [], .nop⟩] [some 0, none, none, none, some 4, some 5, some 6, some 12, none, none, none])
    ((.seq (.block 2 (.loop ((.seq ((.seq (.reg [⟨[], [], .nop⟩, ⟨[], [], .ln (.e 4) []⟩, ⟨[], [], .nop⟩, ⟨[], [], .bi .leq (.e 11) (.e 7)⟩] [some 0, none, none, none, some 4, some 5, some 6, some 7, none, none, some 12])
      (.cond 10 (.skip) (.exit 2))))
      (.block 3 (.reg [⟨[], [], .nop⟩, ⟨[], [], .li (.o .v) [(.c (.n 0))]⟩, ⟨[], [], .ap false (.e 4) (.e 11)⟩, ⟨[], [], .nop⟩] [some 0, none, none, none, some 12, some 5, some 6, some 7, none, none, none]))))))
    (.reg [⟨[], [], .nop⟩, ⟨[], [], .nop⟩, ⟨[], [], .nop⟩, ⟨[], [], .nop⟩, ⟨[], [], .ix (.e 4) [] (.e 7)⟩, ⟨[], [], .nop⟩, ⟨[], [], .bi .add (.e 11) (.c (.n 1))⟩, ⟨[], [], .ix (.e 4) [] (.e 7)⟩, ⟨[], [], .up 4 [.e 7] (.e 12)⟩] [some 0, none, none, none, some 14, some 5, some 6, none, none, none, none]))))))
   (.reg [⟨[], [], .nop⟩, ⟨[], [], .bi .add (.e 6) (.c (.n 1))⟩, ⟨[], [], .nop⟩] [some 0, none, none, none, some 4, some 5, some 11, none, none, none, none])))))))))
 ((.seq (.reg [⟨[], [], .nop⟩, ⟨[], [], .nop⟩, ⟨[], [], .cs .v (.b true)⟩] [none, none, some 4, some 11, none, none, none, none, none, none, none])
 (.ret))))))))))))⟩

/-- loop.example/g03401/spec.StatisticOf -/
def ir_spec_StatisticOf : IF := ⟨[], 2, 17, [2],
 (.seq (.reg [⟨[], [], .cs .v (.n 0)⟩] [some 0, some 1, none, none, none, none, none, none, none, none, none, none, none, none, none, none, none])
 ((.seq ((.seq (.reg [⟨[], [], .nop⟩, ⟨[], [], .ca 64 [(.e 1)] 1⟩, ⟨[], [], .un .not (.e 17)⟩] [some 0, some 1, none, none, none, none, some 18, none, none, none, none, none, none, none, none, none, none])
 (.cond 6 ((.seq (.reg [⟨[], [], .cs .v (.n (-1))⟩] [none, none, some 17, none, none, none, none, none, none, none, none, none, none, none, none, none, none])
  (.ret))) (.skip))))
 ((.seq ((.seq (.reg [⟨[], [], .nop⟩] [none, some 1, none, none, none, none, none, some 0, none, none, none, none, none, none, none, none, none])
 (.block 0 ((.seq (.reg [⟨[], [], .bi .eql (.e 7) (.c (.s [112, 101, 97, 107, 115]))⟩, ⟨[], [], .nop⟩] [none, some 1, none, none, none, none, none, some 7, some 17, none, none, none, none, none, none, none, none])
  (.cond 8 ((.seq (.reg [⟨[], [], .nop⟩, ⟨[], [], .ca 293 [(.e 1)] 1⟩, ⟨[], [], .nop⟩] [none, none, some 17, none, none, none, none, none, none, none, none, none, none, none, none, none, none])
   (.ret))) ((.seq (.reg [⟨[], [], .bi .eql (.e 7) (.c (.s [114, 101, 116, 117, 114, 110, 115]))⟩, ⟨[], [], .nop⟩] [none, some 1, none, none, none, none, none, some 7, none, some 17, none, none, none, none, none, none, none])
   (.cond 9 ((.seq (.reg [⟨[], [], .nop⟩, ⟨[], [], .ca 294 [(.e 1)] 1⟩, ⟨[], [], .nop⟩] [none, none, some 17, none, none, none, none, none, none, none, none, none, none, none, none, none, none])
    (.ret))) ((.seq (.reg [⟨[], [], .bi .eql (.e 7) (.c (.s [114, 105, 115, 101]))⟩, ⟨[], [], .nop⟩] [none, some 1, none, none, none, none, none, some 7, none, none, some 17, none, none, none, none, none, none])
    (.cond 10 ((.seq (.reg [⟨[], [], .nop⟩, ⟨[], [], .ca 295 [(.e 1), (.c (.b false))] 1⟩, ⟨[], [], .nop⟩] [none, none, some 17, none, none, none, none, none, none, none, none, none, none, none, none, none, none])
     (.ret))) ((.seq (.reg [⟨[], [], .bi .eql (.e 7) (.c (.s [102, 97, 108, 108]))⟩, ⟨[], [], .nop⟩] [none, some 1, none, none, none, none, none, some 7, none, none, none, some 17, none, none, none, none, none])
     (.cond 11 ((.seq (.reg [⟨[], [], .nop⟩, ⟨[], [], .ca 295 [(.e 1), (.c (.b true))] 1⟩, ⟨[], [], .nop⟩] [none, none, some 17, none, none, none, none, none, none, none, none, none, none, none, none, none, none])
      (.ret))) ((.seq (.reg [⟨[], [], .bi .eql (.e 7) (.c (.s [97, 114, 101, 97]))⟩, ⟨[], [], .nop⟩] [none, some 1, none, none, none, none, none, some 7, none, none, none, none, some 17, none, none, none, none])
      (.cond 12 ((.seq (.reg [⟨[], [], .nop⟩, ⟨[], [], .ca 296 [(.e 1)] 1⟩, ⟨[], [], .nop⟩] [none, none, some 17, none, none, none, none, none, none, none, none, none, none, none, none, none, none])
       (.ret))) ((.seq (.reg [⟨[], [], .bi .eql (.e 7) (.c (.s [100, 101, 112, 116, 104]))⟩, ⟨[], [], .nop⟩] [none, some 1, none, none, none, none, none, some 7, none, none, none, none, none, some 17, none, none, none])
       (.cond 13 ((.seq (.reg [⟨[], [], .nop⟩, ⟨[], [], .ca 297 [(.e 1)] 2⟩, ⟨[], [], .nop⟩, ⟨[], [], .nop⟩, ⟨[], [], .nop⟩, ⟨[], [], .nop⟩, ⟨[], [], .nop⟩] [none, none, none, some 17, none, none, none, none, none, none, none, none, none, none, none, none, none])
        ((.seq (.reg [⟨[], [], .nop⟩, ⟨[], [], .ca 298 [(.e 3)] 1⟩, ⟨[], [], .nop⟩] [none, none, some 17, none, none, none, none, none, none, none, none, none, none, none, none, none, none])
        (.ret))))) ((.seq (.reg [⟨[], [], .bi .eql (.e 7) (.c (.s [108, 101, 97, 118, 101, 115]))⟩, ⟨[], [], .nop⟩] [none, some 1, none, none, none, none, none, some 7, none, none, none, none, none, none, some 17, none, none])
        (.cond 14 ((.seq (.reg [⟨[], [], .nop⟩, ⟨[], [], .ca 299 [(.e 1)] 2⟩, ⟨[], [], .nop⟩, ⟨[], [], .nop⟩, ⟨[], [], .nop⟩, ⟨[], [], .nop⟩, ⟨[], [], .nop⟩] [none, none, none, none, some 17, none, none, none, none, none, none, none, none, none, none, none, none])
         ((.seq (.reg [⟨[], [], .nop⟩, ⟨[], [], .ca 300 [(.e 4)] 1⟩, ⟨[], [], .nop⟩] [none, none, some 17, none, none, none, none, none, none, none, none, none, none, none, none, none, none])
         (.ret))))) ((.seq (.reg [⟨[], [], .bi .eql (.e 7) (.c (.s [98, 108, 111, 99, 107, 115]))⟩, ⟨[], [], .nop⟩] [none, some 1, none, none, none, none, none, some 7, none, none, none, none, none, none, none, some 17, none])
         (.cond 15 ((.seq (.reg [⟨[], [], .nop⟩, ⟨[], [], .ca 301 [(.e 1)] 2⟩, ⟨[], [], .nop⟩, ⟨[], [], .nop⟩, ⟨[], [], .nop⟩, ⟨[], [], .nop⟩, ⟨[], [], .nop⟩] [none, none, none, none, none, some 17, none, none, none, none, none, none, none, none, none, none, none])
          ((.seq (.reg [⟨[], [], .nop⟩, ⟨[], [], .ca 302 [(.e 5)] 1⟩, ⟨[], [], .ln (.e 17) []⟩, ⟨[], [], .nop⟩] [none, none, some 18, none, none, none, none, none, none, none, none, none, none, none, none, none, none])
          (.ret))))) ((.seq (.reg [⟨[], [], .bi .eql (.e 7) (.c (.s [109, 97, 106, 111, 114]))⟩, ⟨[], [], .nop⟩] [none, some 1, none, none, none, none, none, none, none, none, none, none, none, none, none, none, some 17])
          (.cond 16 ((.seq (.reg [⟨[], [], .nop⟩, ⟨[], [], .ca 303 [(.e 1)] 1⟩, ⟨[], [], .nop⟩] [none, none, some 17, none, none, none, none, none, none, none, none, none, none, none, none, none, none])
           (.ret))) (.skip)))))))))))))))))))))))))))))))
 ((.seq (.reg [⟨[], [], .cs .v (.n (-1))⟩] [none, none, some 17, none, none, none, none, none, none, none, none, none, none, none, none, none, none])
 (.ret))))))))⟩

/-- loop.example/g03401/spec.l13Run -/
def ir_spec_l13Run : IF := ⟨[], 2, 5, [2],
 (.seq (.reg [⟨[], [], .cs .v (.n 0)⟩] [some 0, some 1, none, none, none])
 ((.seq (.reg [⟨[], [], .cs .v (.n 0)⟩] [some 0, some 1, none, some 5, none])
 ((.seq (.block 0 (.loop ((.seq ((.seq (.reg [⟨[], [], .nop⟩, ⟨[], [], .nop⟩, ⟨[], [], .sn (.e 0)⟩, ⟨[], [], .bi .lss (.e 3) (.e 5)⟩, ⟨[], [], .nop⟩, ⟨[], [(6, true)], .cy (.e 1)⟩, ⟨[], [(6, true)], .un .not (.e 7)⟩, ⟨[], [(6, true)], .cy (.e 8)⟩, ⟨[], [(6, true), (9, true)], .cy (.e 0)⟩, ⟨[], [(6, true), (9, true)], .cy (.e 3)⟩, ⟨[], [(6, true), (9, true)], .sx (.e 10) (.e 11)⟩, ⟨[], [(6, true), (9, true)], .bi .eql (.e 12) (.c (.y 117))⟩, ⟨[], [(6, true)], .pk (.e 9) (.e 13) (.c (.b false))⟩, ⟨[], [(6, true)], .cy (.e 14)⟩, ⟨[], [(6, true), (15, false)], .cy (.e 1)⟩, ⟨[], [(6, true), (15, false)], .cy (.e 16)⟩, ⟨[], [(6, true), (15, false), (17, true)], .cy (.e 0)⟩, ⟨[], [(6, true), (15, false), (17, true)], .cy (.e 0)⟩, ⟨[], [(6, true), (15, false), (17, true)], .sn (.e 19)⟩, ⟨[], [(6, true), (15, false), (17, true)], .bi .sub (.e 20) (.c (.n 1))⟩, ⟨[], [(6, true), (15, false), (17, true)], .cy (.e 3)⟩, ⟨[], [(6, true), (15, false), (17, true)], .bi .sub (.e 21) (.e 22)⟩, ⟨[], [(6, true), (15, false), (17, true)], .sx (.e 18) (.e 23)⟩, ⟨[], [(6, true), (15, false), (17, true)], .bi .eql (.e 24) (.c (.y 100))⟩, ⟨[], [(6, true), (15, false)], .pk (.e 17) (.e 25) (.c (.b false))⟩, ⟨[], [(6, true)], .pk (.e 15) (.c (.b true)) (.e 26)⟩, ⟨[], [], .pk (.e 6) (.e 27) (.c (.b false))⟩] [some 0, some 1, none, some 3, some 28])
   (.cond 4 (.skip) (.exit 0))))
   (.block 1 (.reg [⟨[], [], .nop⟩, ⟨[], [], .bi .add (.e 3) (.c (.n 1))⟩, ⟨[], [], .nop⟩] [some 0, some 1, none, some 5, none]))))))
 ((.seq (.reg [⟨[], [], .nop⟩, ⟨[], [], .nop⟩] [none, none, some 3, none, none])
 (.ret))))))))⟩

end Go.Cat

namespace Go.Cat
/-- loop.example/g03401/spec.AddPolynomials -/
def ir_spec_AddPolynomials : IF := ⟨[], 2, 12, [2, 3],
 (.seq (.reg [⟨[], [], .cs (.o .v) (.l [])⟩, ⟨[], [], .cs .v (.b false)⟩] [some 0, some 1, none, none, none, none, none, none, none, none, none, none])
 ((.seq ((.seq (.reg [⟨[], [], .nop⟩, ⟨[], [], .ca 429 [(.e 0)] 1⟩, ⟨[], [], .un .not (.e 12)⟩, ⟨[], [], .nop⟩, ⟨[], [(13, false)], .nop⟩, ⟨[], [(13, false)], .ca 429 [(.e 1)] 1⟩, ⟨[], [(13, false)], .un .not (.e 14)⟩, ⟨[], [], .pk (.e 13) (.c (.b true)) (.e 15)⟩] [some 0, some 1, none, none, none, none, none, none, some 16, none, none, none])
 (.cond 8 ((.seq (.reg [⟨[], [], .li (.o .v) []⟩, ⟨[], [], .nop⟩, ⟨[], [], .cs .v (.b false)⟩] [none, none, some 12, some 13, none, none, none, none, none, none, none, none])
  (.ret))) (.skip))))
 ((.seq (.reg [⟨[], [], .nop⟩, ⟨[], [], .ln (.e 0) []⟩, ⟨[], [], .nop⟩, ⟨[], [], .ln (.e 1) []⟩, ⟨[], [], .mx (.e 12) (.e 13)⟩, ⟨[], [], .mk (.n 0) (.e 14) (.e 14)⟩, ⟨[], [], .nop⟩] [some 0, some 1, none, none, some 15, none, none, none, none, none, none, none])
 ((.seq ((.seq (.reg [⟨[], [], .cs .v (.n 0)⟩] [some 0, some 1, none, none, some 4, some 12, none, none, none, none, none, none])
 (.block 0 (.loop ((.seq ((.seq (.reg [⟨[], [], .nop⟩, ⟨[], [], .nop⟩, ⟨[], [], .ln (.e 0) []⟩, ⟨[], [], .bi .lss (.e 5) (.e 12)⟩] [some 0, some 1, none, none, some 4, some 5, none, none, none, some 13, none, none])
   (.cond 9 (.skip) (.exit 0))))
   ((.seq (.block 1 (.reg [⟨[], [], .nop⟩, ⟨[], [], .nop⟩, ⟨[], [], .nop⟩, ⟨[], [], .nop⟩, ⟨[], [], .ix (.e 4) [] (.e 5)⟩, ⟨[], [], .nop⟩, ⟨[], [], .nop⟩, ⟨[], [], .nop⟩, ⟨[], [], .iy (.e 0) (.e 5)⟩, ⟨[], [], .nop⟩, ⟨[], [], .bi .add (.e 12) (.e 13)⟩, ⟨[], [], .ix (.e 4) [] (.e 5)⟩, ⟨[], [], .up 4 [.e 5] (.e 14)⟩] [some 0, some 1, none, none, some 16, some 5, none, none, none, none, none, none]))
   (.reg [⟨[], [], .nop⟩, ⟨[], [], .bi .add (.e 5) (.c (.n 1))⟩, ⟨[], [], .nop⟩] [some 0, some 1, none, none, some 4, some 12, none, none, none, none, none, none])))))))))
 ((.seq ((.seq (.reg [⟨[], [], .cs .v (.n 0)⟩] [none, some 1, none, none, some 4, none, some 12, none, none, none, none, none])
 (.block 2 (.loop ((.seq ((.seq (.reg [⟨[], [], .nop⟩, ⟨[], [], .nop⟩, ⟨[], [], .ln (.e 1) []⟩, ⟨[], [], .bi .lss (.e 6) (.e 12)⟩] [none, some 1, none, none, some 4, none, some 6, none, none, none, some 13, none])
   (.cond 10 (.skip) (.exit 2))))
   ((.seq (.block 3 (.reg [⟨[], [], .nop⟩, ⟨[], [], .nop⟩, ⟨[], [], .nop⟩, ⟨[], [], .nop⟩, ⟨[], [], .ix (.e 4) [] (.e 6)⟩, ⟨[], [], .nop⟩, ⟨[], [], .nop⟩, ⟨[], [], .nop⟩, ⟨[], [], .iy (.e 1) (.e 6)⟩, ⟨[], [], .nop⟩, ⟨[], [], .bi .add (.e 12) (.e 13)⟩, ⟨[], [], .ix (.e 4) [] (.e 6)⟩, ⟨[], [], .up 4 [.e 6] (.e 14)⟩] [none, some 1, none, none, some 16, none, some 6, none, none, none, none, none]))
   (.reg [⟨[], [], .nop⟩, ⟨[], [], .bi .add (.e 6) (.c (.n 1))⟩, ⟨[], [], .nop⟩] [none, some 1, none, none, some 4, none, some 12, none, none, none, none, none])))))))))
 ((.seq (.reg [⟨[], [], .nop⟩, ⟨[], [], .ca 463 [(.e 4)] 1⟩, ⟨[], [], .nop⟩] [none, none, none, none, none, none, none, some 12, none, none, none, none])
 ((.seq ((.seq (.reg [⟨[], [], .nop⟩, ⟨[], [], .ca 429 [(.e 7)] 1⟩, ⟨[], [], .un .not (.e 12)⟩] [none, none, none, none, none, none, none, some 7, none, none, none, some 13])
 (.cond 11 ((.seq (.reg [⟨[], [], .li (.o .v) []⟩, ⟨[], [], .nop⟩, ⟨[], [], .cs .v (.b false)⟩] [none, none, some 12, some 13, none, none, none, none, none, none, none, none])
  (.ret))) (.skip))))
 ((.seq (.reg [⟨[], [], .nop⟩, ⟨[], [], .nop⟩, ⟨[], [], .cs .v (.b true)⟩] [none, none, some 7, some 12, none, none, none, none, none, none, none, none])
 (.ret))))))))))))))))⟩

/-- loop.example/g03401/spec.AreaPolynomial -/
def ir_spec_AreaPolynomial : IF := ⟨[], 1, 14, [1, 2],
 (.seq (.reg [⟨[], [], .cs .v (.l [])⟩, ⟨[], [], .cs .v (.b false)⟩] [some 0, none, none, none, none, none, none, none, none, none, none, none, none, none])
 ((.seq ((.seq (.reg [⟨[], [], .nop⟩, ⟨[], [], .ca 22 [(.e 0), (.c (.n 0)), (.c (.n 8))] 1⟩, ⟨[], [], .un .not (.e 14)⟩] [some 0, none, none, none, none, none, none, none, none, some 15, none, none, none, none])
 (.cond 9 ((.seq (.reg [⟨[], [], .li (.o .v) []⟩, ⟨[], [], .nop⟩, ⟨[], [], .cs .v (.b false)⟩] [none, some 14, some 15, none, none, none, none, none, none, none, none, none, none, none])
  (.ret))) (.skip))))
 ((.seq (.reg [⟨[], [], .li (.o .v) [(.c (.n 1))]⟩, ⟨[], [], .li (.o .v) [(.e 14)]⟩, ⟨[], [], .nop⟩] [some 0, none, none, some 15, none, none, none, none, none, none, none, none, none, none])
 ((.seq ((.seq (.reg [⟨[], [], .cs .v (.n 1)⟩] [some 0, none, none, some 3, some 14, none, none, none, none, none, none, none, none, none])
 (.block 0 (.loop ((.seq ((.seq (.reg [⟨[], [], .nop⟩, ⟨[], [], .nop⟩, ⟨[], [], .bi .leq (.e 4) (.e 0)⟩] [some 0, none, none, some 3, some 4, none, none, none, none, none, some 14, none, none, none])
   (.cond 10 (.skip) (.exit 0))))
   ((.seq (.block 1 ((.seq (.reg [⟨[], [], .li (.o .v) []⟩, ⟨[], [], .nop⟩] [some 0, none, none, some 3, some 4, some 14, none, none, none, none, none, none, none, none])
    ((.seq ((.seq (.reg [⟨[], [], .cs .v (.n 0)⟩] [some 0, none, none, some 3, some 4, some 5, some 14, none, none, none, none, none, none, none])
    (.block 2 (.loop ((.seq ((.seq (.reg [⟨[], [], .nop⟩, ⟨[], [], .nop⟩, ⟨[], [], .bi .lss (.e 6) (.e 4)⟩] [some 0, none, none, some 3, some 4, some 5, some 6, none, none, none, none, some 14, none, none])
      (.cond 11 (.skip) (.exit 2))))
      ((.seq (.block 3 ((.seq (.reg [⟨[], [], .nop⟩, ⟨[], [], .nop⟩, ⟨[], [], .ix (.e 3) [] (.e 6)⟩, ⟨[], [], .nop⟩, ⟨[], [], .nop⟩, ⟨[], [], .nop⟩, ⟨[], [], .bi .sub (.e 4) (.c (.n 1))⟩, ⟨[], [], .nop⟩, ⟨[], [], .bi .sub (.e 15) (.e 6)⟩, ⟨[], [], .ix (.e 3) [] (.e 16)⟩, ⟨[], [], .nop⟩, ⟨[], [], .ca 464 [(.e 14), (.e 17)] 1⟩, ⟨[], [], .nop⟩] [some 0, none, none, some 3, some 4, some 5, some 6, some 18, none, none, none, none, none, none])
       ((.seq (.block 4 (.loop ((.seq ((.seq (.reg [⟨[], [], .nop⟩, ⟨[], [], .ln (.e 5) []⟩, ⟨[], [], .nop⟩, ⟨[], [], .ln (.e 7) []⟩, ⟨[], [], .nop⟩, ⟨[], [], .bi .add (.e 15) (.e 6)⟩, ⟨[], [], .bi .lss (.e 14) (.e 16)⟩] [some 0, none, none, some 3, some 4, some 5, some 6, some 7, none, none, none, none, some 17, none])
         (.cond 12 (.skip) (.exit 4))))
         (.block 5 (.reg [⟨[], [], .nop⟩, ⟨[], [], .li (.o .v) [(.c (.n 0))]⟩, ⟨[], [], .ap false (.e 5) (.e 14)⟩, ⟨[], [], .nop⟩] [some 0, none, none, some 3, some 4, some 15, some 6, some 7, none, none, none, none, none, none]))))))
       ((.seq (.reg [⟨[], [], .cs .v (.n 0)⟩] [some 0, none, none, some 3, some 4, some 5, some 6, some 7, some 14, none, none, none, none, none])
       (.block 6 (.loop ((.seq ((.seq (.reg [⟨[], [], .nop⟩, ⟨[], [], .nop⟩, ⟨[], [], .ln (.e 7) []⟩, ⟨[], [], .bi .lss (.e 8) (.e 14)⟩] [some 0, none, none, some 3, some 4, some 5, some 6, some 7, some 8, none, none, none, none, some 15])
         (.cond 13 (.skip) (.exit 6))))
         ((.seq (.block 7 (.reg [⟨[], [], .nop⟩, ⟨[], [], .nop⟩, ⟨[], [], .nop⟩, ⟨[], [], .bi .add (.e 8) (.e 6)⟩, ⟨[], [], .nop⟩, ⟨[], [], .nop⟩, ⟨[], [], .nop⟩, ⟨[], [], .bi .add (.e 8) (.e 6)⟩, ⟨[], [], .ix (.e 5) [] (.e 15)⟩, ⟨[], [], .nop⟩, ⟨[], [], .nop⟩, ⟨[], [], .nop⟩, ⟨[], [], .ix (.e 7) [] (.e 8)⟩, ⟨[], [], .nop⟩, ⟨[], [], .bi .add (.e 16) (.e 17)⟩, ⟨[], [], .ix (.e 5) [] (.e 14)⟩, ⟨[], [], .up 5 [.e 14] (.e 18)⟩] [some 0, none, none, some 3, some 4, some 20, some 6, some 7, some 8, none, none, none, none, none]))
         (.reg [⟨[], [], .nop⟩, ⟨[], [], .bi .add (.e 8) (.c (.n 1))⟩, ⟨[], [], .nop⟩] [some 0, none, none, some 3, some 4, some 5, some 6, some 7, some 14, none, none, none, none, none]))))))))))))))
      (.reg [⟨[], [], .nop⟩, ⟨[], [], .bi .add (.e 6) (.c (.n 1))⟩, ⟨[], [], .nop⟩] [some 0, none, none, some 3, some 4, some 5, some 14, none, none, none, none, none, none, none])))))))))
    (.reg [⟨[], [], .nop⟩, ⟨[], [], .nop⟩, ⟨[], [], .li (.o .v) [(.e 5)]⟩, ⟨[], [], .ap false (.e 3) (.e 14)⟩, ⟨[], [], .nop⟩] [some 0, none, none, some 15, some 4, none, none, none, none, none, none, none, none, none]))))))
   (.reg [⟨[], [], .nop⟩, ⟨[], [], .bi .add (.e 4) (.c (.n 1))⟩, ⟨[], [], .nop⟩] [some 0, none, none, some 3, some 14, none, none, none, none, none, none, none, none, none])))))))))
 ((.seq (.reg [⟨[], [], .nop⟩, ⟨[], [], .nop⟩, ⟨[], [], .ix (.e 3) [] (.e 0)⟩, ⟨[], [], .nop⟩, ⟨[], [], .nop⟩, ⟨[], [], .cs .v (.b true)⟩] [none, some 14, some 15, none, none, none, none, none, none, none, none, none, none, none])
 (.ret))))))))))⟩

/-- loop.example/g03401/spec.BinomialPolynomial -/
def ir_spec_BinomialPolynomial : IF := ⟨[], 2, 5, [2, 3],
 (.seq (.reg [⟨[], [], .cs .v (.l [])⟩, ⟨[], [], .cs .v (.b false)⟩] [some 0, some 1, none, none, none])
 ((.seq ((.seq (.reg [⟨[], [], .nop⟩, ⟨[], [], .ca 22 [(.e 0), (.c (.n 0)), (.c (.n 14))] 1⟩, ⟨[], [], .un .not (.e 5)⟩, ⟨[], [], .nop⟩, ⟨[], [(6, false)], .cy (.e 1)⟩, ⟨[], [(6, false)], .cy (.e 0)⟩, ⟨[], [(6, false)], .ca 22 [(.e 7), (.c (.n 0)), (.e 8)] 1⟩, ⟨[], [(6, false)], .un .not (.e 9)⟩, ⟨[], [], .pk (.e 6) (.c (.b true)) (.e 10)⟩] [some 0, some 1, none, none, some 11])
 (.cond 4 ((.seq (.reg [⟨[], [], .li (.o .v) []⟩, ⟨[], [], .nop⟩, ⟨[], [], .cs .v (.b false)⟩] [none, none, some 5, some 6, none])
  (.ret))) (.skip))))
 ((.seq (.reg [⟨[], [], .nop⟩, ⟨[], [], .nop⟩, ⟨[], [], .ca 467 [(.e 0), (.e 1)] 1⟩, ⟨[], [], .nop⟩, ⟨[], [], .cs .v (.b true)⟩] [none, none, some 5, some 6, none])
 (.ret))))))⟩

/-- loop.example/g03401/spec.CatalanPolynomial -/
def ir_spec_CatalanPolynomial : IF := ⟨[], 1, 5, [1, 2],
 (.seq (.reg [⟨[], [], .cs (.o .v) (.l [])⟩, ⟨[], [], .cs .v (.b false)⟩] [some 0, none, none, none, none])
 ((.seq ((.seq (.reg [⟨[], [], .nop⟩, ⟨[], [], .ca 22 [(.e 0), (.c (.n 0)), (.c (.n 7))] 1⟩, ⟨[], [], .un .not (.e 5)⟩] [some 0, none, none, none, some 6])
 (.cond 4 ((.seq (.reg [⟨[], [], .li (.o .v) []⟩, ⟨[], [], .nop⟩, ⟨[], [], .cs .v (.b false)⟩] [none, some 5, some 6, none, none])
  (.ret))) (.skip))))
 ((.seq (.reg [⟨[], [], .nop⟩, ⟨[], [], .bi .mul (.c (.n 2)) (.e 0)⟩, ⟨[], [], .nop⟩, ⟨[], [], .ca 467 [(.e 5), (.e 0)] 1⟩, ⟨[], [], .nop⟩, ⟨[], [], .bi .add (.e 0) (.c (.n 1))⟩, ⟨[], [], .ca 470 [(.e 7)] 1⟩, ⟨[], [], .ca 471 [(.e 6), (.e 8)] 2⟩, ⟨[], [], .nop⟩, ⟨[], [], .nop⟩, ⟨[], [], .nop⟩, ⟨[], [], .nop⟩, ⟨[], [], .nop⟩] [none, none, none, some 9, none])
 ((.seq (.reg [⟨[], [], .nop⟩, ⟨[], [], .nop⟩, ⟨[], [], .cs .v (.b true)⟩] [none, some 3, some 5, none, none])
 (.ret))))))))⟩

/-- loop.example/g03401/spec.DividePolynomials -/
def ir_spec_DividePolynomials : IF := ⟨[], 2, 20, [2, 3, 4],
 (.seq (.reg [⟨[], [], .cs (.o .v) (.l [])⟩, ⟨[], [], .cs (.o .v) (.l [])⟩, ⟨[], [], .cs .v (.b false)⟩] [some 0, some 1, none, none, none, none, none, none, none, none, none, none, none, none, none, none, none, none, none, none])
 ((.seq ((.seq (.reg [⟨[], [], .nop⟩, ⟨[], [], .ca 462 [(.e 0)] 1⟩, ⟨[], [], .un .not (.e 20)⟩, ⟨[], [], .nop⟩, ⟨[], [(21, false)], .nop⟩, ⟨[], [(21, false)], .ca 429 [(.e 1)] 1⟩, ⟨[], [(21, false)], .un .not (.e 22)⟩, ⟨[], [], .pk (.e 21) (.c (.b true)) (.e 23)⟩, ⟨[], [], .nop⟩, ⟨[], [(24, false)], .nop⟩, ⟨[], [(24, false)], .ln (.e 1) []⟩, ⟨[], [(24, false)], .ca 22 [(.e 25), (.c (.n 1)), (.c (.n 13))] 1⟩, ⟨[], [(24, false)], .un .not (.e 26)⟩, ⟨[], [], .pk (.e 24) (.c (.b true)) (.e 27)⟩, ⟨[], [], .nop⟩, ⟨[], [(28, false)], .nop⟩, ⟨[], [(28, false)], .nop⟩, ⟨[], [(28, false)], .ln (.e 1) []⟩, ⟨[], [(28, false)], .bi .sub (.e 29) (.c (.n 1))⟩, ⟨[], [(28, false)], .iy (.e 1) (.e 30)⟩, ⟨[], [(28, false)], .nop⟩, ⟨[], [(28, false)], .bi .neq (.e 31) (.c (.n 1))⟩, ⟨[], [], .pk (.e 28) (.c (.b true)) (.e 32)⟩] [some 0, some 1, none, none, none, none, none, none, none, none, none, none, none, some 33, none, none, none, none, none, none])
 (.cond 13 ((.seq (.reg [⟨[], [], .li (.o .v) []⟩, ⟨[], [], .li (.o .v) []⟩, ⟨[], [], .nop⟩, ⟨[], [], .nop⟩, ⟨[], [], .cs .v (.b false)⟩] [none, none, some 20, some 21, some 22, none, none, none, none, none, none, none, none, none, none, none, none, none, none, none])
  (.ret))) (.skip))))
 ((.seq ((.seq (.reg [⟨[], [], .cs .v (.n 0)⟩] [some 0, some 1, none, none, none, some 20, none, none, none, none, none, none, none, none, none, none, none, none, none, none])
 (.block 0 (.loop ((.seq ((.seq (.reg [⟨[], [], .nop⟩, ⟨[], [], .nop⟩, ⟨[], [], .ln (.e 1) []⟩, ⟨[], [], .bi .lss (.e 5) (.e 20)⟩] [some 0, some 1, none, none, none, some 5, none, none, none, none, none, none, none, none, some 21, none, none, none, none, none])
   (.cond 14 (.skip) (.exit 0))))
   ((.seq (.block 1 ((.seq (.reg [⟨[], [], .nop⟩, ⟨[], [], .nop⟩, ⟨[], [], .iy (.e 1) (.e 5)⟩, ⟨[], [], .nop⟩, ⟨[], [], .ca 22 [(.e 20), (.c (.n (-1))), (.c (.n 1))] 1⟩, ⟨[], [], .un .not (.e 21)⟩] [some 0, some 1, none, none, none, some 5, none, none, none, none, none, none, none, none, none, some 22, none, none, none, none])
    (.cond 15 ((.seq (.reg [⟨[], [], .li (.o .v) []⟩, ⟨[], [], .li (.o .v) []⟩, ⟨[], [], .nop⟩, ⟨[], [], .nop⟩, ⟨[], [], .cs .v (.b false)⟩] [none, none, some 20, some 21, some 22, none, none, none, none, none, none, none, none, none, none, none, none, none, none, none])
     (.ret))) (.skip)))))
   (.reg [⟨[], [], .nop⟩, ⟨[], [], .bi .add (.e 5) (.c (.n 1))⟩, ⟨[], [], .nop⟩] [some 0, some 1, none, none, none, some 20, none, none, none, none, none, none, none, none, none, none, none, none, none, none])))))))))
 ((.seq (.reg [⟨[], [], .li (.o .v) []⟩, ⟨[], [], .nop⟩, ⟨[], [], .ap true (.e 20) (.e 0)⟩, ⟨[], [], .nop⟩] [some 0, some 1, none, none, none, none, some 21, none, none, none, none, none, none, none, none, none, none, none, none, none])
 ((.seq (.reg [⟨[], [], .nop⟩, ⟨[], [], .ln (.e 0) []⟩, ⟨[], [], .nop⟩, ⟨[], [], .ln (.e 1) []⟩, ⟨[], [], .bi .sub (.e 20) (.e 21)⟩, ⟨[], [], .bi .add (.e 22) (.c (.n 1))⟩, ⟨[], [], .mx (.c (.n 0)) (.e 23)⟩, ⟨[], [], .mk (.n 0) (.e 24) (.e 24)⟩, ⟨[], [], .nop⟩] [none, some 1, none, none, none, none, some 6, some 25, none, none, none, none, none, none, none, none, none, none, none, none])
 ((.seq ((.seq (.reg [⟨[], [], .nop⟩, ⟨[], [], .ln (.e 7) []⟩, ⟨[], [], .bi .sub (.e 20) (.c (.n 1))⟩, ⟨[], [], .nop⟩] [none, some 1, none, none, none, none, some 6, some 7, some 21, none, none, none, none, none, none, none, none, none, none, none])
 (.block 2 (.loop ((.seq ((.seq (.reg [⟨[], [], .nop⟩, ⟨[], [], .bi .geq (.e 8) (.c (.n 0))⟩] [none, some 1, none, none, none, none, some 6, some 7, some 8, none, none, none, none, none, none, none, some 20, none, none, none])
   (.cond 16 (.skip) (.exit 2))))
   ((.seq (.block 3 ((.seq (.reg [⟨[], [], .nop⟩, ⟨[], [], .nop⟩, ⟨[], [], .nop⟩, ⟨[], [], .ln (.e 1) []⟩, ⟨[], [], .bi .add (.e 8) (.e 20)⟩, ⟨[], [], .bi .sub (.e 21) (.c (.n 1))⟩, ⟨[], [], .ix (.e 6) [] (.e 22)⟩, ⟨[], [], .nop⟩, ⟨[], [], .nop⟩] [none, some 1, none, none, none, none, some 6, some 7, some 8, some 23, none, none, none, none, none, none, none, none, none, none])
    ((.seq ((.seq (.reg [⟨[], [], .nop⟩, ⟨[], [], .ca 22 [(.e 9), (.c (.n (-1000000000))), (.c (.n 1000000000))] 1⟩, ⟨[], [], .un .not (.e 20)⟩] [none, some 1, none, none, none, none, some 6, some 7, some 8, some 9, none, none, none, none, none, none, none, some 21, none, none])
    (.cond 17 ((.seq (.reg [⟨[], [], .li (.o .v) []⟩, ⟨[], [], .li (.o .v) []⟩, ⟨[], [], .nop⟩, ⟨[], [], .nop⟩, ⟨[], [], .cs .v (.b false)⟩] [none, none, some 20, some 21, some 22, none, none, none, none, none, none, none, none, none, none, none, none, none, none, none])
     (.ret))) (.skip))))
    ((.seq (.reg [⟨[], [], .nop⟩, ⟨[], [], .nop⟩, ⟨[], [], .nop⟩, ⟨[], [], .ix (.e 7) [] (.e 8)⟩, ⟨[], [], .up 7 [.e 8] (.e 9)⟩] [none, some 1, none, none, none, none, some 6, some 21, some 8, some 9, none, none, none, none, none, none, none, none, none, none])
    ((.seq (.reg [⟨[], [], .cs .v (.n 0)⟩] [none, some 1, none, none, none, none, some 6, some 7, some 8, some 9, some 20, none, none, none, none, none, none, none, none, none])
    (.block 4 (.loop ((.seq ((.seq (.reg [⟨[], [], .nop⟩, ⟨[], [], .nop⟩, ⟨[], [], .ln (.e 1) []⟩, ⟨[], [], .bi .lss (.e 10) (.e 20)⟩] [none, some 1, none, none, none, none, some 6, some 7, some 8, some 9, some 10, none, none, none, none, none, none, none, some 21, none])
      (.cond 18 (.skip) (.exit 4))))
      ((.seq (.block 5 (.reg [⟨[], [], .nop⟩, ⟨[], [], .nop⟩, ⟨[], [], .nop⟩, ⟨[], [], .bi .add (.e 8) (.e 10)⟩, ⟨[], [], .nop⟩, ⟨[], [], .nop⟩, ⟨[], [], .nop⟩, ⟨[], [], .bi .add (.e 8) (.e 10)⟩, ⟨[], [], .ix (.e 6) [] (.e 21)⟩, ⟨[], [], .nop⟩, ⟨[], [], .nop⟩, ⟨[], [], .nop⟩, ⟨[], [], .nop⟩, ⟨[], [], .iy (.e 1) (.e 10)⟩, ⟨[], [], .nop⟩, ⟨[], [], .bi .mul (.e 9) (.e 23)⟩, ⟨[], [], .bi .sub (.e 22) (.e 24)⟩, ⟨[], [], .ix (.e 6) [] (.e 20)⟩, ⟨[], [], .up 6 [.e 20] (.e 25)⟩] [none, some 1, none, none, none, none, some 27, some 7, some 8, some 9, some 10, none, none, none, none, none, none, none, none, none]))
      (.reg [⟨[], [], .nop⟩, ⟨[], [], .bi .add (.e 10) (.c (.n 1))⟩, ⟨[], [], .nop⟩] [none, some 1, none, none, none, none, some 6, some 7, some 8, some 9, some 20, none, none, none, none, none, none, none, none, none]))))))))))))))))
   (.reg [⟨[], [], .nop⟩, ⟨[], [], .bi .sub (.e 8) (.c (.n 1))⟩, ⟨[], [], .nop⟩] [none, some 1, none, none, none, none, some 6, some 7, some 20, none, none, none, none, none, none, none, none, none, none, none])))))))))
 ((.seq (.reg [⟨[], [], .nop⟩, ⟨[], [], .ca 463 [(.e 7)] 1⟩, ⟨[], [], .nop⟩] [none, none, none, none, none, none, some 6, none, none, none, none, some 20, none, none, none, none, none, none, none, none])
 ((.seq (.reg [⟨[], [], .nop⟩, ⟨[], [], .ca 463 [(.e 6)] 1⟩, ⟨[], [], .nop⟩] [none, none, none, none, none, none, none, none, none, none, none, some 11, some 20, none, none, none, none, none, none, none])
 ((.seq ((.seq (.reg [⟨[], [], .nop⟩, ⟨[], [], .ca 429 [(.e 11)] 1⟩, ⟨[], [], .un .not (.e 20)⟩, ⟨[], [], .nop⟩, ⟨[], [(21, false)], .nop⟩, ⟨[], [(21, false)], .ca 429 [(.e 12)] 1⟩, ⟨[], [(21, false)], .un .not (.e 22)⟩, ⟨[], [], .pk (.e 21) (.c (.b true)) (.e 23)⟩] [none, none, none, none, none, none, none, none, none, none, none, some 11, some 12, none, none, none, none, none, none, some 24])
 (.cond 19 ((.seq (.reg [⟨[], [], .li (.o .v) []⟩, ⟨[], [], .li (.o .v) []⟩, ⟨[], [], .nop⟩, ⟨[], [], .nop⟩, ⟨[], [], .cs .v (.b false)⟩] [none, none, some 20, some 21, some 22, none, none, none, none, none, none, none, none, none, none, none, none, none, none, none])
  (.ret))) (.skip))))
 ((.seq (.reg [⟨[], [], .nop⟩, ⟨[], [], .nop⟩, ⟨[], [], .nop⟩, ⟨[], [], .nop⟩, ⟨[], [], .cs .v (.b true)⟩] [none, none, some 11, some 12, some 20, none, none, none, none, none, none, none, none, none, none, none, none, none, none, none])
 (.ret))))))))))))))))))))⟩

/-- loop.example/g03401/spec.DrawAddPolynomials -/
def ir_spec_DrawAddPolynomials : IF := ⟨[], 1, 5, [1, 2],
 (.seq (.reg [⟨[], [], .cs (.o .v) (.l [])⟩, ⟨[], [], .cs (.o .v) (.l [])⟩] [some 0, none, none, none, none])
 ((.seq (.reg [⟨[], [], .nop⟩, ⟨[], [], .ca 468 [(.e 0)] 2⟩, ⟨[], [], .nop⟩, ⟨[], [], .nop⟩, ⟨[], [], .nop⟩, ⟨[], [], .nop⟩, ⟨[], [], .nop⟩] [none, none, none, some 5, some 6])
 ((.seq (.reg [⟨[], [], .nop⟩, ⟨[], [], .nop⟩, ⟨[], [], .nop⟩, ⟨[], [], .nop⟩] [none, some 3, some 4, none, none])
 (.ret))))))⟩

/-- loop.example/g03401/spec.DrawAreaPolynomial -/
def ir_spec_DrawAreaPolynomial : IF := ⟨[], 1, 2, [1],
 (.seq (.reg [⟨[], [], .cs .v (.n 0)⟩] [some 0, none])
 ((.seq (.reg [⟨[], [], .nop⟩, ⟨[], [], .ca 288 [(.e 0)] 1⟩, ⟨[], [], .ca 289 [(.e 2), (.c (.n 11))] 2⟩, ⟨[], [], .bi .sub (.e 3) (.c (.n 1))⟩, ⟨[], [], .nop⟩] [none, some 5])
 (.ret))))⟩

/-- loop.example/g03401/spec.DrawBinomialPolynomial -/
def ir_spec_DrawBinomialPolynomial : IF := ⟨[], 1, 5, [1, 2],
 (.seq (.reg [⟨[], [], .cs .v (.n 0)⟩, ⟨[], [], .cs .v (.n 0)⟩] [some 0, none, none, none, none])
 ((.seq (.reg [⟨[], [], .nop⟩, ⟨[], [], .ca 288 [(.e 0)] 1⟩, ⟨[], [], .nop⟩] [none, none, none, some 5, none])
 ((.seq (.reg [⟨[], [], .nop⟩, ⟨[], [], .ca 289 [(.e 3), (.c (.n 13))] 2⟩, ⟨[], [], .bi .sub (.e 5) (.c (.n 1))⟩, ⟨[], [], .nop⟩] [none, none, none, some 6, some 7])
 ((.seq (.reg [⟨[], [], .nop⟩, ⟨[], [], .nop⟩, ⟨[], [], .ca 289 [(.e 3), (.c (.n 8))] 2⟩, ⟨[], [], .bi .sub (.e 5) (.c (.n 1))⟩, ⟨[], [], .nop⟩, ⟨[], [], .nop⟩] [none, some 4, some 7, none, none])
 (.ret))))))))⟩

/-- loop.example/g03401/spec.DrawCatalanPolynomial -/
def ir_spec_DrawCatalanPolynomial : IF := ⟨[], 1, 2, [1],
 (.seq (.reg [⟨[], [], .cs .v (.n 0)⟩] [some 0, none])
 ((.seq (.reg [⟨[], [], .nop⟩, ⟨[], [], .ca 288 [(.e 0)] 1⟩, ⟨[], [], .ca 289 [(.e 2), (.c (.n 10))] 2⟩, ⟨[], [], .bi .sub (.e 3) (.c (.n 1))⟩, ⟨[], [], .nop⟩] [none, some 5])
 (.ret))))⟩

/-- loop.example/g03401/spec.DrawDividePolynomials -/
def ir_spec_DrawDividePolynomials : IF := ⟨[], 1, 9, [1, 2],
 (.seq (.reg [⟨[], [], .cs (.o .v) (.l [])⟩, ⟨[], [], .cs (.o .v) (.l [])⟩] [some 0, none, none, none, none, none, none, none, none])
 ((.seq (.reg [⟨[], [], .nop⟩, ⟨[], [], .ca 288 [(.e 0)] 1⟩, ⟨[], [], .nop⟩] [none, none, none, some 9, none, none, none, none, none])
 ((.seq (.reg [⟨[], [], .nop⟩, ⟨[], [], .ca 459 [(.e 3)] 2⟩, ⟨[], [], .nop⟩] [none, none, none, some 10, some 9, none, none, none, none])
 ((.seq ((.seq (.reg [⟨[], [], .nop⟩, ⟨[], [], .ca 307 [(.e 3), (.c (.n 4))] 2⟩] [none, none, none, some 10, some 4, none, none, some 9, none])
 (.cond 7 ((.seq (.reg [⟨[], [], .nop⟩, ⟨[], [], .nop⟩, ⟨[], [], .ca 459 [(.e 3)] 2⟩, ⟨[], [], .nop⟩, ⟨[], [], .nop⟩] [none, some 4, some 9, none, none, none, none, none, none])
  (.ret))) (.skip))))
 ((.seq (.reg [⟨[], [], .li (.o .v) []⟩, ⟨[], [], .nop⟩] [none, none, none, some 3, some 4, some 9, none, none, none])
 ((.seq ((.seq (.reg [⟨[], [], .nop⟩, ⟨[], [], .ca 289 [(.e 3), (.c (.n 4))] 2⟩, ⟨[], [], .nop⟩] [none, none, none, some 10, some 4, some 5, some 9, none, none])
 (.block 0 (.loop ((.seq ((.seq (.reg [⟨[], [], .nop⟩, ⟨[], [], .bi .gtr (.e 6) (.c (.n 0))⟩] [none, none, none, some 3, some 4, some 5, some 6, none, some 9])
   (.cond 8 (.skip) (.exit 0))))
   ((.seq (.block 1 (.reg [⟨[], [], .nop⟩, ⟨[], [], .nop⟩, ⟨[], [], .ca 289 [(.e 3), (.c (.n 3))] 2⟩, ⟨[], [], .bi .sub (.e 9) (.c (.n 1))⟩, ⟨[], [], .li (.o .v) [(.e 11)]⟩, ⟨[], [], .ap false (.e 5) (.e 12)⟩, ⟨[], [], .nop⟩] [none, none, none, some 10, some 4, some 13, some 6, none, none]))
   (.reg [⟨[], [], .nop⟩, ⟨[], [], .bi .sub (.e 6) (.c (.n 1))⟩, ⟨[], [], .nop⟩] [none, none, none, some 3, some 4, some 5, some 9, none, none])))))))))
 ((.seq (.reg [⟨[], [], .nop⟩, ⟨[], [], .nop⟩, ⟨[], [], .li (.o .v) [(.c (.n 1))]⟩, ⟨[], [], .ap false (.e 5) (.e 9)⟩, ⟨[], [], .nop⟩, ⟨[], [], .nop⟩] [none, some 4, some 10, none, none, none, none, none, none])
 (.ret))))))))))))))⟩

/-- loop.example/g03401/spec.DrawMultiplyPolynomials -/
def ir_spec_DrawMultiplyPolynomials : IF := ⟨[], 1, 5, [1, 2],
 (.seq (.reg [⟨[], [], .cs (.o .v) (.l [])⟩, ⟨[], [], .cs (.o .v) (.l [])⟩] [some 0, none, none, none, none])
 ((.seq (.reg [⟨[], [], .nop⟩, ⟨[], [], .ca 468 [(.e 0)] 2⟩, ⟨[], [], .nop⟩, ⟨[], [], .nop⟩, ⟨[], [], .nop⟩, ⟨[], [], .nop⟩, ⟨[], [], .nop⟩] [none, none, none, some 5, some 6])
 ((.seq (.reg [⟨[], [], .nop⟩, ⟨[], [], .nop⟩, ⟨[], [], .nop⟩, ⟨[], [], .nop⟩] [none, some 3, some 4, none, none])
 (.ret))))))⟩

/-- loop.example/g03401/spec.DrawNumberPolynomial -/
def ir_spec_DrawNumberPolynomial : IF := ⟨[], 1, 2, [1],
 (.seq (.reg [⟨[], [], .cs .v (.n 0)⟩] [some 0, none])
 ((.seq (.reg [⟨[], [], .nop⟩, ⟨[], [], .ca 288 [(.e 0)] 1⟩, ⟨[], [], .ca 289 [(.e 2), (.c (.n 24))] 2⟩, ⟨[], [], .bi .sub (.e 3) (.c (.n 1))⟩, ⟨[], [], .nop⟩] [none, some 5])
 (.ret))))⟩

/-- loop.example/g03401/spec.DrawValueAt -/
def ir_spec_DrawValueAt : IF := ⟨[], 1, 5, [1, 2],
 (.seq (.reg [⟨[], [], .cs (.o .v) (.l [])⟩, ⟨[], [], .cs .v (.n 0)⟩] [some 0, none, none, none, none])
 ((.seq (.reg [⟨[], [], .nop⟩, ⟨[], [], .ca 288 [(.e 0)] 1⟩, ⟨[], [], .nop⟩] [none, none, none, some 5, none])
 ((.seq (.reg [⟨[], [], .nop⟩, ⟨[], [], .ca 459 [(.e 3)] 2⟩, ⟨[], [], .nop⟩] [none, none, none, some 6, some 5])
 ((.seq (.reg [⟨[], [], .nop⟩, ⟨[], [], .nop⟩, ⟨[], [], .li (.o .v) [(.c (.n 0)), (.c (.n 1)), (.c (.n (-1))), (.c (.n 2)), (.c (.n (-2))), (.c (.n 3)), (.c (.n 9223372036854775807))]⟩, ⟨[], [], .ca 313 [(.e 3), (.e 5)] 2⟩, ⟨[], [], .nop⟩, ⟨[], [], .nop⟩] [none, some 4, some 6, none, none])
 (.ret))))))))⟩

/-- loop.example/g03401/spec.FormatPolynomial -/
def ir_spec_FormatPolynomial : IF := ⟨[], 1, 7, [1],
 (.seq (.reg [⟨[], [], .cs .v (.s [])⟩] [some 0, none, none, none, none, none, none])
 ((.seq (.reg [⟨[], [], .cs .v (.s [])⟩] [some 0, none, some 7, none, none, none, none])
 ((.seq ((.seq (.reg [⟨[], [], .cs .v (.n 0)⟩] [some 0, none, some 2, some 7, none, none, none])
 (.block 0 (.loop ((.seq ((.seq (.reg [⟨[], [], .nop⟩, ⟨[], [], .nop⟩, ⟨[], [], .ln (.e 0) []⟩, ⟨[], [], .bi .lss (.e 3) (.e 7)⟩, ⟨[], [], .nop⟩, ⟨[], [(8, true)], .nop⟩, ⟨[], [(8, true)], .ca 429 [(.e 0)] 1⟩, ⟨[], [], .pk (.e 8) (.e 9) (.c (.b false))⟩] [some 0, none, some 2, some 3, some 10, none, none])
   (.cond 4 (.skip) (.exit 0))))
   ((.seq (.block 1 ((.seq ((.seq (.reg [⟨[], [], .nop⟩, ⟨[], [], .bi .gtr (.e 3) (.c (.n 0))⟩] [some 0, none, some 2, some 3, none, some 7, none])
    (.cond 5 (.reg [⟨[], [], .nop⟩, ⟨[], [], .bi .add (.e 2) (.c (.s [44]))⟩, ⟨[], [], .nop⟩] [some 0, none, some 7, some 3, none, none, none]) (.skip))))
    (.reg [⟨[], [], .nop⟩, ⟨[], [], .nop⟩, ⟨[], [], .nop⟩, ⟨[], [], .iy (.e 0) (.e 3)⟩, ⟨[], [], .nop⟩, ⟨[], [], .ca 138 [(.e 7)] 1⟩, ⟨[], [], .bi .add (.e 2) (.e 8)⟩, ⟨[], [], .nop⟩] [some 0, none, some 9, some 3, none, none, none]))))
   (.reg [⟨[], [], .nop⟩, ⟨[], [], .bi .add (.e 3) (.c (.n 1))⟩, ⟨[], [], .nop⟩] [some 0, none, some 2, some 7, none, none, none])))))))))
 ((.seq ((.seq (.reg [⟨[], [], .nop⟩, ⟨[], [], .bi .eql (.e 2) (.c (.s []))⟩] [none, none, some 2, none, none, none, some 7])
 (.cond 6 ((.seq (.reg [⟨[], [], .cs .v (.s [48])⟩] [none, some 7, none, none, none, none, none])
  (.ret))) (.skip))))
 ((.seq (.reg [⟨[], [], .nop⟩, ⟨[], [], .nop⟩] [none, some 2, none, none, none, none, none])
 (.ret))))))))))⟩

/-- loop.example/g03401/spec.IsPolynomial -/
def ir_spec_IsPolynomial : IF := ⟨[], 1, 5, [1],
 (.seq (.reg [⟨[], [], .cs .v (.b false)⟩] [some 0, none, none, none, none])
 ((.seq ((.seq (.reg [⟨[], [], .cs .v (.n 0)⟩] [some 0, none, some 5, none, none])
 (.block 0 (.loop ((.seq ((.seq (.reg [⟨[], [], .nop⟩, ⟨[], [], .nop⟩, ⟨[], [], .ln (.e 0) []⟩, ⟨[], [], .bi .lss (.e 2) (.e 5)⟩] [some 0, none, some 2, some 6, none])
   (.cond 3 (.skip) (.exit 0))))
   ((.seq (.block 1 ((.seq (.reg [⟨[], [], .nop⟩, ⟨[], [], .nop⟩, ⟨[], [], .iy (.e 0) (.e 2)⟩, ⟨[], [], .nop⟩, ⟨[], [], .ca 22 [(.e 5), (.c (.n (-1000000000))), (.c (.n 1000000000))] 1⟩, ⟨[], [], .un .not (.e 6)⟩] [some 0, none, some 2, none, some 7])
    (.cond 4 ((.seq (.reg [⟨[], [], .cs .v (.b false)⟩] [none, some 5, none, none, none])
     (.ret))) (.skip)))))
   (.reg [⟨[], [], .nop⟩, ⟨[], [], .bi .add (.e 2) (.c (.n 1))⟩, ⟨[], [], .nop⟩] [some 0, none, some 5, none, none])))))))))
 ((.seq (.reg [⟨[], [], .nop⟩, ⟨[], [], .ln (.e 0) []⟩, ⟨[], [], .bi .leq (.e 5) (.c (.n 61))⟩, ⟨[], [], .nop⟩, ⟨[], [(6, true)], .nop⟩, ⟨[], [(6, true)], .ln (.e 0) []⟩, ⟨[], [(6, true)], .bi .eql (.e 7) (.c (.n 0))⟩, ⟨[], [(6, true)], .cy (.e 8)⟩, ⟨[], [(6, true), (9, false)], .nop⟩, ⟨[], [(6, true), (9, false)], .nop⟩, ⟨[], [(6, true), (9, false)], .ln (.e 0) []⟩, ⟨[], [(6, true), (9, false)], .bi .sub (.e 10) (.c (.n 1))⟩, ⟨[], [(6, true), (9, false)], .iy (.e 0) (.e 11)⟩, ⟨[], [(6, true), (9, false)], .nop⟩, ⟨[], [(6, true), (9, false)], .bi .neq (.e 12) (.c (.n 0))⟩, ⟨[], [(6, true)], .pk (.e 9) (.c (.b true)) (.e 13)⟩, ⟨[], [], .pk (.e 6) (.e 14) (.c (.b false))⟩, ⟨[], [], .nop⟩] [none, some 15, none, none, none])
 (.ret))))))⟩

/-- loop.example/g03401/spec.MultiplyPolynomials -/
def ir_spec_MultiplyPolynomials : IF := ⟨[], 2, 7, [2, 3],
 (.seq (.reg [⟨[], [], .cs (.o .v) (.l [])⟩, ⟨[], [], .cs .v (.b false)⟩] [some 0, some 1, none, none, none, none, none])
 ((.seq ((.seq (.reg [⟨[], [], .nop⟩, ⟨[], [], .ca 462 [(.e 0)] 1⟩, ⟨[], [], .un .not (.e 7)⟩, ⟨[], [], .nop⟩, ⟨[], [(8, false)], .nop⟩, ⟨[], [(8, false)], .ca 462 [(.e 1)] 1⟩, ⟨[], [(8, false)], .un .not (.e 9)⟩, ⟨[], [], .pk (.e 8) (.c (.b true)) (.e 10)⟩, ⟨[], [], .nop⟩, ⟨[], [(11, false)], .nop⟩, ⟨[], [(11, false)], .ln (.e 0) []⟩, ⟨[], [(11, false)], .nop⟩, ⟨[], [(11, false)], .ln (.e 1) []⟩, ⟨[], [(11, false)], .bi .add (.e 12) (.e 13)⟩, ⟨[], [(11, false)], .bi .gtr (.e 14) (.c (.n 62))⟩, ⟨[], [], .pk (.e 11) (.c (.b true)) (.e 15)⟩] [some 0, some 1, none, none, none, some 16, none])
 (.cond 5 ((.seq (.reg [⟨[], [], .li (.o .v) []⟩, ⟨[], [], .nop⟩, ⟨[], [], .cs .v (.b false)⟩] [none, none, some 7, some 8, none, none, none])
  (.ret))) (.skip))))
 ((.seq (.reg [⟨[], [], .nop⟩, ⟨[], [], .nop⟩, ⟨[], [], .ca 464 [(.e 0), (.e 1)] 1⟩, ⟨[], [], .nop⟩] [none, none, none, none, some 7, none, none])
 ((.seq ((.seq (.reg [⟨[], [], .nop⟩, ⟨[], [], .ca 429 [(.e 4)] 1⟩, ⟨[], [], .un .not (.e 7)⟩] [none, none, none, none, some 4, none, some 8])
 (.cond 6 ((.seq (.reg [⟨[], [], .li (.o .v) []⟩, ⟨[], [], .nop⟩, ⟨[], [], .cs .v (.b false)⟩] [none, none, some 7, some 8, none, none, none])
  (.ret))) (.skip))))
 ((.seq (.reg [⟨[], [], .nop⟩, ⟨[], [], .nop⟩, ⟨[], [], .cs .v (.b true)⟩] [none, none, some 4, some 7, none, none, none])
 (.ret))))))))))⟩

/-- loop.example/g03401/spec.NumberPolynomial -/
def ir_spec_NumberPolynomial : IF := ⟨[], 1, 4, [1, 2],
 (.seq (.reg [⟨[], [], .cs (.o .v) (.l [])⟩, ⟨[], [], .cs .v (.b false)⟩] [some 0, none, none, none])
 ((.seq ((.seq (.reg [⟨[], [], .nop⟩, ⟨[], [], .ca 22 [(.e 0), (.c (.n 0)), (.c (.n 20))] 1⟩, ⟨[], [], .un .not (.e 4)⟩] [some 0, none, none, some 5])
 (.cond 3 ((.seq (.reg [⟨[], [], .li (.o .v) []⟩, ⟨[], [], .nop⟩, ⟨[], [], .cs .v (.b false)⟩] [none, some 4, some 5, none])
  (.ret))) (.skip))))
 ((.seq (.reg [⟨[], [], .nop⟩, ⟨[], [], .ca 470 [(.e 0)] 1⟩, ⟨[], [], .nop⟩, ⟨[], [], .cs .v (.b true)⟩] [none, some 4, some 5, none])
 (.ret))))))⟩

/-- loop.example/g03401/spec.ValueAt -/
def ir_spec_ValueAt : IF := ⟨[], 2, 9, [2, 3],
 (.seq (.reg [⟨[], [], .cs .v (.n 0)⟩, ⟨[], [], .cs .v (.b false)⟩] [some 0, some 1, none, none, none, none, none, none, none])
 ((.seq ((.seq (.reg [⟨[], [], .nop⟩, ⟨[], [], .ca 429 [(.e 0)] 1⟩, ⟨[], [], .un .not (.e 9)⟩, ⟨[], [], .nop⟩, ⟨[], [(10, false)], .cy (.e 1)⟩, ⟨[], [(10, false)], .ca 22 [(.e 11), (.c (.n (-2))), (.c (.n 2))] 1⟩, ⟨[], [(10, false)], .un .not (.e 12)⟩, ⟨[], [(10, false)], .cy (.e 13)⟩, ⟨[], [(10, false), (14, true)], .nop⟩, ⟨[], [(10, false), (14, true)], .ln (.e 0) []⟩, ⟨[], [(10, false), (14, true)], .bi .gtr (.e 15) (.c (.n 1))⟩, ⟨[], [(10, false)], .pk (.e 14) (.e 16) (.c (.b false))⟩, ⟨[], [], .pk (.e 10) (.c (.b true)) (.e 17)⟩, ⟨[], [], .nop⟩, ⟨[], [(18, false)], .nop⟩, ⟨[], [(18, false)], .ln (.e 0) []⟩, ⟨[], [(18, false)], .bi .gtr (.e 19) (.c (.n 30))⟩, ⟨[], [(18, false)], .cy (.e 20)⟩, ⟨[], [(18, false), (21, true)], .cy (.e 1)⟩, ⟨[], [(18, false), (21, true)], .ca 22 [(.e 22), (.c (.n (-1))), (.c (.n 1))] 1⟩, ⟨[], [(18, false), (21, true)], .un .not (.e 23)⟩, ⟨[], [(18, false)], .pk (.e 21) (.e 24) (.c (.b false))⟩, ⟨[], [], .pk (.e 18) (.c (.b true)) (.e 25)⟩] [some 0, some 1, none, none, none, none, some 26, none, none])
 (.cond 6 ((.seq (.reg [⟨[], [], .cs .v (.n 0)⟩, ⟨[], [], .cs .v (.b false)⟩] [none, none, some 9, some 10, none, none, none, none, none])
  (.ret))) (.skip))))
 ((.seq (.reg [⟨[], [], .cs .v (.n 0)⟩] [some 0, some 1, none, none, some 9, none, none, none, none])
 ((.seq ((.seq (.reg [⟨[], [], .nop⟩, ⟨[], [], .ln (.e 0) []⟩, ⟨[], [], .bi .sub (.e 9) (.c (.n 1))⟩, ⟨[], [], .nop⟩] [some 0, some 1, none, none, some 4, some 10, none, none, none])
 (.block 0 (.loop ((.seq ((.seq (.reg [⟨[], [], .nop⟩, ⟨[], [], .bi .geq (.e 5) (.c (.n 0))⟩] [some 0, some 1, none, none, some 4, some 5, none, some 9, none])
   (.cond 7 (.skip) (.exit 0))))
   ((.seq (.block 1 ((.seq ((.seq (.reg [⟨[], [], .nop⟩, ⟨[], [], .ln (.e 0) []⟩, ⟨[], [], .bi .eql (.e 9) (.c (.n 1))⟩] [some 0, some 1, none, none, some 4, some 5, none, none, some 10])
    (.cond 8 ((.seq (.reg [⟨[], [], .nop⟩, ⟨[], [], .iy (.e 0) (.c (.n 0))⟩, ⟨[], [], .nop⟩, ⟨[], [], .nop⟩, ⟨[], [], .cs .v (.b true)⟩] [none, none, some 9, some 10, none, none, none, none, none])
     (.ret))) (.skip))))
    (.reg [⟨[], [], .nop⟩, ⟨[], [], .nop⟩, ⟨[], [], .bi .mul (.e 4) (.e 1)⟩, ⟨[], [], .nop⟩, ⟨[], [], .nop⟩, ⟨[], [], .iy (.e 0) (.e 5)⟩, ⟨[], [], .nop⟩, ⟨[], [], .bi .add (.e 9) (.e 10)⟩, ⟨[], [], .nop⟩] [some 0, some 1, none, none, some 11, some 5, none, none, none]))))
   (.reg [⟨[], [], .nop⟩, ⟨[], [], .bi .sub (.e 5) (.c (.n 1))⟩, ⟨[], [], .nop⟩] [some 0, some 1, none, none, some 4, some 9, none, none, none])))))))))
 ((.seq (.reg [⟨[], [], .nop⟩, ⟨[], [], .nop⟩, ⟨[], [], .cs .v (.b true)⟩] [none, none, some 4, some 9, none, none, none, none, none])
 (.ret))))))))))⟩

/-- loop.example/g03401/spec.l14Any -/
def ir_spec_l14Any : IF := ⟨[], 1, 6, [1, 0],
 (.seq (.reg [⟨[], [], .cs (.o .v) (.l [])⟩] [some 0, none, none, none, none, none])
 ((.seq (.reg [⟨[], [], .li (.o .v) []⟩, ⟨[], [], .nop⟩] [some 0, none, some 6, none, none, none])
 ((.seq ((.seq (.reg [⟨[], [], .nop⟩, ⟨[], [], .ca 289 [(.e 0), (.c (.n 6))] 2⟩, ⟨[], [], .nop⟩] [some 7, none, some 2, some 6, none, none])
 (.block 0 (.loop ((.seq ((.seq (.reg [⟨[], [], .nop⟩, ⟨[], [], .bi .gtr (.e 3) (.c (.n 0))⟩] [some 0, none, some 2, some 3, some 6, none])
   (.cond 4 (.skip) (.exit 0))))
   ((.seq (.block 1 (.reg [⟨[], [], .nop⟩, ⟨[], [], .nop⟩, ⟨[], [], .ca 289 [(.e 0), (.c (.n 7))] 2⟩, ⟨[], [], .bi .sub (.e 6) (.c (.n 3))⟩, ⟨[], [], .li (.o .v) [(.e 8)]⟩, ⟨[], [], .ap false (.e 2) (.e 9)⟩, ⟨[], [], .nop⟩] [some 7, none, some 10, some 3, none, none]))
   (.reg [⟨[], [], .nop⟩, ⟨[], [], .bi .sub (.e 3) (.c (.n 1))⟩, ⟨[], [], .nop⟩] [some 0, none, some 2, some 6, none, none])))))))))
 ((.seq ((.seq (.reg [⟨[], [], .nop⟩, ⟨[], [], .ca 307 [(.e 0), (.c (.n 8))] 2⟩] [some 7, none, some 2, none, none, some 6])
 (.cond 5 ((.seq (.reg [⟨[], [], .nop⟩, ⟨[], [], .nop⟩, ⟨[], [], .li (.o .v) [(.c (.n 0)), (.c (.n 100001)), (.c (.n 1000000000)), (.c (.n 1000000001)), (.c (.n (-9223372036854775808)))]⟩, ⟨[], [], .ca 313 [(.e 0), (.e 6)] 2⟩, ⟨[], [], .li (.o .v) [(.e 7)]⟩, ⟨[], [], .ap false (.e 2) (.e 9)⟩, ⟨[], [], .nop⟩] [some 8, none, some 10, none, none, none])
  ((.seq (.reg [⟨[], [], .nop⟩, ⟨[], [], .nop⟩] [some 0, some 2, none, none, none, none])
  (.ret))))) (.skip))))
 ((.seq (.reg [⟨[], [], .nop⟩, ⟨[], [], .ca 463 [(.e 2)] 1⟩, ⟨[], [], .nop⟩] [some 0, some 6, none, none, none, none])
 (.ret))))))))))⟩

/-- loop.example/g03401/spec.l14Binomial -/
def ir_spec_l14Binomial : IF := ⟨[], 2, 16, [2],
 (.seq (.reg [⟨[], [], .cs .v (.l [])⟩] [some 0, some 1, none, none, none, none, none, none, none, none, none, none, none, none, none, none])
 ((.seq (.reg [⟨[], [], .li (.o .v) [(.c (.n 1))]⟩, ⟨[], [], .li (.o .v) [(.e 16)]⟩, ⟨[], [], .nop⟩] [some 0, some 1, none, some 17, none, none, none, none, none, none, none, none, none, none, none, none])
 ((.seq ((.seq (.reg [⟨[], [], .cs .v (.n 1)⟩] [some 0, some 1, none, some 3, some 16, none, none, none, none, none, none, none, none, none, none, none])
 (.block 0 (.loop ((.seq ((.seq (.reg [⟨[], [], .nop⟩, ⟨[], [], .nop⟩, ⟨[], [], .bi .leq (.e 4) (.e 0)⟩] [some 0, some 1, none, some 3, some 4, none, none, none, none, none, some 16, none, none, none, none, none])
   (.cond 10 (.skip) (.exit 0))))
   ((.seq (.block 1 ((.seq (.reg [⟨[], [], .li (.o .v) []⟩, ⟨[], [], .nop⟩] [some 0, some 1, none, some 3, some 4, some 16, none, none, none, none, none, none, none, none, none, none])
    ((.seq ((.seq (.reg [⟨[], [], .cs .v (.n 0)⟩] [some 0, some 1, none, some 3, some 4, some 5, some 16, none, none, none, none, none, none, none, none, none])
    (.block 2 (.loop ((.seq ((.seq (.reg [⟨[], [], .nop⟩, ⟨[], [], .nop⟩, ⟨[], [], .nop⟩, ⟨[], [], .mn (.e 4) (.e 1)⟩, ⟨[], [], .bi .leq (.e 6) (.e 16)⟩] [some 0, some 1, none, some 3, some 4, some 5, some 6, none, none, none, none, some 17, none, none, none, none])
      (.cond 11 (.skip) (.exit 2))))
      ((.seq (.block 3 ((.seq (.reg [⟨[], [], .nop⟩, ⟨[], [], .nop⟩, ⟨[], [], .nop⟩, ⟨[], [], .bi .sub (.e 4) (.e 6)⟩, ⟨[], [], .bi .mul (.e 6) (.e 16)⟩, ⟨[], [], .bi .add (.e 17) (.c (.n 1))⟩, ⟨[], [], .mk (.n 0) (.e 18) (.e 18)⟩, ⟨[], [], .nop⟩] [some 0, some 1, none, some 3, some 4, some 5, some 6, some 19, none, none, none, none, none, none, none, none])
       ((.seq ((.seq (.reg [⟨[], [], .nop⟩, ⟨[], [], .nop⟩, ⟨[], [], .bi .lss (.e 6) (.e 4)⟩] [some 0, some 1, none, some 3, some 4, some 5, some 6, some 7, none, none, none, none, some 16, none, none, none])
       (.cond 12 ((.seq (.reg [⟨[], [], .cs .v (.n 0)⟩] [some 0, some 1, none, some 3, some 4, some 5, some 6, some 7, some 16, none, none, none, none, none, none, none])
        (.block 4 (.loop ((.seq ((.seq (.reg [⟨[], [], .nop⟩, ⟨[], [], .nop⟩, ⟨[], [], .nop⟩, ⟨[], [], .ix (.e 3) [] (.e 6)⟩, ⟨[], [], .nop⟩, ⟨[], [], .ln (.e 16) []⟩, ⟨[], [], .bi .lss (.e 8) (.e 17)⟩] [some 0, some 1, none, some 3, some 4, some 5, some 6, some 7, some 8, none, none, none, none, some 18, none, none])
          (.cond 13 (.skip) (.exit 4))))
          ((.seq (.block 5 (.reg [⟨[], [], .nop⟩, ⟨[], [], .nop⟩, ⟨[], [], .nop⟩, ⟨[], [], .nop⟩, ⟨[], [], .ix (.e 7) [] (.e 8)⟩, ⟨[], [], .nop⟩, ⟨[], [], .nop⟩, ⟨[], [], .nop⟩, ⟨[], [], .ix (.e 3) [] (.e 6)⟩, ⟨[], [], .nop⟩, ⟨[], [], .nop⟩, ⟨[], [], .ix (.e 17) [] (.e 8)⟩, ⟨[], [], .nop⟩, ⟨[], [], .bi .add (.e 16) (.e 18)⟩, ⟨[], [], .ix (.e 7) [] (.e 8)⟩, ⟨[], [], .up 7 [.e 8] (.e 19)⟩] [some 0, some 1, none, some 3, some 4, some 5, some 6, some 21, some 8, none, none, none, none, none, none, none]))
          (.reg [⟨[], [], .nop⟩, ⟨[], [], .bi .add (.e 8) (.c (.n 1))⟩, ⟨[], [], .nop⟩] [some 0, some 1, none, some 3, some 4, some 5, some 6, some 7, some 16, none, none, none, none, none, none, none]))))))))) (.skip))))
       ((.seq ((.seq (.reg [⟨[], [], .nop⟩, ⟨[], [], .bi .gtr (.e 6) (.c (.n 0))⟩] [some 0, some 1, none, some 3, some 4, some 5, some 6, some 7, none, none, none, none, none, none, some 16, none])
       (.cond 14 ((.seq (.reg [⟨[], [], .cs .v (.n 0)⟩] [some 0, some 1, none, some 3, some 4, some 5, some 6, some 7, none, some 16, none, none, none, none, none, none])
        (.block 6 (.loop ((.seq ((.seq (.reg [⟨[], [], .nop⟩, ⟨[], [], .nop⟩, ⟨[], [], .nop⟩, ⟨[], [], .bi .sub (.e 6) (.c (.n 1))⟩, ⟨[], [], .ix (.e 3) [] (.e 16)⟩, ⟨[], [], .nop⟩, ⟨[], [], .ln (.e 17) []⟩, ⟨[], [], .bi .lss (.e 9) (.e 18)⟩] [some 0, some 1, none, some 3, some 4, some 5, some 6, some 7, none, some 9, none, none, none, none, none, some 19])
          (.cond 15 (.skip) (.exit 6))))
          ((.seq (.block 7 (.reg [⟨[], [], .nop⟩, ⟨[], [], .nop⟩, ⟨[], [], .nop⟩, ⟨[], [], .bi .add (.e 9) (.e 4)⟩, ⟨[], [], .nop⟩, ⟨[], [], .bi .sub (.e 16) (.e 6)⟩, ⟨[], [], .nop⟩, ⟨[], [], .nop⟩, ⟨[], [], .nop⟩, ⟨[], [], .bi .add (.e 9) (.e 4)⟩, ⟨[], [], .nop⟩, ⟨[], [], .bi .sub (.e 18) (.e 6)⟩, ⟨[], [], .ix (.e 7) [] (.e 19)⟩, ⟨[], [], .nop⟩, ⟨[], [], .nop⟩, ⟨[], [], .nop⟩, ⟨[], [], .bi .sub (.e 6) (.c (.n 1))⟩, ⟨[], [], .ix (.e 3) [] (.e 21)⟩, ⟨[], [], .nop⟩, ⟨[], [], .nop⟩, ⟨[], [], .ix (.e 22) [] (.e 9)⟩, ⟨[], [], .nop⟩, ⟨[], [], .bi .add (.e 20) (.e 23)⟩, ⟨[], [], .ix (.e 7) [] (.e 17)⟩, ⟨[], [], .up 7 [.e 17] (.e 24)⟩] [some 0, some 1, none, some 3, some 4, some 5, some 6, some 26, none, some 9, none, none, none, none, none, none]))
          (.reg [⟨[], [], .nop⟩, ⟨[], [], .bi .add (.e 9) (.c (.n 1))⟩, ⟨[], [], .nop⟩] [some 0, some 1, none, some 3, some 4, some 5, some 6, some 7, none, some 16, none, none, none, none, none, none]))))))))) (.skip))))
       (.reg [⟨[], [], .nop⟩, ⟨[], [], .nop⟩, ⟨[], [], .li (.o .v) [(.e 7)]⟩, ⟨[], [], .ap false (.e 5) (.e 16)⟩, ⟨[], [], .nop⟩] [some 0, some 1, none, some 3, some 4, some 17, some 6, none, none, none, none, none, none, none, none, none]))))))))
      (.reg [⟨[], [], .nop⟩, ⟨[], [], .bi .add (.e 6) (.c (.n 1))⟩, ⟨[], [], .nop⟩] [some 0, some 1, none, some 3, some 4, some 5, some 16, none, none, none, none, none, none, none, none, none])))))))))
    (.reg [⟨[], [], .nop⟩, ⟨[], [], .nop⟩] [some 0, some 1, none, some 5, some 4, none, none, none, none, none, none, none, none, none, none, none]))))))
   (.reg [⟨[], [], .nop⟩, ⟨[], [], .bi .add (.e 4) (.c (.n 1))⟩, ⟨[], [], .nop⟩] [some 0, some 1, none, some 3, some 16, none, none, none, none, none, none, none, none, none, none, none])))))))))
 ((.seq (.reg [⟨[], [], .nop⟩, ⟨[], [], .nop⟩, ⟨[], [], .ix (.e 3) [] (.e 1)⟩, ⟨[], [], .nop⟩, ⟨[], [], .nop⟩] [none, none, some 16, none, none, none, none, none, none, none, none, none, none, none, none, none])
 (.ret))))))))⟩

/-- loop.example/g03401/spec.l14Divide -/
def ir_spec_l14Divide : IF := ⟨[], 2, 11, [2, 3],
 (.seq (.reg [⟨[], [], .cs (.o .v) (.l [])⟩, ⟨[], [], .cs (.o .v) (.l [])⟩] [some 0, some 1, none, none, none, none, none, none, none, none, none])
 ((.seq (.reg [⟨[], [], .li (.o .v) []⟩, ⟨[], [], .nop⟩, ⟨[], [], .ap true (.e 11) (.e 0)⟩, ⟨[], [], .nop⟩] [some 0, some 1, none, none, some 12, none, none, none, none, none, none])
 ((.seq (.reg [⟨[], [], .nop⟩, ⟨[], [], .ln (.e 0) []⟩, ⟨[], [], .nop⟩, ⟨[], [], .ln (.e 1) []⟩, ⟨[], [], .bi .sub (.e 11) (.e 12)⟩, ⟨[], [], .bi .add (.e 13) (.c (.n 1))⟩, ⟨[], [], .mx (.c (.n 0)) (.e 14)⟩, ⟨[], [], .mk (.n 0) (.e 15) (.e 15)⟩, ⟨[], [], .nop⟩] [none, some 1, none, none, some 4, some 16, none, none, none, none, none])
 ((.seq ((.seq (.reg [⟨[], [], .nop⟩, ⟨[], [], .ln (.e 5) []⟩, ⟨[], [], .bi .sub (.e 11) (.c (.n 1))⟩, ⟨[], [], .nop⟩] [none, some 1, none, none, some 4, some 5, some 12, none, none, none, none])
 (.block 0 (.loop ((.seq ((.seq (.reg [⟨[], [], .nop⟩, ⟨[], [], .bi .geq (.e 6) (.c (.n 0))⟩] [none, some 1, none, none, some 4, some 5, some 6, none, none, some 11, none])
   (.cond 9 (.skip) (.exit 0))))
   ((.seq (.block 1 ((.seq (.reg [⟨[], [], .nop⟩, ⟨[], [], .nop⟩, ⟨[], [], .nop⟩, ⟨[], [], .ln (.e 1) []⟩, ⟨[], [], .bi .add (.e 6) (.e 11)⟩, ⟨[], [], .bi .sub (.e 12) (.c (.n 1))⟩, ⟨[], [], .ix (.e 4) [] (.e 13)⟩, ⟨[], [], .nop⟩, ⟨[], [], .nop⟩] [none, some 1, none, none, some 4, some 5, some 6, some 14, none, none, none])
    ((.seq (.reg [⟨[], [], .nop⟩, ⟨[], [], .nop⟩, ⟨[], [], .nop⟩, ⟨[], [], .ix (.e 5) [] (.e 6)⟩, ⟨[], [], .up 5 [.e 6] (.e 7)⟩] [none, some 1, none, none, some 4, some 12, some 6, some 7, none, none, none])
    ((.seq (.reg [⟨[], [], .cs .v (.n 0)⟩] [none, some 1, none, none, some 4, some 5, some 6, some 7, some 11, none, none])
    (.block 2 (.loop ((.seq ((.seq (.reg [⟨[], [], .nop⟩, ⟨[], [], .nop⟩, ⟨[], [], .ln (.e 1) []⟩, ⟨[], [], .bi .lss (.e 8) (.e 11)⟩] [none, some 1, none, none, some 4, some 5, some 6, some 7, some 8, none, some 12])
      (.cond 10 (.skip) (.exit 2))))
      ((.seq (.block 3 (.reg [⟨[], [], .nop⟩, ⟨[], [], .nop⟩, ⟨[], [], .nop⟩, ⟨[], [], .bi .add (.e 6) (.e 8)⟩, ⟨[], [], .nop⟩, ⟨[], [], .nop⟩, ⟨[], [], .nop⟩, ⟨[], [], .bi .add (.e 6) (.e 8)⟩, ⟨[], [], .ix (.e 4) [] (.e 12)⟩, ⟨[], [], .nop⟩, ⟨[], [], .nop⟩, ⟨[], [], .nop⟩, ⟨[], [], .nop⟩, ⟨[], [], .iy (.e 1) (.e 8)⟩, ⟨[], [], .nop⟩, ⟨[], [], .bi .mul (.e 7) (.e 14)⟩, ⟨[], [], .bi .sub (.e 13) (.e 15)⟩, ⟨[], [], .ix (.e 4) [] (.e 11)⟩, ⟨[], [], .up 4 [.e 11] (.e 16)⟩] [none, some 1, none, none, some 18, some 5, some 6, some 7, some 8, none, none]))
      (.reg [⟨[], [], .nop⟩, ⟨[], [], .bi .add (.e 8) (.c (.n 1))⟩, ⟨[], [], .nop⟩] [none, some 1, none, none, some 4, some 5, some 6, some 7, some 11, none, none]))))))))))))))
   (.reg [⟨[], [], .nop⟩, ⟨[], [], .bi .sub (.e 6) (.c (.n 1))⟩, ⟨[], [], .nop⟩] [none, some 1, none, none, some 4, some 5, some 11, none, none, none, none])))))))))
 ((.seq (.reg [⟨[], [], .nop⟩, ⟨[], [], .ca 463 [(.e 5)] 1⟩, ⟨[], [], .nop⟩, ⟨[], [], .ca 463 [(.e 4)] 1⟩, ⟨[], [], .nop⟩, ⟨[], [], .nop⟩] [none, none, some 11, some 12, none, none, none, none, none, none, none])
 (.ret))))))))))⟩

/-- loop.example/g03401/spec.l14Number -/
def ir_spec_l14Number : IF := ⟨[], 1, 5, [1],
 (.seq (.reg [⟨[], [], .cs (.o .v) (.l [])⟩] [some 0, none, none, none, none])
 ((.seq (.reg [⟨[], [], .li (.o .v) []⟩, ⟨[], [], .nop⟩] [some 0, none, some 5, none, none])
 ((.seq ((.seq (.reg [⟨[], [], .cs .v (.n 0)⟩] [some 0, none, some 2, some 5, none])
 (.block 0 (.loop ((.seq ((.seq (.reg [⟨[], [], .nop⟩, ⟨[], [], .nop⟩, ⟨[], [], .bi .lss (.e 3) (.e 0)⟩] [some 0, none, some 2, some 3, some 5])
   (.cond 4 (.skip) (.exit 0))))
   ((.seq (.block 1 (.reg [⟨[], [], .nop⟩, ⟨[], [], .li (.o .v) [(.c (.n 1))]⟩, ⟨[], [], .ap false (.e 2) (.e 5)⟩, ⟨[], [], .nop⟩] [some 0, none, some 6, some 3, none]))
   (.reg [⟨[], [], .nop⟩, ⟨[], [], .bi .add (.e 3) (.c (.n 1))⟩, ⟨[], [], .nop⟩] [some 0, none, some 2, some 5, none])))))))))
 ((.seq (.reg [⟨[], [], .nop⟩, ⟨[], [], .nop⟩] [none, some 2, none, none, none])
 (.ret))))))))⟩

/-- loop.example/g03401/spec.l14Small -/
def ir_spec_l14Small : IF := ⟨[], 1, 5, [1],
 (.seq (.reg [⟨[], [], .cs .v (.b false)⟩] [some 0, none, none, none, none])
 ((.seq ((.seq (.reg [⟨[], [], .cs .v (.n 0)⟩] [some 0, none, some 5, none, none])
 (.block 0 (.loop ((.seq ((.seq (.reg [⟨[], [], .nop⟩, ⟨[], [], .nop⟩, ⟨[], [], .ln (.e 0) []⟩, ⟨[], [], .bi .lss (.e 2) (.e 5)⟩] [some 0, none, some 2, some 6, none])
   (.cond 3 (.skip) (.exit 0))))
   ((.seq (.block 1 ((.seq (.reg [⟨[], [], .nop⟩, ⟨[], [], .nop⟩, ⟨[], [], .iy (.e 0) (.e 2)⟩, ⟨[], [], .nop⟩, ⟨[], [], .ca 22 [(.e 5), (.c (.n (-100000))), (.c (.n 100000))] 1⟩, ⟨[], [], .un .not (.e 6)⟩] [some 0, none, some 2, none, some 7])
    (.cond 4 ((.seq (.reg [⟨[], [], .cs .v (.b false)⟩] [none, some 5, none, none, none])
     (.ret))) (.skip)))))
   (.reg [⟨[], [], .nop⟩, ⟨[], [], .bi .add (.e 2) (.c (.n 1))⟩, ⟨[], [], .nop⟩] [some 0, none, some 5, none, none])))))))))
 ((.seq (.reg [⟨[], [], .nop⟩, ⟨[], [], .ca 429 [(.e 0)] 1⟩, ⟨[], [], .nop⟩] [none, some 5, none, none, none])
 (.ret))))))⟩

/-- loop.example/g03401/spec.l14Times -/
def ir_spec_l14Times : IF := ⟨[], 2, 9, [2],
 (.seq (.reg [⟨[], [], .cs (.o .v) (.l [])⟩] [some 0, some 1, none, none, none, none, none, none, none])
 ((.seq ((.seq (.reg [⟨[], [], .nop⟩, ⟨[], [], .ln (.e 0) []⟩, ⟨[], [], .bi .eql (.e 9) (.c (.n 0))⟩, ⟨[], [], .nop⟩, ⟨[], [(10, false)], .nop⟩, ⟨[], [(10, false)], .ln (.e 1) []⟩, ⟨[], [(10, false)], .bi .eql (.e 11) (.c (.n 0))⟩, ⟨[], [], .pk (.e 10) (.c (.b true)) (.e 12)⟩] [some 0, some 1, none, none, none, none, some 13, none, none])
 (.cond 6 ((.seq (.reg [⟨[], [], .li (.o .v) []⟩, ⟨[], [], .nop⟩] [none, none, some 9, none, none, none, none, none, none])
  (.ret))) (.skip))))
 ((.seq (.reg [⟨[], [], .nop⟩, ⟨[], [], .ln (.e 0) []⟩, ⟨[], [], .nop⟩, ⟨[], [], .ln (.e 1) []⟩, ⟨[], [], .bi .add (.e 9) (.e 10)⟩, ⟨[], [], .bi .sub (.e 11) (.c (.n 1))⟩, ⟨[], [], .mk (.n 0) (.e 12) (.e 12)⟩, ⟨[], [], .nop⟩] [some 0, some 1, none, some 13, none, none, none, none, none])
 ((.seq ((.seq (.reg [⟨[], [], .cs .v (.n 0)⟩] [some 0, some 1, none, some 3, some 9, none, none, none, none])
 (.block 0 (.loop ((.seq ((.seq (.reg [⟨[], [], .nop⟩, ⟨[], [], .nop⟩, ⟨[], [], .ln (.e 0) []⟩, ⟨[], [], .bi .lss (.e 4) (.e 9)⟩] [some 0, some 1, none, some 3, some 4, none, none, some 10, none])
   (.cond 7 (.skip) (.exit 0))))
   ((.seq (.block 1 ((.seq (.reg [⟨[], [], .cs .v (.n 0)⟩] [some 0, some 1, none, some 3, some 4, some 9, none, none, none])
    (.block 2 (.loop ((.seq ((.seq (.reg [⟨[], [], .nop⟩, ⟨[], [], .nop⟩, ⟨[], [], .ln (.e 1) []⟩, ⟨[], [], .bi .lss (.e 5) (.e 9)⟩] [some 0, some 1, none, some 3, some 4, some 5, none, none, some 10])
      (.cond 8 (.skip) (.exit 2))))
      ((.seq (.block 3 (.reg [⟨[], [], .nop⟩, ⟨[], [], .nop⟩, ⟨[], [], .nop⟩, ⟨[], [], .bi .add (.e 4) (.e 5)⟩, ⟨[], [], .nop⟩, ⟨[], [], .nop⟩, ⟨[], [], .nop⟩, ⟨[], [], .bi .add (.e 4) (.e 5)⟩, ⟨[], [], .ix (.e 3) [] (.e 10)⟩, ⟨[], [], .nop⟩, ⟨[], [], .nop⟩, ⟨[], [], .nop⟩, ⟨[], [], .iy (.e 0) (.e 4)⟩, ⟨[], [], .nop⟩, ⟨[], [], .nop⟩, ⟨[], [], .nop⟩, ⟨[], [], .iy (.e 1) (.e 5)⟩, ⟨[], [], .nop⟩, ⟨[], [], .bi .mul (.e 12) (.e 13)⟩, ⟨[], [], .bi .add (.e 11) (.e 14)⟩, ⟨[], [], .ix (.e 3) [] (.e 9)⟩, ⟨[], [], .up 3 [.e 9] (.e 15)⟩] [some 0, some 1, none, some 17, some 4, some 5, none, none, none]))
      (.reg [⟨[], [], .nop⟩, ⟨[], [], .bi .add (.e 5) (.c (.n 1))⟩, ⟨[], [], .nop⟩] [some 0, some 1, none, some 3, some 4, some 9, none, none, none]))))))))))
   (.reg [⟨[], [], .nop⟩, ⟨[], [], .bi .add (.e 4) (.c (.n 1))⟩, ⟨[], [], .nop⟩] [some 0, some 1, none, some 3, some 9, none, none, none, none])))))))))
 ((.seq (.reg [⟨[], [], .nop⟩, ⟨[], [], .ca 463 [(.e 3)] 1⟩, ⟨[], [], .nop⟩] [none, none, some 9, none, none, none, none, none, none])
 (.ret))))))))))⟩

/-- loop.example/g03401/spec.l14Trim -/
def ir_spec_l14Trim : IF := ⟨[], 1, 4, [1],
 (.seq (.reg [⟨[], [], .cs (.o .v) (.l [])⟩] [some 0, none, none, none])
 ((.seq (.reg [⟨[], [], .nop⟩, ⟨[], [], .ln (.e 0) []⟩, ⟨[], [], .nop⟩] [some 0, none, some 4, none])
 ((.seq (.block 0 (.loop ((.seq ((.seq (.reg [⟨[], [], .nop⟩, ⟨[], [], .bi .gtr (.e 2) (.c (.n 0))⟩, ⟨[], [], .nop⟩, ⟨[], [(4, true)], .nop⟩, ⟨[], [(4, true)], .cy (.e 2)⟩, ⟨[], [(4, true)], .bi .sub (.e 5) (.c (.n 1))⟩, ⟨[], [(4, true)], .iy (.e 0) (.e 6)⟩, ⟨[], [(4, true)], .nop⟩, ⟨[], [(4, true)], .bi .eql (.e 7) (.c (.n 0))⟩, ⟨[], [], .pk (.e 4) (.e 8) (.c (.b false))⟩] [some 0, none, some 2, some 9])
   (.cond 3 (.skip) (.exit 0))))
   (.block 1 (.reg [⟨[], [], .nop⟩, ⟨[], [], .bi .sub (.e 2) (.c (.n 1))⟩, ⟨[], [], .nop⟩] [some 0, none, some 4, none]))))))
 ((.seq (.reg [⟨[], [], .li (.o .v) []⟩, ⟨[], [], .nop⟩, ⟨[], [], .nop⟩, ⟨[], [], .sb false (.e 0) none (some (.e 2))⟩, ⟨[], [], .ap true (.e 4) (.e 5)⟩, ⟨[], [], .nop⟩] [none, some 6, none, none])
 (.ret))))))))⟩

/-- loop.example/g03401/spec.l14Two -/
def ir_spec_l14Two : IF := ⟨[], 1, 5, [1, 2],
 (.seq (.reg [⟨[], [], .cs (.o .v) (.l [])⟩, ⟨[], [], .cs (.o .v) (.l [])⟩] [some 0, none, none, none, none])
 ((.seq (.reg [⟨[], [], .nop⟩, ⟨[], [], .ca 288 [(.e 0)] 1⟩, ⟨[], [], .nop⟩] [none, none, none, some 5, none])
 ((.seq (.reg [⟨[], [], .nop⟩, ⟨[], [], .ca 459 [(.e 3)] 2⟩, ⟨[], [], .nop⟩] [none, none, none, some 6, some 5])
 ((.seq (.reg [⟨[], [], .nop⟩, ⟨[], [], .nop⟩, ⟨[], [], .ca 459 [(.e 3)] 2⟩, ⟨[], [], .nop⟩, ⟨[], [], .nop⟩] [none, some 4, some 5, none, none])
 (.ret))))))))⟩

end Go.Cat

namespace Go.Cat
end Go.Cat

namespace Go.Cat
end Go.Cat

namespace Go.Cat
end Go.Cat

namespace Go.Cat
end Go.Cat

namespace Go.Cat
end Go.Cat

namespace Go.Cat
end Go.Cat

namespace Go.Cat
end Go.Cat

namespace Go.Cat
end Go.Cat

namespace Go.Cat
end Go.Cat

namespace Go.Cat
end Go.Cat

namespace Go.Cat
end Go.Cat

namespace Go.Cat
end Go.Cat

namespace Go.Cat
end Go.Cat

namespace Go.Cat
/-- loop.example/g03401/impl.partners -/
def ir_impl_partners : IF := ⟨[], 1, 8, [1],
 (.seq (.reg [⟨[], [], .cs (.o .v) (.l [])⟩] [some 0, none, none, none, none, none, none, none])
 ((.seq (.reg [⟨[], [], .nop⟩, ⟨[], [], .sn (.e 0)⟩, ⟨[], [], .mk (.n 0) (.e 8) (.e 8)⟩, ⟨[], [], .nop⟩] [some 0, none, some 9, none, none, none, none, none])
 ((.seq (.reg [⟨[], [], .li (.o .v) []⟩, ⟨[], [], .nop⟩] [some 0, none, some 2, some 8, none, none, none, none])
 ((.seq ((.seq (.reg [⟨[], [], .cs .v (.n 0)⟩] [some 0, none, some 2, some 3, some 8, none, none, none])
 (.block 0 (.loop ((.seq ((.seq (.reg [⟨[], [], .nop⟩, ⟨[], [], .nop⟩, ⟨[], [], .sn (.e 0)⟩, ⟨[], [], .bi .lss (.e 4) (.e 8)⟩] [some 0, none, some 2, some 3, some 4, none, some 9, none])
   (.cond 6 (.skip) (.exit 0))))
   ((.seq (.block 1 ((.seq ((.seq (.reg [⟨[], [], .nop⟩, ⟨[], [], .nop⟩, ⟨[], [], .sx (.e 0) (.e 4)⟩, ⟨[], [], .bi .eql (.e 8) (.c (.y 117))⟩] [some 0, none, some 2, some 3, some 4, none, none, some 9])
    (.cond 7 ((.seq (.reg [⟨[], [], .nop⟩, ⟨[], [], .nop⟩, ⟨[], [], .li (.o .v) [(.e 4)]⟩, ⟨[], [], .ap false (.e 3) (.e 8)⟩, ⟨[], [], .nop⟩] [some 0, none, some 2, some 9, some 4, none, none, none])
     (.exit 1))) (.skip))))
    ((.seq (.reg [⟨[], [], .nop⟩, ⟨[], [], .nop⟩, ⟨[], [], .ln (.e 3) []⟩, ⟨[], [], .bi .sub (.e 8) (.c (.n 1))⟩, ⟨[], [], .ix (.e 3) [] (.e 9)⟩, ⟨[], [], .nop⟩, ⟨[], [], .nop⟩] [some 0, none, some 2, some 3, some 4, some 10, none, none])
    ((.seq (.reg [⟨[], [], .nop⟩, ⟨[], [], .nop⟩, ⟨[], [], .ln (.e 3) []⟩, ⟨[], [], .bi .sub (.e 8) (.c (.n 1))⟩, ⟨[], [], .sb true (.e 3) none (some (.e 9))⟩, ⟨[], [], .nop⟩] [some 0, none, some 2, some 10, some 4, some 5, none, none])
    ((.seq (.reg [⟨[], [], .nop⟩, ⟨[], [], .nop⟩, ⟨[], [], .nop⟩, ⟨[], [], .ix (.e 2) [] (.e 4)⟩, ⟨[], [], .up 2 [.e 4] (.e 5)⟩] [some 0, none, some 9, some 3, some 4, some 5, none, none])
    (.reg [⟨[], [], .nop⟩, ⟨[], [], .nop⟩, ⟨[], [], .nop⟩, ⟨[], [], .ix (.e 2) [] (.e 5)⟩, ⟨[], [], .up 2 [.e 5] (.e 4)⟩] [some 0, none, some 9, some 3, some 4, none, none, none]))))))))))
   (.reg [⟨[], [], .nop⟩, ⟨[], [], .bi .add (.e 4) (.c (.n 1))⟩, ⟨[], [], .nop⟩] [some 0, none, some 2, some 3, some 8, none, none, none])))))))))
 ((.seq (.reg [⟨[], [], .nop⟩, ⟨[], [], .nop⟩] [none, some 2, none, none, none, none, none, none])
 (.ret))))))))))⟩

end Go.Cat

namespace Go.Cat
end Go.Cat

namespace Go.Cat
end Go.Cat

namespace Go.Cat
end Go.Cat

namespace Go.Cat
end Go.Cat

namespace Go.Cat
end Go.Cat

namespace Go.Cat
end Go.Cat

namespace Go.Cat
end Go.Cat

namespace Go.Cat
end Go.Cat

namespace Go.Cat
end Go.Cat

namespace Go.Cat
end Go.Cat

namespace Go.Cat
end Go.Cat

namespace Go.Cat
end Go.Cat

namespace Go.Cat
end Go.Cat

namespace Go.Cat
end Go.Cat

namespace Go.Cat
end Go.Cat

namespace Go.Cat
end Go.Cat

namespace Go.Cat
end Go.Cat

namespace Go.Cat
end Go.Cat

namespace Go.Cat
end Go.Cat

namespace Go.Cat
end Go.Cat

namespace Go.Cat
end Go.Cat

namespace Go.Cat
end Go.Cat

namespace Go.Cat
end Go.Cat

namespace Go.Cat
end Go.Cat

namespace Go.Cat
end Go.Cat

namespace Go.Cat
end Go.Cat

namespace Go.Cat
end Go.Cat

