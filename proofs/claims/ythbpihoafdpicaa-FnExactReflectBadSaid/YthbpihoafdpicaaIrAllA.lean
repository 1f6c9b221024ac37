/-
  Texts of the little language.
-/
import Derived.Test.YthbpihoafdpicaaCatTwo
namespace Go.Cat
/-- loop.example/g03401/impl.IsDyck -/
def ir_impl_IsDyck : IF := ⟨1, 4, [1],
 (.seq (.reg [⟨[], [], .cs .v (.b false)⟩] [some 0, none, none, none])
 ((.seq ((.seq (.reg [⟨[], [], .nop⟩, ⟨[], [], .sn (.e 0)⟩, ⟨[], [], .bi .gtr (.e 4) (.c (.n 16))⟩] [some 0, none, none, some 5])
 (.cond 3 ((.seq (.reg [⟨[], [], .cs .v (.b false)⟩] [none, some 4, none, none])
  (.ret))) (.skip))))
 ((.seq (.reg [⟨[], [], .nop⟩, ⟨[], [], .ca 82 [(.e 0)] 2⟩, ⟨[], [], .nop⟩, ⟨[], [], .nop⟩, ⟨[], [], .nop⟩, ⟨[], [], .nop⟩, ⟨[], [], .nop⟩] [none, none, some 5, none])
 ((.seq (.reg [⟨[], [], .nop⟩, ⟨[], [], .nop⟩] [none, some 2, none, none])
 (.ret))))))))⟩

/-- loop.example/g03401/impl.SizeOf -/
def ir_impl_SizeOf : IF := ⟨1, 3, [1],
 (.seq (.reg [⟨[], [], .cs .v (.n 0)⟩] [some 0, none, none])
 ((.seq ((.seq (.reg [⟨[], [], .nop⟩, ⟨[], [], .ca 67 [(.e 0)] 1⟩, ⟨[], [], .un .not (.e 3)⟩] [some 0, none, some 4])
 (.cond 2 ((.seq (.reg [⟨[], [], .cs .v (.n (-1))⟩] [none, some 3, none])
  (.ret))) (.skip))))
 ((.seq (.reg [⟨[], [], .nop⟩, ⟨[], [], .sn (.e 0)⟩, ⟨[], [], .bi .quo (.e 3) (.c (.n 2))⟩, ⟨[], [], .nop⟩] [none, some 4, none])
 (.ret))))))⟩

/-- loop.example/g03401/impl.copyInts -/
def ir_impl_copyInts : IF := ⟨1, 2, [1],
 (.seq (.reg [⟨[], [], .cs (.o .v) (.l [])⟩] [some 0, none])
 ((.seq (.reg [⟨[], [], .li (.o .v) []⟩, ⟨[], [], .nop⟩, ⟨[], [], .ap true (.e 2) (.e 0)⟩, ⟨[], [], .nop⟩] [none, some 3])
 (.ret))))⟩

/-- loop.example/g03401/impl.equalInts -/
def ir_impl_equalInts : IF := ⟨2, 9, [2],
 (.seq (.reg [⟨[], [], .cs .v (.b false)⟩] [some 0, some 1, none, none, none, none, none, none, none])
 ((.seq ((.seq (.reg [⟨[], [], .nop⟩, ⟨[], [], .ln (.e 0) []⟩, ⟨[], [], .nop⟩, ⟨[], [], .ln (.e 1) []⟩, ⟨[], [], .bi .neq (.e 9) (.e 10)⟩] [some 0, some 1, none, none, some 11, none, none, none, none])
 (.cond 4 ((.seq (.reg [⟨[], [], .cs .v (.b false)⟩] [none, none, some 9, none, none, none, none, none, none])
  (.ret))) (.skip))))
 ((.seq ((.seq (.reg [⟨[], [], .nop⟩, ⟨[], [], .ln (.e 0) []⟩, ⟨[], [], .cs .v (.n 0)⟩] [some 0, some 1, none, none, none, some 9, some 10, none, none])
 (.block 0 (.loop ((.seq (.reg [⟨[], [], .bi .lss (.e 6) (.e 5)⟩] [some 0, some 1, none, none, none, some 5, some 6, some 9, none])
   ((.seq (.cond 7 (.skip) (.exit 0))
   ((.seq (.block 1 ((.seq (.reg [⟨[], [], .nop⟩, ⟨[], [], .nop⟩] [some 0, some 1, none, some 6, none, some 5, some 6, none, none])
    ((.seq (.reg [⟨[], [], .nop⟩, ⟨[], [], .nop⟩, ⟨[], [], .iy (.e 0) (.e 3)⟩, ⟨[], [], .nop⟩, ⟨[], [], .nop⟩, ⟨[], [], .nop⟩, ⟨[], [], .iy (.e 1) (.e 3)⟩, ⟨[], [], .nop⟩, ⟨[], [], .bi .neq (.e 9) (.e 10)⟩] [some 0, some 1, none, none, none, some 5, some 6, none, some 11])
    (.cond 8 ((.seq (.reg [⟨[], [], .cs .v (.b false)⟩] [none, none, some 9, none, none, none, none, none, none])
     (.ret))) (.skip)))))))
   (.reg [⟨[], [], .bi .add (.e 6) (.c (.n 1))⟩, ⟨[], [], .nop⟩] [some 0, some 1, none, none, none, some 5, some 9, none, none])))))))))))
 ((.seq (.reg [⟨[], [], .cs .v (.b true)⟩] [none, none, some 9, none, none, none, none, none, none])
 (.ret))))))))⟩

/-- loop.example/g03401/impl.glued -/
def ir_impl_glued : IF := ⟨2, 11, [2],
 (.seq (.reg [⟨[], [], .cs .v (.s [])⟩] [some 0, some 1, none, none, none, none, none, none, none, none, none])
 ((.seq (.reg [⟨[], [], .cs .v (.s [])⟩] [some 0, some 1, none, some 11, none, none, none, none, none, none, none])
 ((.seq ((.seq (.reg [⟨[], [], .nop⟩, ⟨[], [], .ln (.e 0) []⟩, ⟨[], [], .cs .v (.n 0)⟩] [none, some 1, none, some 3, none, none, some 0, some 11, some 12, none, none])
 (.block 0 (.loop ((.seq (.reg [⟨[], [], .bi .lss (.e 8) (.e 7)⟩] [none, some 1, none, some 3, none, none, some 6, some 7, some 8, some 11, none])
   ((.seq (.cond 9 (.skip) (.exit 0))
   ((.seq (.block 1 ((.seq (.reg [⟨[], [], .nop⟩, ⟨[], [], .iy (.e 6) (.e 8)⟩, ⟨[], [], .nop⟩, ⟨[], [], .nop⟩, ⟨[], [], .nop⟩] [none, some 1, none, some 3, some 8, some 11, some 6, some 7, some 8, none, none])
    ((.seq ((.seq (.reg [⟨[], [], .nop⟩, ⟨[], [], .bi .gtr (.e 4) (.c (.n 0))⟩] [none, some 1, none, some 3, none, some 5, some 6, some 7, some 8, none, some 11])
    (.cond 10 (.reg [⟨[], [], .nop⟩, ⟨[], [], .nop⟩, ⟨[], [], .bi .add (.e 3) (.e 1)⟩, ⟨[], [], .nop⟩] [none, some 1, none, some 11, none, some 5, some 6, some 7, some 8, none, none]) (.skip))))
    (.reg [⟨[], [], .nop⟩, ⟨[], [], .nop⟩, ⟨[], [], .bi .add (.e 3) (.e 5)⟩, ⟨[], [], .nop⟩] [none, some 1, none, some 11, none, none, some 6, some 7, some 8, none, none]))))))
   (.reg [⟨[], [], .bi .add (.e 8) (.c (.n 1))⟩, ⟨[], [], .nop⟩] [none, some 1, none, some 3, none, none, some 6, some 7, some 11, none, none])))))))))))
 ((.seq (.reg [⟨[], [], .nop⟩, ⟨[], [], .nop⟩] [none, none, some 3, none, none, none, none, none, none, none, none])
 (.ret))))))))⟩

/-- loop.example/g03401/impl.heights -/
def ir_impl_heights : IF := ⟨1, 11, [1, 2],
 (.seq (.reg [⟨[], [], .cs (.o .v) (.l [])⟩, ⟨[], [], .cs .v (.b false)⟩] [some 0, none, none, none, none, none, none, none, none, none, none])
 ((.seq (.reg [⟨[], [], .li (.o .v) [(.c (.n 0))]⟩, ⟨[], [], .nop⟩] [some 0, none, none, some 11, none, none, none, none, none, none, none])
 ((.seq (.reg [⟨[], [], .cs .v (.n 0)⟩] [some 0, none, none, some 3, some 11, none, none, none, none, none, none])
 ((.seq ((.seq (.reg [⟨[], [], .cs .v (.n 0)⟩] [some 0, none, none, some 3, some 4, some 11, none, none, none, none, none])
 (.block 0 (.loop ((.seq ((.seq (.reg [⟨[], [], .nop⟩, ⟨[], [], .nop⟩, ⟨[], [], .sn (.e 0)⟩, ⟨[], [], .bi .lss (.e 5) (.e 11)⟩] [some 0, none, none, some 3, some 4, some 5, some 12, none, none, none, none])
   (.cond 6 (.skip) (.exit 0))))
   ((.seq (.block 1 ((.seq ((.seq (.reg [⟨[], [], .nop⟩, ⟨[], [], .nop⟩, ⟨[], [], .sx (.e 0) (.e 5)⟩] [some 0, none, none, some 3, some 4, some 5, none, some 11, none, none, none])
    (.block 2 ((.seq (.reg [⟨[], [], .bi .eql (.e 7) (.c (.y 117))⟩, ⟨[], [], .nop⟩] [some 0, none, none, some 3, some 4, some 5, none, some 7, some 11, none, none])
     (.cond 8 (.reg [⟨[], [], .nop⟩, ⟨[], [], .bi .add (.e 4) (.c (.n 1))⟩, ⟨[], [], .nop⟩] [some 0, none, none, some 3, some 11, some 5, none, none, none, none, none]) ((.seq (.reg [⟨[], [], .bi .eql (.e 7) (.c (.y 100))⟩, ⟨[], [], .nop⟩] [some 0, none, none, some 3, some 4, some 5, none, none, none, some 11, none])
      (.cond 9 (.reg [⟨[], [], .nop⟩, ⟨[], [], .bi .sub (.e 4) (.c (.n 1))⟩, ⟨[], [], .nop⟩] [some 0, none, none, some 3, some 11, some 5, none, none, none, none, none]) ((.seq (.reg [⟨[], [], .cs (.o .v) (.l [])⟩, ⟨[], [], .cs .v (.b false)⟩] [none, some 11, some 12, none, none, none, none, none, none, none, none])
       (.ret))))))))))))
    ((.seq ((.seq (.reg [⟨[], [], .nop⟩, ⟨[], [], .bi .lss (.e 4) (.c (.n 0))⟩] [some 0, none, none, some 3, some 4, some 5, none, none, none, none, some 11])
    (.cond 10 ((.seq (.reg [⟨[], [], .cs (.o .v) (.l [])⟩, ⟨[], [], .cs .v (.b false)⟩] [none, some 11, some 12, none, none, none, none, none, none, none, none])
     (.ret))) (.skip))))
    (.reg [⟨[], [], .nop⟩, ⟨[], [], .nop⟩, ⟨[], [], .li (.o .v) [(.e 4)]⟩, ⟨[], [], .ap false (.e 3) (.e 11)⟩, ⟨[], [], .nop⟩] [some 0, none, none, some 12, some 4, some 5, none, none, none, none, none]))))))
   (.reg [⟨[], [], .nop⟩, ⟨[], [], .bi .add (.e 5) (.c (.n 1))⟩, ⟨[], [], .nop⟩] [some 0, none, none, some 3, some 4, some 11, none, none, none, none, none])))))))))
 ((.seq (.reg [⟨[], [], .nop⟩, ⟨[], [], .nop⟩, ⟨[], [], .bi .eql (.e 4) (.c (.n 0))⟩, ⟨[], [], .nop⟩, ⟨[], [], .nop⟩] [none, some 3, some 11, none, none, none, none, none, none, none, none])
 (.ret))))))))))⟩

end Go.Cat

namespace Go.Cat
/-- loop.example/g03401/impl.exchanged -/
def ir_impl_exchanged : IF := ⟨3, 11, [3, 4],
 (.seq (.reg [⟨[], [], .cs .v (.s [])⟩, ⟨[], [], .cs .v (.b false)⟩] [some 0, some 1, some 2, none, none, none, none, none, none, none, none])
 ((.seq (.reg [⟨[], [], .li (.o .v) []⟩, ⟨[], [], .nop⟩] [some 0, some 1, some 2, none, none, some 11, none, none, none, none, none])
 ((.seq ((.seq (.reg [⟨[], [], .cs .v (.n 0)⟩] [some 0, some 1, some 2, none, none, some 5, some 11, none, none, none, none])
 (.block 0 (.loop ((.seq ((.seq (.reg [⟨[], [], .nop⟩, ⟨[], [], .nop⟩, ⟨[], [], .sn (.e 0)⟩, ⟨[], [], .bi .lss (.e 6) (.e 11)⟩] [some 0, some 1, some 2, none, none, some 5, some 6, some 12, none, none, none])
   (.cond 7 (.skip) (.exit 0))))
   ((.seq (.block 1 ((.seq (.reg [⟨[], [], .nop⟩, ⟨[], [], .nop⟩, ⟨[], [], .sx (.e 0) (.e 6)⟩] [some 0, some 1, some 2, none, none, some 5, some 6, none, some 11, none, none])
    (.block 2 ((.seq (.reg [⟨[], [], .nop⟩, ⟨[], [], .sx (.e 1) (.c (.n 0))⟩, ⟨[], [], .bi .eql (.e 8) (.e 11)⟩, ⟨[], [], .nop⟩] [some 0, some 1, some 2, none, none, some 5, some 6, none, some 8, some 12, none])
     (.cond 9 (.reg [⟨[], [], .nop⟩, ⟨[], [], .nop⟩, ⟨[], [], .sx (.e 2) (.c (.n 0))⟩, ⟨[], [], .li (.o .v) [(.e 11)]⟩, ⟨[], [], .ap false (.e 5) (.e 12)⟩, ⟨[], [], .nop⟩] [some 0, some 1, some 2, none, none, some 13, some 6, none, none, none, none]) ((.seq (.reg [⟨[], [], .nop⟩, ⟨[], [], .sx (.e 1) (.c (.n 1))⟩, ⟨[], [], .bi .eql (.e 8) (.e 11)⟩, ⟨[], [], .nop⟩] [some 0, some 1, some 2, none, none, some 5, some 6, none, none, none, some 12])
      (.cond 10 (.reg [⟨[], [], .nop⟩, ⟨[], [], .nop⟩, ⟨[], [], .sx (.e 2) (.c (.n 1))⟩, ⟨[], [], .li (.o .v) [(.e 11)]⟩, ⟨[], [], .ap false (.e 5) (.e 12)⟩, ⟨[], [], .nop⟩] [some 0, some 1, some 2, none, none, some 13, some 6, none, none, none, none]) ((.seq (.reg [⟨[], [], .cs .v (.s [])⟩, ⟨[], [], .cs .v (.b false)⟩] [none, none, none, some 11, some 12, none, none, none, none, none, none])
       (.ret)))))))))))))
   (.reg [⟨[], [], .nop⟩, ⟨[], [], .bi .add (.e 6) (.c (.n 1))⟩, ⟨[], [], .nop⟩] [some 0, some 1, some 2, none, none, some 5, some 11, none, none, none, none])))))))))
 ((.seq (.reg [⟨[], [], .nop⟩, ⟨[], [], .bs (.e 5)⟩, ⟨[], [], .nop⟩, ⟨[], [], .cs .v (.b true)⟩] [none, none, none, some 11, some 12, none, none, none, none, none, none])
 (.ret))))))))⟩

end Go.Cat

namespace Go.Cat
/-- loop.example/g03401/impl.count -/
def ir_impl_count : IF := ⟨2, 7, [2],
 (.seq (.reg [⟨[], [], .cs .v (.n 0)⟩] [some 0, some 1, none, none, none, none, none])
 ((.seq (.reg [⟨[], [], .cs .v (.n 0)⟩] [some 0, some 1, none, some 7, none, none, none])
 ((.seq ((.seq (.reg [⟨[], [], .cs .v (.n 0)⟩] [some 0, some 1, none, some 3, some 7, none, none])
 (.block 0 (.loop ((.seq ((.seq (.reg [⟨[], [], .nop⟩, ⟨[], [], .nop⟩, ⟨[], [], .sn (.e 0)⟩, ⟨[], [], .bi .lss (.e 4) (.e 7)⟩] [some 0, some 1, none, some 3, some 4, some 8, none])
   (.cond 5 (.skip) (.exit 0))))
   ((.seq (.block 1 ((.seq (.reg [⟨[], [], .nop⟩, ⟨[], [], .nop⟩, ⟨[], [], .sx (.e 0) (.e 4)⟩, ⟨[], [], .nop⟩, ⟨[], [], .bi .eql (.e 7) (.e 1)⟩] [some 0, some 1, none, some 3, some 4, none, some 8])
    (.cond 6 (.reg [⟨[], [], .nop⟩, ⟨[], [], .bi .add (.e 3) (.c (.n 1))⟩, ⟨[], [], .nop⟩] [some 0, some 1, none, some 7, some 4, none, none]) (.skip)))))
   (.reg [⟨[], [], .nop⟩, ⟨[], [], .bi .add (.e 4) (.c (.n 1))⟩, ⟨[], [], .nop⟩] [some 0, some 1, none, some 3, some 7, none, none])))))))))
 ((.seq (.reg [⟨[], [], .nop⟩, ⟨[], [], .nop⟩] [none, none, some 3, none, none, none, none])
 (.ret))))))))⟩

end Go.Cat

namespace Go.Cat
/-- loop.example/g03401/impl.DyckOfCircle -/
def ir_impl_DyckOfCircle : IF := ⟨1, 7, [1, 2],
 (.seq (.reg [⟨[], [], .cs .v (.s [])⟩, ⟨[], [], .cs .v (.b false)⟩] [some 0, none, none, none, none, none, none])
 ((.seq (.reg [⟨[], [], .nop⟩, ⟨[], [], .ca 129 [(.e 0)] 2⟩, ⟨[], [], .nop⟩, ⟨[], [], .nop⟩, ⟨[], [], .nop⟩, ⟨[], [], .nop⟩, ⟨[], [], .nop⟩] [some 0, none, none, some 7, some 8, none, none])
 ((.seq ((.seq (.reg [⟨[], [], .nop⟩, ⟨[], [], .un .not (.e 4)⟩] [some 0, none, none, some 3, none, none, some 7])
 (.cond 6 ((.seq (.reg [⟨[], [], .cs .v (.s [])⟩, ⟨[], [], .cs .v (.b false)⟩] [none, some 7, some 8, none, none, none, none])
  (.ret))) (.skip))))
 ((.seq (.reg [⟨[], [], .nop⟩, ⟨[], [], .nop⟩, ⟨[], [], .ss (.e 0) (some (.e 3)) none⟩, ⟨[], [], .nop⟩, ⟨[], [], .nop⟩, ⟨[], [], .ss (.e 0) none (some (.e 3))⟩, ⟨[], [], .bi .add (.e 7) (.e 8)⟩, ⟨[], [], .nop⟩] [none, none, none, none, none, some 9, none])
 ((.seq (.reg [⟨[], [], .nop⟩, ⟨[], [], .nop⟩, ⟨[], [], .sn (.e 5)⟩, ⟨[], [], .bi .sub (.e 7) (.c (.n 1))⟩, ⟨[], [], .ss (.e 5) none (some (.e 8))⟩, ⟨[], [], .nop⟩, ⟨[], [], .cs .v (.b true)⟩] [none, some 9, some 10, none, none, none, none])
 (.ret))))))))))⟩

/-- loop.example/g03401/impl.GoodShift -/
def ir_impl_GoodShift : IF := ⟨1, 9, [1, 2],
 (.seq (.reg [⟨[], [], .cs .v (.n 0)⟩, ⟨[], [], .cs .v (.b false)⟩] [some 0, none, none, none, none, none, none, none, none])
 ((.seq ((.seq (.reg [⟨[], [], .nop⟩, ⟨[], [], .ca 176 [(.e 0)] 1⟩, ⟨[], [], .un .not (.e 9)⟩] [some 0, none, none, none, some 10, none, none, none, none])
 (.cond 4 ((.seq (.reg [⟨[], [], .cs .v (.n 0)⟩, ⟨[], [], .cs .v (.b false)⟩] [none, some 9, some 10, none, none, none, none, none, none])
  (.ret))) (.skip))))
 ((.seq ((.seq (.reg [⟨[], [], .nop⟩, ⟨[], [], .sn (.e 0)⟩, ⟨[], [], .cs .v (.n 0)⟩] [some 0, none, none, none, none, some 9, some 10, none, none])
 (.block 0 (.loop ((.seq (.reg [⟨[], [], .bi .lss (.e 6) (.e 5)⟩] [some 0, none, none, none, none, some 5, some 6, some 9, none])
   ((.seq (.cond 7 (.skip) (.exit 0))
   ((.seq (.block 1 ((.seq (.reg [⟨[], [], .nop⟩, ⟨[], [], .nop⟩] [some 0, none, none, some 6, none, some 5, some 6, none, none])
    ((.seq (.reg [⟨[], [], .nop⟩, ⟨[], [], .nop⟩, ⟨[], [], .ca 177 [(.e 0), (.e 3)] 1⟩] [some 0, none, none, some 3, none, some 5, some 6, none, some 9])
    (.cond 8 ((.seq (.reg [⟨[], [], .nop⟩, ⟨[], [], .nop⟩, ⟨[], [], .cs .v (.b true)⟩] [none, some 3, some 9, none, none, none, none, none, none])
     (.ret))) (.skip)))))))
   (.reg [⟨[], [], .bi .add (.e 6) (.c (.n 1))⟩, ⟨[], [], .nop⟩] [some 0, none, none, none, none, some 5, some 9, none, none])))))))))))
 ((.seq (.reg [⟨[], [], .cs .v (.n 0)⟩, ⟨[], [], .cs .v (.b false)⟩] [none, some 9, some 10, none, none, none, none, none, none])
 (.ret))))))))⟩

/-- loop.example/g03401/impl.IsBalanced -/
def ir_impl_IsBalanced : IF := ⟨1, 2, [1],
 (.seq (.reg [⟨[], [], .cs .v (.b false)⟩] [some 0, none])
 ((.seq (.reg [⟨[], [], .nop⟩, ⟨[], [], .sn (.e 0)⟩, ⟨[], [], .bi .leq (.e 2) (.c (.n 17))⟩, ⟨[], [], .nop⟩, ⟨[], [(3, true)], .cy (.e 0)⟩, ⟨[], [(3, true)], .ca 65 [(.e 4)] 1⟩, ⟨[], [], .pk (.e 3) (.e 5) (.c (.b false))⟩, ⟨[], [], .nop⟩, ⟨[], [(6, true)], .cy (.e 0)⟩, ⟨[], [(6, true)], .ca 66 [(.e 7), (.c (.y 100))] 1⟩, ⟨[], [(6, true)], .cy (.e 0)⟩, ⟨[], [(6, true)], .ca 66 [(.e 9), (.c (.y 117))] 1⟩, ⟨[], [(6, true)], .bi .add (.e 10) (.c (.n 1))⟩, ⟨[], [(6, true)], .bi .eql (.e 8) (.e 11)⟩, ⟨[], [], .pk (.e 6) (.e 12) (.c (.b false))⟩, ⟨[], [], .nop⟩] [none, some 13])
 (.ret))))⟩

/-- loop.example/g03401/impl.areSteps -/
def ir_impl_areSteps : IF := ⟨1, 2, [1],
 (.seq (.reg [⟨[], [], .cs .v (.b false)⟩] [some 0, none])
 ((.seq (.reg [⟨[], [], .nop⟩, ⟨[], [], .ca 66 [(.e 0), (.c (.y 117))] 1⟩, ⟨[], [], .nop⟩, ⟨[], [], .ca 66 [(.e 0), (.c (.y 100))] 1⟩, ⟨[], [], .bi .add (.e 2) (.e 3)⟩, ⟨[], [], .nop⟩, ⟨[], [], .sn (.e 0)⟩, ⟨[], [], .bi .eql (.e 4) (.e 5)⟩, ⟨[], [], .nop⟩] [none, some 6])
 (.ret))))⟩

/-- loop.example/g03401/impl.good -/
def ir_impl_good : IF := ⟨2, 4, [2],
 (.seq (.reg [⟨[], [], .cs .v (.b false)⟩] [some 0, some 1, none, none])
 ((.seq (.reg [⟨[], [], .nop⟩, ⟨[], [], .nop⟩, ⟨[], [], .ss (.e 0) (some (.e 1)) none⟩, ⟨[], [], .nop⟩, ⟨[], [], .nop⟩, ⟨[], [], .ss (.e 0) none (some (.e 1))⟩, ⟨[], [], .bi .add (.e 4) (.e 5)⟩, ⟨[], [], .nop⟩] [none, none, none, some 6])
 ((.seq (.reg [⟨[], [], .nop⟩, ⟨[], [], .nop⟩, ⟨[], [], .sn (.e 3)⟩, ⟨[], [], .bi .sub (.e 4) (.c (.n 1))⟩, ⟨[], [], .sx (.e 3) (.e 5)⟩, ⟨[], [], .bi .eql (.e 6) (.c (.y 100))⟩, ⟨[], [], .nop⟩, ⟨[], [(7, true)], .cy (.e 3)⟩, ⟨[], [(7, true)], .cy (.e 3)⟩, ⟨[], [(7, true)], .sn (.e 9)⟩, ⟨[], [(7, true)], .bi .sub (.e 10) (.c (.n 1))⟩, ⟨[], [(7, true)], .ss (.e 8) none (some (.e 11))⟩, ⟨[], [(7, true)], .ca 67 [(.e 12)] 1⟩, ⟨[], [], .pk (.e 7) (.e 13) (.c (.b false))⟩, ⟨[], [], .nop⟩] [none, none, some 14, none])
 (.ret))))))⟩

end Go.Cat

namespace Go.Cat
/-- loop.example/g03401/impl.CountWithin -/
def ir_impl_CountWithin : IF := ⟨2, 12, [2],
 (.seq (.reg [⟨[], [], .cs .v (.n 0)⟩] [some 0, some 1, none, none, none, none, none, none, none, none, none, none])
 ((.seq ((.seq (.reg [⟨[], [], .nop⟩, ⟨[], [], .ca 23 [(.e 0), (.c (.n 0)), (.c (.n 14))] 1⟩, ⟨[], [], .un .not (.e 12)⟩, ⟨[], [], .nop⟩, ⟨[], [(13, false)], .cy (.e 1)⟩, ⟨[], [(13, false)], .ca 23 [(.e 14), (.c (.n 0)), (.c (.n 15))] 1⟩, ⟨[], [(13, false)], .un .not (.e 15)⟩, ⟨[], [], .pk (.e 13) (.c (.b true)) (.e 16)⟩] [some 0, some 1, none, none, none, none, some 17, none, none, none, none, none])
 (.cond 6 ((.seq (.reg [⟨[], [], .cs .v (.n (-1))⟩] [none, none, some 12, none, none, none, none, none, none, none, none, none])
  (.ret))) (.skip))))
 ((.seq (.reg [⟨[], [], .nop⟩, ⟨[], [], .bi .add (.e 1) (.c (.n 2))⟩, ⟨[], [], .mk (.n 0) (.e 12) (.e 12)⟩, ⟨[], [], .nop⟩] [some 0, some 1, none, some 13, none, none, none, none, none, none, none, none])
 ((.seq (.reg [⟨[], [], .nop⟩, ⟨[], [], .ix (.e 3) [] (.c (.n 0))⟩, ⟨[], [], .up 3 [.k 0] (.c (.n 1))⟩] [some 0, some 1, none, some 13, none, none, none, none, none, none, none, none])
 ((.seq ((.seq (.reg [⟨[], [], .nop⟩, ⟨[], [], .bi .mul (.c (.n 2)) (.e 0)⟩, ⟨[], [], .cs .v (.n 0)⟩] [none, some 1, none, some 3, none, none, none, some 12, some 13, none, none, none])
 (.block 0 (.loop ((.seq (.reg [⟨[], [], .bi .lss (.e 8) (.e 7)⟩] [none, some 1, none, some 3, none, none, none, some 7, some 8, some 12, none, none])
   ((.seq (.cond 9 (.skip) (.exit 0))
   ((.seq (.block 1 ((.seq (.reg [⟨[], [], .nop⟩, ⟨[], [], .bi .add (.e 1) (.c (.n 2))⟩, ⟨[], [], .mk (.n 0) (.e 12) (.e 12)⟩, ⟨[], [], .nop⟩] [none, some 1, none, some 3, some 13, none, none, some 7, some 8, none, none, none])
    ((.seq ((.seq (.reg [⟨[], [], .cs .v (.n 0)⟩] [none, some 1, none, some 3, some 4, some 12, none, some 7, some 8, none, none, none])
    (.block 2 (.loop ((.seq ((.seq (.reg [⟨[], [], .nop⟩, ⟨[], [], .nop⟩, ⟨[], [], .bi .leq (.e 5) (.e 1)⟩] [none, some 1, none, some 3, some 4, some 5, none, some 7, some 8, none, some 12, none])
      (.cond 10 (.skip) (.exit 2))))
      ((.seq (.block 3 ((.seq (.reg [⟨[], [], .nop⟩, ⟨[], [], .nop⟩, ⟨[], [], .nop⟩, ⟨[], [], .nop⟩, ⟨[], [], .bi .add (.e 5) (.c (.n 1))⟩, ⟨[], [], .ix (.e 3) [] (.e 12)⟩, ⟨[], [], .nop⟩, ⟨[], [], .ix (.e 4) [] (.e 5)⟩, ⟨[], [], .up 4 [.e 5] (.e 13)⟩] [none, some 1, none, some 3, some 15, some 5, none, some 7, some 8, none, none, none])
       ((.seq (.reg [⟨[], [], .nop⟩, ⟨[], [], .bi .gtr (.e 5) (.c (.n 0))⟩] [none, some 1, none, some 3, some 4, some 5, none, some 7, some 8, none, none, some 12])
       (.cond 11 (.reg [⟨[], [], .nop⟩, ⟨[], [], .nop⟩, ⟨[], [], .nop⟩, ⟨[], [], .nop⟩, ⟨[], [], .ix (.e 4) [] (.e 5)⟩, ⟨[], [], .nop⟩, ⟨[], [], .nop⟩, ⟨[], [], .nop⟩, ⟨[], [], .bi .sub (.e 5) (.c (.n 1))⟩, ⟨[], [], .ix (.e 3) [] (.e 13)⟩, ⟨[], [], .nop⟩, ⟨[], [], .bi .add (.e 12) (.e 14)⟩, ⟨[], [], .ix (.e 4) [] (.e 5)⟩, ⟨[], [], .up 4 [.e 5] (.e 15)⟩] [none, some 1, none, some 3, some 17, some 5, none, some 7, some 8, none, none, none]) (.skip)))))))
      (.reg [⟨[], [], .nop⟩, ⟨[], [], .bi .add (.e 5) (.c (.n 1))⟩, ⟨[], [], .nop⟩] [none, some 1, none, some 3, some 4, some 12, none, some 7, some 8, none, none, none])))))))))
    (.reg [⟨[], [], .nop⟩, ⟨[], [], .nop⟩] [none, some 1, none, some 4, none, none, none, some 7, some 8, none, none, none]))))))
   (.reg [⟨[], [], .bi .add (.e 8) (.c (.n 1))⟩, ⟨[], [], .nop⟩] [none, some 1, none, some 3, none, none, none, some 7, some 12, none, none, none])))))))))))
 ((.seq (.reg [⟨[], [], .nop⟩, ⟨[], [], .ix (.e 3) [] (.c (.n 0))⟩, ⟨[], [], .nop⟩, ⟨[], [], .nop⟩] [none, none, some 12, none, none, none, none, none, none, none, none, none])
 (.ret))))))))))))⟩

/-- loop.example/g03401/impl.IsBad -/
def ir_impl_IsBad : IF := ⟨1, 2, [1],
 (.seq (.reg [⟨[], [], .cs .v (.b false)⟩] [some 0, none])
 ((.seq (.reg [⟨[], [], .nop⟩, ⟨[], [], .sn (.e 0)⟩, ⟨[], [], .bi .leq (.e 2) (.c (.n 16))⟩, ⟨[], [], .nop⟩, ⟨[], [(3, true)], .cy (.e 0)⟩, ⟨[], [(3, true)], .ca 65 [(.e 4)] 1⟩, ⟨[], [], .pk (.e 3) (.e 5) (.c (.b false))⟩, ⟨[], [], .nop⟩, ⟨[], [(6, true)], .cy (.e 0)⟩, ⟨[], [(6, true)], .ca 66 [(.e 7), (.c (.y 117))] 1⟩, ⟨[], [(6, true)], .cy (.e 0)⟩, ⟨[], [(6, true)], .ca 66 [(.e 9), (.c (.y 100))] 1⟩, ⟨[], [(6, true)], .bi .eql (.e 8) (.e 10)⟩, ⟨[], [], .pk (.e 6) (.e 11) (.c (.b false))⟩, ⟨[], [], .nop⟩, ⟨[], [(12, true)], .cy (.e 0)⟩, ⟨[], [(12, true)], .ca 67 [(.e 13)] 1⟩, ⟨[], [(12, true)], .un .not (.e 14)⟩, ⟨[], [], .pk (.e 12) (.e 15) (.c (.b false))⟩, ⟨[], [], .nop⟩] [none, some 16])
 (.ret))))⟩

/-- loop.example/g03401/impl.ReflectBad -/
def ir_impl_ReflectBad : IF := ⟨1, 4, [1, 2],
 (.seq (.reg [⟨[], [], .cs .v (.s [])⟩, ⟨[], [], .cs .v (.b false)⟩] [some 0, none, none, none])
 ((.seq ((.seq (.reg [⟨[], [], .nop⟩, ⟨[], [], .ca 40 [(.e 0)] 1⟩, ⟨[], [], .un .not (.e 4)⟩] [some 0, none, none, some 5])
 (.cond 3 ((.seq (.reg [⟨[], [], .cs .v (.s [])⟩, ⟨[], [], .cs .v (.b false)⟩] [none, some 4, some 5, none])
  (.ret))) (.skip))))
 ((.seq (.reg [⟨[], [], .nop⟩, ⟨[], [], .ca 77 [(.e 0)] 1⟩, ⟨[], [], .nop⟩, ⟨[], [], .cs .v (.b true)⟩] [none, some 4, some 5, none])
 (.ret))))))⟩

/-- loop.example/g03401/impl.UnreflectWord -/
def ir_impl_UnreflectWord : IF := ⟨1, 4, [1, 2],
 (.seq (.reg [⟨[], [], .cs .v (.s [])⟩, ⟨[], [], .cs .v (.b false)⟩] [some 0, none, none, none])
 ((.seq ((.seq (.reg [⟨[], [], .nop⟩, ⟨[], [], .sn (.e 0)⟩, ⟨[], [], .bi .gtr (.e 4) (.c (.n 16))⟩, ⟨[], [], .nop⟩, ⟨[], [(5, false)], .cy (.e 0)⟩, ⟨[], [(5, false)], .ca 65 [(.e 6)] 1⟩, ⟨[], [(5, false)], .un .not (.e 7)⟩, ⟨[], [], .pk (.e 5) (.c (.b true)) (.e 8)⟩, ⟨[], [], .nop⟩, ⟨[], [(9, false)], .cy (.e 0)⟩, ⟨[], [(9, false)], .ca 66 [(.e 10), (.c (.y 100))] 1⟩, ⟨[], [(9, false)], .cy (.e 0)⟩, ⟨[], [(9, false)], .ca 66 [(.e 12), (.c (.y 117))] 1⟩, ⟨[], [(9, false)], .bi .add (.e 13) (.c (.n 2))⟩, ⟨[], [(9, false)], .bi .neq (.e 11) (.e 14)⟩, ⟨[], [], .pk (.e 9) (.c (.b true)) (.e 15)⟩] [some 0, none, none, some 16])
 (.cond 3 ((.seq (.reg [⟨[], [], .cs .v (.s [])⟩, ⟨[], [], .cs .v (.b false)⟩] [none, some 4, some 5, none])
  (.ret))) (.skip))))
 ((.seq (.reg [⟨[], [], .nop⟩, ⟨[], [], .ca 77 [(.e 0)] 1⟩, ⟨[], [], .nop⟩, ⟨[], [], .cs .v (.b true)⟩] [none, some 4, some 5, none])
 (.ret))))))⟩

/-- loop.example/g03401/impl.reflected -/
def ir_impl_reflected : IF := ⟨1, 8, [1],
 (.seq (.reg [⟨[], [], .cs .v (.s [])⟩] [some 0, none, none, none, none, none, none, none])
 ((.seq (.reg [⟨[], [], .cs .v (.n 0)⟩] [some 0, none, some 8, none, none, none, none, none])
 ((.seq ((.seq (.reg [⟨[], [], .cs .v (.n 0)⟩] [some 0, none, some 2, some 8, none, none, none, none])
 (.block 0 (.loop ((.seq ((.seq (.reg [⟨[], [], .nop⟩, ⟨[], [], .nop⟩, ⟨[], [], .sn (.e 0)⟩, ⟨[], [], .bi .lss (.e 3) (.e 8)⟩] [some 0, none, some 2, some 3, none, some 9, none, none])
   (.cond 5 (.skip) (.exit 0))))
   ((.seq (.block 1 ((.seq ((.seq (.reg [⟨[], [], .nop⟩, ⟨[], [], .nop⟩, ⟨[], [], .sx (.e 0) (.e 3)⟩, ⟨[], [], .bi .eql (.e 8) (.c (.y 117))⟩] [some 0, none, some 2, some 3, none, none, some 9, none])
    (.cond 6 (.reg [⟨[], [], .nop⟩, ⟨[], [], .bi .add (.e 2) (.c (.n 1))⟩, ⟨[], [], .nop⟩] [some 0, none, some 8, some 3, none, none, none, none]) (.reg [⟨[], [], .nop⟩, ⟨[], [], .bi .sub (.e 2) (.c (.n 1))⟩, ⟨[], [], .nop⟩] [some 0, none, some 8, some 3, none, none, none, none]))))
    ((.seq (.reg [⟨[], [], .nop⟩, ⟨[], [], .bi .eql (.e 2) (.c (.n (-1)))⟩] [some 0, none, some 2, some 3, none, none, none, some 8])
    (.cond 7 ((.seq (.reg [⟨[], [], .nop⟩, ⟨[], [], .nop⟩, ⟨[], [], .bi .add (.e 3) (.c (.n 1))⟩, ⟨[], [], .ss (.e 0) (some (.e 8)) none⟩, ⟨[], [], .ca 83 [(.e 9), (.c (.s [117, 100])), (.c (.s [100, 117]))] 2⟩, ⟨[], [], .nop⟩, ⟨[], [], .nop⟩, ⟨[], [], .nop⟩, ⟨[], [], .nop⟩, ⟨[], [], .nop⟩] [some 0, none, none, some 3, some 10, none, none, none])
     ((.seq (.reg [⟨[], [], .nop⟩, ⟨[], [], .nop⟩, ⟨[], [], .bi .add (.e 3) (.c (.n 1))⟩, ⟨[], [], .ss (.e 0) none (some (.e 8))⟩, ⟨[], [], .nop⟩, ⟨[], [], .bi .add (.e 9) (.e 4)⟩, ⟨[], [], .nop⟩] [none, some 10, none, none, none, none, none, none])
     (.ret))))) (.skip)))))))
   (.reg [⟨[], [], .nop⟩, ⟨[], [], .bi .add (.e 3) (.c (.n 1))⟩, ⟨[], [], .nop⟩] [some 0, none, some 2, some 8, none, none, none, none])))))))))
 ((.seq (.reg [⟨[], [], .nop⟩, ⟨[], [], .nop⟩] [none, some 0, none, none, none, none, none, none])
 (.ret))))))))⟩

end Go.Cat

namespace Go.Cat
/-- loop.example/g03401/laws.FnExactReflectBad -/
def ir_laws_FnExactReflectBad : IF := ⟨1, 8, [1],
 (.seq (.reg [⟨[], [], .cs .v (.b false)⟩] [some 0, none, none, none, none, none, none, none])
 ((.seq ((.seq (.reg [⟨[], [], .nop⟩, ⟨[], [], .sn (.e 0)⟩, ⟨[], [], .bi .gtr (.e 8) (.c (.n 1048576))⟩] [some 0, none, none, none, none, none, some 9, none])
 (.cond 6 ((.seq (.reg [⟨[], [], .cs .v (.b true)⟩] [none, some 8, none, none, none, none, none, none])
  (.ret))) (.skip))))
 ((.seq (.reg [⟨[], [], .nop⟩, ⟨[], [], .ca 107 [(.e 0)] 2⟩, ⟨[], [], .nop⟩, ⟨[], [], .nop⟩, ⟨[], [], .nop⟩, ⟨[], [], .nop⟩, ⟨[], [], .nop⟩] [some 0, none, some 8, some 9, none, none, none, none])
 ((.seq (.reg [⟨[], [], .nop⟩, ⟨[], [], .ca 108 [(.e 0)] 2⟩, ⟨[], [], .nop⟩, ⟨[], [], .nop⟩, ⟨[], [], .nop⟩, ⟨[], [], .nop⟩, ⟨[], [], .nop⟩] [none, none, some 2, some 3, some 8, some 9, none, none])
 ((.seq ((.seq (.reg [⟨[], [], .nop⟩, ⟨[], [], .nop⟩, ⟨[], [], .bi .neq (.e 4) (.e 2)⟩, ⟨[], [], .nop⟩, ⟨[], [(8, false)], .cy (.e 5)⟩, ⟨[], [(8, false)], .cy (.e 3)⟩, ⟨[], [(8, false)], .bb .neq (.e 9) (.e 10)⟩, ⟨[], [], .pk (.e 8) (.c (.b true)) (.e 11)⟩] [none, none, none, none, none, none, none, some 12])
 (.cond 7 ((.seq (.reg [⟨[], [], .cs .v (.b false)⟩] [none, some 8, none, none, none, none, none, none])
  (.ret))) (.skip))))
 ((.seq (.reg [⟨[], [], .cs .v (.b true)⟩] [none, some 8, none, none, none, none, none, none])
 (.ret))))))))))))⟩

end Go.Cat

namespace Go.Cat
/-- loop.example/g03401/spec.IsDyck -/
def ir_spec_IsDyck : IF := ⟨1, 9, [1],
 (.seq (.reg [⟨[], [], .cs .v (.b false)⟩] [some 0, none, none, none, none, none, none, none, none])
 ((.seq (.reg [⟨[], [], .cs .v (.n 0)⟩] [some 0, none, some 9, none, none, none, none, none, none])
 ((.seq ((.seq (.reg [⟨[], [], .cs .v (.n 0)⟩] [some 0, none, some 2, some 9, none, none, none, none, none])
 (.block 0 (.loop ((.seq ((.seq (.reg [⟨[], [], .nop⟩, ⟨[], [], .nop⟩, ⟨[], [], .sn (.e 0)⟩, ⟨[], [], .bi .lss (.e 3) (.e 9)⟩] [some 0, none, some 2, some 3, some 10, none, none, none, none])
   (.cond 4 (.skip) (.exit 0))))
   ((.seq (.block 1 ((.seq ((.seq (.reg [⟨[], [], .nop⟩, ⟨[], [], .nop⟩, ⟨[], [], .sx (.e 0) (.e 3)⟩] [some 0, none, some 2, some 3, none, some 9, none, none, none])
    (.block 2 ((.seq (.reg [⟨[], [], .bi .eql (.e 5) (.c (.y 117))⟩, ⟨[], [], .nop⟩] [some 0, none, some 2, some 3, none, some 5, some 9, none, none])
     (.cond 6 (.reg [⟨[], [], .nop⟩, ⟨[], [], .bi .add (.e 2) (.c (.n 1))⟩, ⟨[], [], .nop⟩] [some 0, none, some 9, some 3, none, none, none, none, none]) ((.seq (.reg [⟨[], [], .bi .eql (.e 5) (.c (.y 100))⟩, ⟨[], [], .nop⟩] [some 0, none, some 2, some 3, none, none, none, some 9, none])
      (.cond 7 (.reg [⟨[], [], .nop⟩, ⟨[], [], .bi .sub (.e 2) (.c (.n 1))⟩, ⟨[], [], .nop⟩] [some 0, none, some 9, some 3, none, none, none, none, none]) ((.seq (.reg [⟨[], [], .cs .v (.b false)⟩] [none, some 9, none, none, none, none, none, none, none])
       (.ret))))))))))))
    ((.seq (.reg [⟨[], [], .nop⟩, ⟨[], [], .bi .lss (.e 2) (.c (.n 0))⟩] [some 0, none, some 2, some 3, none, none, none, none, some 9])
    (.cond 8 ((.seq (.reg [⟨[], [], .cs .v (.b false)⟩] [none, some 9, none, none, none, none, none, none, none])
     (.ret))) (.skip)))))))
   (.reg [⟨[], [], .nop⟩, ⟨[], [], .bi .add (.e 3) (.c (.n 1))⟩, ⟨[], [], .nop⟩] [some 0, none, some 2, some 9, none, none, none, none, none])))))))))
 ((.seq (.reg [⟨[], [], .nop⟩, ⟨[], [], .bi .eql (.e 2) (.c (.n 0))⟩, ⟨[], [], .nop⟩, ⟨[], [(9, true)], .cy (.e 0)⟩, ⟨[], [(9, true)], .sn (.e 10)⟩, ⟨[], [(9, true)], .bi .leq (.e 11) (.c (.n 16))⟩, ⟨[], [], .pk (.e 9) (.e 12) (.c (.b false))⟩, ⟨[], [], .nop⟩] [none, some 13, none, none, none, none, none, none, none])
 (.ret))))))))⟩

end Go.Cat

namespace Go.Cat
/-- loop.example/g03401/spec.CountWithin -/
def ir_spec_CountWithin : IF := ⟨2, 11, [2],
 (.seq (.reg [⟨[], [], .cs .v (.n 0)⟩] [some 0, some 1, none, none, none, none, none, none, none, none, none])
 ((.seq ((.seq (.reg [⟨[], [], .nop⟩, ⟨[], [], .ca 22 [(.e 0), (.c (.n 0)), (.c (.n 14))] 1⟩, ⟨[], [], .un .not (.e 11)⟩, ⟨[], [], .nop⟩, ⟨[], [(12, false)], .cy (.e 1)⟩, ⟨[], [(12, false)], .ca 22 [(.e 13), (.c (.n 0)), (.c (.n 15))] 1⟩, ⟨[], [(12, false)], .un .not (.e 14)⟩, ⟨[], [], .pk (.e 12) (.c (.b true)) (.e 15)⟩] [some 0, some 1, none, none, none, none, none, some 16, none, none, none])
 (.cond 7 ((.seq (.reg [⟨[], [], .cs .v (.n (-1))⟩] [none, none, some 11, none, none, none, none, none, none, none, none])
  (.ret))) (.skip))))
 ((.seq (.reg [⟨[], [], .cs .v (.n 0)⟩] [some 0, some 1, none, some 11, none, none, none, none, none, none, none])
 ((.seq ((.seq (.reg [⟨[], [], .nop⟩, ⟨[], [], .un .neg (.e 0)⟩, ⟨[], [], .bi .sub (.e 11) (.c (.n 1))⟩, ⟨[], [], .nop⟩] [some 0, some 1, none, some 3, some 12, none, none, none, none, none, none])
 (.block 0 (.loop ((.seq ((.seq (.reg [⟨[], [], .nop⟩, ⟨[], [], .nop⟩, ⟨[], [], .bi .add (.e 0) (.c (.n 1))⟩, ⟨[], [], .bi .leq (.e 4) (.e 11)⟩] [some 0, some 1, none, some 3, some 4, none, none, none, some 12, none, none])
   (.cond 8 (.skip) (.exit 0))))
   ((.seq (.block 1 ((.seq (.reg [⟨[], [], .nop⟩, ⟨[], [], .nop⟩, ⟨[], [], .nop⟩, ⟨[], [], .bi .add (.e 1) (.c (.n 2))⟩, ⟨[], [], .bi .mul (.e 4) (.e 11)⟩, ⟨[], [], .bi .add (.e 0) (.e 12)⟩, ⟨[], [], .nop⟩] [some 0, some 1, none, some 3, some 4, some 13, none, none, none, none, none])
    ((.seq (.reg [⟨[], [], .nop⟩, ⟨[], [], .nop⟩, ⟨[], [], .nop⟩, ⟨[], [], .bi .add (.e 1) (.c (.n 2))⟩, ⟨[], [], .bi .mul (.e 4) (.e 11)⟩, ⟨[], [], .bi .add (.e 0) (.e 12)⟩, ⟨[], [], .bi .add (.e 13) (.c (.n 1))⟩, ⟨[], [], .nop⟩] [some 0, some 1, none, some 3, some 4, some 5, some 14, none, none, none, none])
    ((.seq ((.seq (.reg [⟨[], [], .nop⟩, ⟨[], [], .nop⟩, ⟨[], [], .bi .mul (.c (.n 2)) (.e 0)⟩, ⟨[], [], .ca 22 [(.e 5), (.c (.n 0)), (.e 11)] 1⟩] [some 0, some 1, none, some 3, some 4, some 5, some 6, none, none, some 12, none])
    (.cond 9 (.reg [⟨[], [], .nop⟩, ⟨[], [], .nop⟩, ⟨[], [], .bi .mul (.c (.n 2)) (.e 0)⟩, ⟨[], [], .nop⟩, ⟨[], [], .ca 24 [(.e 11), (.e 5)] 1⟩, ⟨[], [], .bi .add (.e 3) (.e 12)⟩, ⟨[], [], .nop⟩] [some 0, some 1, none, some 13, some 4, none, some 6, none, none, none, none]) (.skip))))
    ((.seq (.reg [⟨[], [], .nop⟩, ⟨[], [], .nop⟩, ⟨[], [], .bi .mul (.c (.n 2)) (.e 0)⟩, ⟨[], [], .ca 22 [(.e 6), (.c (.n 0)), (.e 11)] 1⟩] [some 0, some 1, none, some 3, some 4, none, some 6, none, none, none, some 12])
    (.cond 10 (.reg [⟨[], [], .nop⟩, ⟨[], [], .nop⟩, ⟨[], [], .bi .mul (.c (.n 2)) (.e 0)⟩, ⟨[], [], .nop⟩, ⟨[], [], .ca 24 [(.e 11), (.e 6)] 1⟩, ⟨[], [], .bi .sub (.e 3) (.e 12)⟩, ⟨[], [], .nop⟩] [some 0, some 1, none, some 13, some 4, none, none, none, none, none, none]) (.skip)))))))))))
   (.reg [⟨[], [], .nop⟩, ⟨[], [], .bi .add (.e 4) (.c (.n 1))⟩, ⟨[], [], .nop⟩] [some 0, some 1, none, some 3, some 11, none, none, none, none, none, none])))))))))
 ((.seq (.reg [⟨[], [], .nop⟩, ⟨[], [], .nop⟩] [none, none, some 3, none, none, none, none, none, none, none, none])
 (.ret))))))))))⟩

/-- loop.example/g03401/spec.IsBad -/
def ir_spec_IsBad : IF := ⟨1, 5, [1],
 (.seq (.reg [⟨[], [], .cs .v (.b false)⟩] [some 0, none, none, none, none])
 ((.seq (.reg [⟨[], [], .nop⟩, ⟨[], [], .ca 63 [(.e 0)] 3⟩, ⟨[], [], .nop⟩, ⟨[], [], .nop⟩, ⟨[], [], .nop⟩, ⟨[], [], .nop⟩, ⟨[], [], .nop⟩, ⟨[], [], .nop⟩, ⟨[], [], .nop⟩] [some 0, none, some 5, some 6, some 7])
 ((.seq (.reg [⟨[], [], .nop⟩, ⟨[], [], .nop⟩, ⟨[], [(4, true)], .cy (.e 2)⟩, ⟨[], [(4, true)], .cy (.e 3)⟩, ⟨[], [(4, true)], .bi .eql (.e 5) (.e 6)⟩, ⟨[], [], .pk (.e 4) (.e 7) (.c (.b false))⟩, ⟨[], [], .nop⟩, ⟨[], [(8, true)], .cy (.e 0)⟩, ⟨[], [(8, true)], .ca 64 [(.e 9)] 1⟩, ⟨[], [(8, true)], .un .not (.e 10)⟩, ⟨[], [], .pk (.e 8) (.e 11) (.c (.b false))⟩, ⟨[], [], .nop⟩] [none, some 12, none, none, none])
 (.ret))))))⟩

/-- loop.example/g03401/spec.ReflectBad -/
def ir_spec_ReflectBad : IF := ⟨1, 4, [1, 2],
 (.seq (.reg [⟨[], [], .cs .v (.s [])⟩, ⟨[], [], .cs .v (.b false)⟩] [some 0, none, none, none])
 ((.seq ((.seq (.reg [⟨[], [], .nop⟩, ⟨[], [], .ca 39 [(.e 0)] 1⟩, ⟨[], [], .un .not (.e 4)⟩] [some 0, none, none, some 5])
 (.cond 3 ((.seq (.reg [⟨[], [], .cs .v (.s [])⟩, ⟨[], [], .cs .v (.b false)⟩] [none, some 4, some 5, none])
  (.ret))) (.skip))))
 ((.seq (.reg [⟨[], [], .nop⟩, ⟨[], [], .ca 76 [(.e 0), (.c (.n (-1)))] 1⟩, ⟨[], [], .nop⟩, ⟨[], [], .cs .v (.b true)⟩] [none, some 4, some 5, none])
 (.ret))))))⟩

/-- loop.example/g03401/spec.UnreflectWord -/
def ir_spec_UnreflectWord : IF := ⟨1, 7, [1, 2],
 (.seq (.reg [⟨[], [], .cs .v (.s [])⟩, ⟨[], [], .cs .v (.b false)⟩] [some 0, none, none, none, none, none, none])
 ((.seq (.reg [⟨[], [], .nop⟩, ⟨[], [], .ca 63 [(.e 0)] 3⟩, ⟨[], [], .nop⟩, ⟨[], [], .nop⟩, ⟨[], [], .nop⟩, ⟨[], [], .nop⟩, ⟨[], [], .nop⟩, ⟨[], [], .nop⟩, ⟨[], [], .nop⟩] [some 0, none, none, some 7, some 8, some 9, none])
 ((.seq ((.seq (.reg [⟨[], [], .nop⟩, ⟨[], [], .un .not (.e 5)⟩, ⟨[], [], .nop⟩, ⟨[], [(7, false)], .cy (.e 4)⟩, ⟨[], [(7, false)], .cy (.e 3)⟩, ⟨[], [(7, false)], .bi .add (.e 9) (.c (.n 2))⟩, ⟨[], [(7, false)], .bi .neq (.e 8) (.e 10)⟩, ⟨[], [], .pk (.e 7) (.c (.b true)) (.e 11)⟩] [some 0, none, none, none, none, none, some 12])
 (.cond 6 ((.seq (.reg [⟨[], [], .cs .v (.s [])⟩, ⟨[], [], .cs .v (.b false)⟩] [none, some 7, some 8, none, none, none, none])
  (.ret))) (.skip))))
 ((.seq (.reg [⟨[], [], .nop⟩, ⟨[], [], .ca 76 [(.e 0), (.c (.n (-1)))] 1⟩, ⟨[], [], .nop⟩, ⟨[], [], .cs .v (.b true)⟩] [none, some 7, some 8, none, none, none, none])
 (.ret))))))))⟩

/-- loop.example/g03401/spec.l29Flip -/
def ir_spec_l29Flip : IF := ⟨2, 11, [2],
 (.seq (.reg [⟨[], [], .cs .v (.s [])⟩] [some 0, some 1, none, none, none, none, none, none, none, none, none])
 ((.seq (.reg [⟨[], [], .cs .v (.n 0)⟩] [some 0, some 1, none, some 11, none, none, none, none, none, none, none])
 ((.seq (.reg [⟨[], [], .cs .v (.s [])⟩] [some 0, some 1, none, some 3, some 11, none, none, none, none, none, none])
 ((.seq (.reg [⟨[], [], .cs .v (.b false)⟩] [some 0, some 1, none, some 3, some 4, some 11, none, none, none, none, none])
 ((.seq ((.seq (.reg [⟨[], [], .cs .v (.n 0)⟩] [some 0, some 1, none, some 3, some 4, some 5, some 11, none, none, none, none])
 (.block 0 (.loop ((.seq ((.seq (.reg [⟨[], [], .nop⟩, ⟨[], [], .nop⟩, ⟨[], [], .sn (.e 0)⟩, ⟨[], [], .bi .lss (.e 6) (.e 11)⟩] [some 0, some 1, none, some 3, some 4, some 5, some 6, some 12, none, none, none])
   (.cond 7 (.skip) (.exit 0))))
   ((.seq (.block 1 ((.seq ((.seq (.reg [⟨[], [], .nop⟩] [some 0, some 1, none, some 3, some 4, some 5, some 6, none, some 5, none, none])
    (.cond 8 ((.seq ((.seq (.reg [⟨[], [], .nop⟩, ⟨[], [], .nop⟩, ⟨[], [], .sx (.e 0) (.e 6)⟩, ⟨[], [], .bi .eql (.e 11) (.c (.y 117))⟩] [some 0, some 1, none, some 3, some 4, some 5, some 6, none, none, some 12, none])
     (.cond 9 (.reg [⟨[], [], .nop⟩, ⟨[], [], .bi .add (.e 4) (.c (.s [100]))⟩, ⟨[], [], .nop⟩] [some 0, some 1, none, some 3, some 11, some 5, some 6, none, none, none, none]) (.reg [⟨[], [], .nop⟩, ⟨[], [], .bi .add (.e 4) (.c (.s [117]))⟩, ⟨[], [], .nop⟩] [some 0, some 1, none, some 3, some 11, some 5, some 6, none, none, none, none]))))
     (.exit 1))) (.skip))))
    ((.seq (.reg [⟨[], [], .nop⟩, ⟨[], [], .nop⟩, ⟨[], [], .nop⟩, ⟨[], [], .nop⟩, ⟨[], [], .bi .add (.e 6) (.c (.n 1))⟩, ⟨[], [], .ss (.e 0) (some (.e 6)) (some (.e 11))⟩, ⟨[], [], .bi .add (.e 4) (.e 12)⟩, ⟨[], [], .nop⟩] [some 0, some 1, none, some 3, some 13, none, some 6, none, none, none, none])
    ((.seq ((.seq (.reg [⟨[], [], .nop⟩, ⟨[], [], .nop⟩, ⟨[], [], .sx (.e 0) (.e 6)⟩, ⟨[], [], .bi .eql (.e 11) (.c (.y 117))⟩] [some 0, some 1, none, some 3, some 4, none, some 6, none, none, none, some 12])
    (.cond 10 (.reg [⟨[], [], .nop⟩, ⟨[], [], .bi .add (.e 3) (.c (.n 1))⟩, ⟨[], [], .nop⟩] [some 0, some 1, none, some 11, some 4, none, some 6, none, none, none, none]) (.reg [⟨[], [], .nop⟩, ⟨[], [], .bi .sub (.e 3) (.c (.n 1))⟩, ⟨[], [], .nop⟩] [some 0, some 1, none, some 11, some 4, none, some 6, none, none, none, none]))))
    (.reg [⟨[], [], .nop⟩, ⟨[], [], .nop⟩, ⟨[], [], .bi .eql (.e 3) (.e 1)⟩, ⟨[], [], .nop⟩] [some 0, some 1, none, some 3, some 4, some 11, some 6, none, none, none, none]))))))))
   (.reg [⟨[], [], .nop⟩, ⟨[], [], .bi .add (.e 6) (.c (.n 1))⟩, ⟨[], [], .nop⟩] [some 0, some 1, none, some 3, some 4, some 5, some 11, none, none, none, none])))))))))
 ((.seq (.reg [⟨[], [], .nop⟩, ⟨[], [], .nop⟩] [none, none, some 4, none, none, none, none, none, none, none, none])
 (.ret))))))))))))⟩

/-- loop.example/g03401/spec.l29Word -/
def ir_spec_l29Word : IF := ⟨1, 11, [1, 2, 3],
 (.seq (.reg [⟨[], [], .cs .v (.n 0)⟩, ⟨[], [], .cs .v (.n 0)⟩, ⟨[], [], .cs .v (.b false)⟩] [some 0, none, none, none, none, none, none, none, none, none, none])
 ((.seq (.reg [⟨[], [], .cs .v (.n 0)⟩] [some 0, none, none, none, some 11, none, none, none, none, none, none])
 ((.seq (.reg [⟨[], [], .cs .v (.n 0)⟩] [some 0, none, none, none, some 4, some 11, none, none, none, none, none])
 ((.seq ((.seq (.reg [⟨[], [], .cs .v (.n 0)⟩] [some 0, none, none, none, some 4, some 5, some 11, none, none, none, none])
 (.block 0 (.loop ((.seq ((.seq (.reg [⟨[], [], .nop⟩, ⟨[], [], .nop⟩, ⟨[], [], .sn (.e 0)⟩, ⟨[], [], .bi .lss (.e 6) (.e 11)⟩] [some 0, none, none, none, some 4, some 5, some 6, some 12, none, none, none])
   (.cond 7 (.skip) (.exit 0))))
   ((.seq (.block 1 ((.seq (.reg [⟨[], [], .nop⟩, ⟨[], [], .nop⟩, ⟨[], [], .sx (.e 0) (.e 6)⟩] [some 0, none, none, none, some 4, some 5, some 6, none, some 11, none, none])
    (.block 2 ((.seq (.reg [⟨[], [], .bi .eql (.e 8) (.c (.y 117))⟩, ⟨[], [], .nop⟩] [some 0, none, none, none, some 4, some 5, some 6, none, some 8, some 11, none])
     (.cond 9 (.reg [⟨[], [], .nop⟩, ⟨[], [], .bi .add (.e 4) (.c (.n 1))⟩, ⟨[], [], .nop⟩] [some 0, none, none, none, some 11, some 5, some 6, none, none, none, none]) ((.seq (.reg [⟨[], [], .bi .eql (.e 8) (.c (.y 100))⟩, ⟨[], [], .nop⟩] [some 0, none, none, none, some 4, some 5, some 6, none, none, none, some 11])
      (.cond 10 (.reg [⟨[], [], .nop⟩, ⟨[], [], .bi .add (.e 5) (.c (.n 1))⟩, ⟨[], [], .nop⟩] [some 0, none, none, none, some 4, some 11, some 6, none, none, none, none]) ((.seq (.reg [⟨[], [], .cs .v (.n 0)⟩, ⟨[], [], .cs .v (.n 0)⟩, ⟨[], [], .cs .v (.b false)⟩] [none, some 11, some 12, some 13, none, none, none, none, none, none, none])
       (.ret)))))))))))))
   (.reg [⟨[], [], .nop⟩, ⟨[], [], .bi .add (.e 6) (.c (.n 1))⟩, ⟨[], [], .nop⟩] [some 0, none, none, none, some 4, some 5, some 11, none, none, none, none])))))))))
 ((.seq (.reg [⟨[], [], .nop⟩, ⟨[], [], .nop⟩, ⟨[], [], .nop⟩, ⟨[], [], .sn (.e 0)⟩, ⟨[], [], .bi .leq (.e 11) (.c (.n 16))⟩, ⟨[], [], .nop⟩, ⟨[], [], .nop⟩, ⟨[], [], .nop⟩] [none, some 4, some 5, some 12, none, none, none, none, none, none, none])
 (.ret))))))))))⟩

end Go.Cat

namespace Go.Cat
/-- loop.example/g03401/laws.FnExactIsBad -/
def ir_laws_FnExactIsBad : IF := ⟨1, 6, [1],
 (.seq (.reg [⟨[], [], .cs .v (.b false)⟩] [some 0, none, none, none, none, none])
 ((.seq ((.seq (.reg [⟨[], [], .nop⟩, ⟨[], [], .sn (.e 0)⟩, ⟨[], [], .bi .gtr (.e 6) (.c (.n 1048576))⟩] [some 0, none, none, none, some 7, none])
 (.cond 4 ((.seq (.reg [⟨[], [], .cs .v (.b true)⟩] [none, some 6, none, none, none, none])
  (.ret))) (.skip))))
 ((.seq (.reg [⟨[], [], .nop⟩, ⟨[], [], .ca 39 [(.e 0)] 1⟩, ⟨[], [], .nop⟩] [some 0, none, some 6, none, none, none])
 ((.seq (.reg [⟨[], [], .nop⟩, ⟨[], [], .ca 40 [(.e 0)] 1⟩, ⟨[], [], .nop⟩] [none, none, some 2, some 6, none, none])
 ((.seq ((.seq (.reg [⟨[], [], .nop⟩, ⟨[], [], .nop⟩, ⟨[], [], .bb .neq (.e 3) (.e 2)⟩] [none, none, none, none, none, some 6])
 (.cond 5 ((.seq (.reg [⟨[], [], .cs .v (.b false)⟩] [none, some 6, none, none, none, none])
  (.ret))) (.skip))))
 ((.seq (.reg [⟨[], [], .cs .v (.b true)⟩] [none, some 6, none, none, none, none])
 (.ret))))))))))))⟩

end Go.Cat

namespace Go.Cat
/-- loop.example/g03401/laws.FnExactUnreflectWord -/
def ir_laws_FnExactUnreflectWord : IF := ⟨1, 8, [1],
 (.seq (.reg [⟨[], [], .cs .v (.b false)⟩] [some 0, none, none, none, none, none, none, none])
 ((.seq ((.seq (.reg [⟨[], [], .nop⟩, ⟨[], [], .sn (.e 0)⟩, ⟨[], [], .bi .gtr (.e 8) (.c (.n 1048576))⟩] [some 0, none, none, none, none, none, some 9, none])
 (.cond 6 ((.seq (.reg [⟨[], [], .cs .v (.b true)⟩] [none, some 8, none, none, none, none, none, none])
  (.ret))) (.skip))))
 ((.seq (.reg [⟨[], [], .nop⟩, ⟨[], [], .ca 53 [(.e 0)] 2⟩, ⟨[], [], .nop⟩, ⟨[], [], .nop⟩, ⟨[], [], .nop⟩, ⟨[], [], .nop⟩, ⟨[], [], .nop⟩] [some 0, none, some 8, some 9, none, none, none, none])
 ((.seq (.reg [⟨[], [], .nop⟩, ⟨[], [], .ca 54 [(.e 0)] 2⟩, ⟨[], [], .nop⟩, ⟨[], [], .nop⟩, ⟨[], [], .nop⟩, ⟨[], [], .nop⟩, ⟨[], [], .nop⟩] [none, none, some 2, some 3, some 8, some 9, none, none])
 ((.seq ((.seq (.reg [⟨[], [], .nop⟩, ⟨[], [], .nop⟩, ⟨[], [], .bi .neq (.e 4) (.e 2)⟩, ⟨[], [], .nop⟩, ⟨[], [(8, false)], .cy (.e 5)⟩, ⟨[], [(8, false)], .cy (.e 3)⟩, ⟨[], [(8, false)], .bb .neq (.e 9) (.e 10)⟩, ⟨[], [], .pk (.e 8) (.c (.b true)) (.e 11)⟩] [none, none, none, none, none, none, none, some 12])
 (.cond 7 ((.seq (.reg [⟨[], [], .cs .v (.b false)⟩] [none, some 8, none, none, none, none, none, none])
  (.ret))) (.skip))))
 ((.seq (.reg [⟨[], [], .cs .v (.b true)⟩] [none, some 8, none, none, none, none, none, none])
 (.ret))))))))))))⟩

end Go.Cat

