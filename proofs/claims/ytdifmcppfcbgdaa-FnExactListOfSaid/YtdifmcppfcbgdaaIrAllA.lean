/-
  Texts of the little language.
-/
import Derived.Test.YtdifmcppfcbgdaaCatThree
namespace Go.Cat
/-- cmp.Compare[int] -/
def ir_cmp_Compare_int_ : IF := ⟨[], 2, 10, [2],
 (.seq (.reg [⟨[], [], .cs .v (.n 0)⟩] [some 0, some 1, none, none, none, none, none, none, none, none])
 ((.seq (.reg [⟨[], [], .nop⟩, ⟨[], [], .ca 211 [(.e 0)] 1⟩, ⟨[], [], .nop⟩] [some 0, some 1, none, some 10, none, none, none, none, none, none])
 ((.seq (.reg [⟨[], [], .nop⟩, ⟨[], [], .ca 211 [(.e 1)] 1⟩, ⟨[], [], .nop⟩] [some 0, some 1, none, some 3, some 10, none, none, none, none, none])
 ((.seq ((.seq (.reg [⟨[], [], .nop⟩] [some 0, some 1, none, none, some 4, some 3, none, none, none, none])
 (.cond 5 ((.seq ((.seq (.reg [⟨[], [], .nop⟩] [none, none, none, none, none, none, some 4, none, none, none])
  (.cond 6 ((.seq (.reg [⟨[], [], .cs .v (.n 0)⟩] [none, none, some 10, none, none, none, none, none, none, none])
   (.ret))) (.skip))))
  ((.seq (.reg [⟨[], [], .cs .v (.n (-1))⟩] [none, none, some 10, none, none, none, none, none, none, none])
  (.ret))))) (.skip))))
 ((.seq ((.seq (.reg [⟨[], [], .nop⟩] [some 0, some 1, none, none, none, none, none, some 4, none, none])
 (.cond 7 ((.seq (.reg [⟨[], [], .cs .v (.n 1)⟩] [none, none, some 10, none, none, none, none, none, none, none])
  (.ret))) (.skip))))
 ((.seq ((.seq (.reg [⟨[], [], .nop⟩, ⟨[], [], .nop⟩, ⟨[], [], .bi .lss (.e 0) (.e 1)⟩] [some 0, some 1, none, none, none, none, none, none, some 10, none])
 (.cond 8 ((.seq (.reg [⟨[], [], .cs .v (.n (-1))⟩] [none, none, some 10, none, none, none, none, none, none, none])
  (.ret))) (.skip))))
 ((.seq ((.seq (.reg [⟨[], [], .nop⟩, ⟨[], [], .nop⟩, ⟨[], [], .bi .gtr (.e 0) (.e 1)⟩] [none, none, none, none, none, none, none, none, none, some 10])
 (.cond 9 ((.seq (.reg [⟨[], [], .cs .v (.n 1)⟩] [none, none, some 10, none, none, none, none, none, none, none])
  (.ret))) (.skip))))
 ((.seq (.reg [⟨[], [], .cs .v (.n 0)⟩] [none, none, some 10, none, none, none, none, none, none, none])
 (.ret))))))))))))))))⟩

/-- cmp.isNaN[int] -/
def ir_cmp_isNaN_int_ : IF := ⟨[], 1, 2, [1],
 (.seq (.reg [⟨[], [], .cs .v (.b false)⟩] [some 0, none])
 ((.seq (.reg [⟨[], [], .nop⟩, ⟨[], [], .nop⟩, ⟨[], [], .bi .neq (.e 0) (.e 0)⟩, ⟨[], [], .nop⟩] [none, some 2])
 (.ret))))⟩

/-- (*loop.example/g03401/impl.tree).nodes -/
def ir_impl_tree_nodes : IF := ⟨[], 1, 3, [1],
 (.seq (.reg [⟨[], [], .cs .v (.n 0)⟩] [some 0, none, none])
 ((.seq ((.seq (.reg [⟨[], [], .nop⟩, ⟨[], [], .nz true (.e 0)⟩] [some 0, none, some 3])
 (.cond 2 ((.seq (.reg [⟨[], [], .cs .v (.n 0)⟩] [none, some 3, none])
  (.ret))) (.skip))))
 ((.seq (.reg [⟨[], [], .nop⟩, ⟨[], [], .nn (.e 0)⟩, ⟨[], [], .fp false (.e 3) 0⟩, ⟨[], [], .nop⟩, ⟨[], [], .ca 197 [(.e 4)] 1⟩, ⟨[], [], .nop⟩, ⟨[], [], .nn (.e 0)⟩, ⟨[], [], .fp false (.e 6) 1⟩, ⟨[], [], .nop⟩, ⟨[], [], .ca 197 [(.e 7)] 1⟩, ⟨[], [], .bi .add (.e 5) (.e 8)⟩, ⟨[], [], .bi .add (.e 9) (.c (.n 1))⟩, ⟨[], [], .nop⟩] [none, some 10, none])
 (.ret))))))⟩

/-- (*loop.example/g03401/impl.tree).text -/
def ir_impl_tree_text : IF := ⟨[], 1, 3, [1],
 (.seq (.reg [⟨[], [], .cs .v (.s [])⟩] [some 0, none, none])
 ((.seq ((.seq (.reg [⟨[], [], .nop⟩, ⟨[], [], .nz true (.e 0)⟩] [some 0, none, some 3])
 (.cond 2 ((.seq (.reg [⟨[], [], .cs .v (.s [46])⟩] [none, some 3, none])
  (.ret))) (.skip))))
 ((.seq (.reg [⟨[], [], .nop⟩, ⟨[], [], .nn (.e 0)⟩, ⟨[], [], .fp false (.e 3) 0⟩, ⟨[], [], .nop⟩, ⟨[], [], .ca 196 [(.e 4)] 1⟩, ⟨[], [], .bi .add (.c (.s [40])) (.e 5)⟩, ⟨[], [], .nop⟩, ⟨[], [], .nn (.e 0)⟩, ⟨[], [], .fp false (.e 7) 1⟩, ⟨[], [], .nop⟩, ⟨[], [], .ca 196 [(.e 8)] 1⟩, ⟨[], [], .bi .add (.e 6) (.e 9)⟩, ⟨[], [], .bi .add (.e 10) (.c (.s [41]))⟩, ⟨[], [], .nop⟩] [none, some 11, none])
 (.ret))))))⟩

/-- (*loop.example/g03401/impl.tree).triangles -/
def ir_impl_tree_triangles : IF := ⟨[], 5, 11, [5, 6],
 (.seq (.reg [⟨[], [], .cs (.o .v) (.l [])⟩, ⟨[], [], .cs (.o .v) (.l [])⟩] [some 0, some 1, some 2, some 3, some 4, none, none, none, none, none, none])
 ((.seq ((.seq (.reg [⟨[], [], .nop⟩, ⟨[], [], .nz true (.e 0)⟩] [some 0, some 1, some 2, some 3, some 4, none, none, none, some 11, none, none])
 (.cond 8 ((.seq (.reg [⟨[], [], .nop⟩, ⟨[], [], .nop⟩, ⟨[], [], .nop⟩, ⟨[], [], .nop⟩] [none, none, none, none, none, some 3, some 4, none, none, none, none])
  (.ret))) (.skip))))
 ((.seq (.reg [⟨[], [], .nop⟩, ⟨[], [], .nop⟩, ⟨[], [], .nn (.e 0)⟩, ⟨[], [], .fp false (.e 11) 0⟩, ⟨[], [], .nop⟩, ⟨[], [], .ca 197 [(.e 12)] 1⟩, ⟨[], [], .bi .add (.e 1) (.e 13)⟩, ⟨[], [], .bi .add (.e 14) (.c (.n 1))⟩, ⟨[], [], .nop⟩] [some 0, some 1, some 2, some 3, some 4, none, none, some 15, none, none, none])
 ((.seq (.reg [⟨[], [], .nop⟩, ⟨[], [], .nop⟩, ⟨[], [], .nop⟩, ⟨[], [], .nop⟩, ⟨[], [], .li (.o .v) [(.e 1), (.e 7), (.e 2)]⟩, ⟨[], [], .li (.o .v) [(.e 11)]⟩, ⟨[], [], .ap false (.e 3) (.e 12)⟩, ⟨[], [], .nop⟩] [some 0, some 1, some 2, some 13, some 4, none, none, some 7, none, none, none])
 ((.seq ((.seq (.reg [⟨[], [], .nop⟩, ⟨[], [], .nn (.e 0)⟩, ⟨[], [], .fp false (.e 11) 0⟩, ⟨[], [], .nop⟩, ⟨[], [], .nz false (.e 12)⟩] [some 0, some 1, some 2, some 3, some 4, none, none, some 7, none, some 13, none])
 (.cond 9 (.reg [⟨[], [], .nop⟩, ⟨[], [], .nop⟩, ⟨[], [], .nop⟩, ⟨[], [], .li (.o .v) [(.e 1), (.e 7)]⟩, ⟨[], [], .li (.o .v) [(.e 11)]⟩, ⟨[], [], .ap false (.e 4) (.e 12)⟩, ⟨[], [], .nop⟩] [some 0, some 1, some 2, some 3, some 13, none, none, some 7, none, none, none]) (.skip))))
 ((.seq ((.seq (.reg [⟨[], [], .nop⟩, ⟨[], [], .nn (.e 0)⟩, ⟨[], [], .fp false (.e 11) 1⟩, ⟨[], [], .nop⟩, ⟨[], [], .nz false (.e 12)⟩] [some 0, some 1, some 2, some 3, some 4, none, none, some 7, none, none, some 13])
 (.cond 10 (.reg [⟨[], [], .nop⟩, ⟨[], [], .nop⟩, ⟨[], [], .nop⟩, ⟨[], [], .li (.o .v) [(.e 7), (.e 2)]⟩, ⟨[], [], .li (.o .v) [(.e 11)]⟩, ⟨[], [], .ap false (.e 4) (.e 12)⟩, ⟨[], [], .nop⟩] [some 0, some 1, some 2, some 3, some 13, none, none, some 7, none, none, none]) (.skip))))
 ((.seq (.reg [⟨[], [], .nop⟩, ⟨[], [], .nn (.e 0)⟩, ⟨[], [], .fp false (.e 11) 0⟩, ⟨[], [], .nop⟩, ⟨[], [], .nop⟩, ⟨[], [], .nop⟩, ⟨[], [], .nop⟩, ⟨[], [], .nop⟩, ⟨[], [], .ca 541 [(.e 12), (.e 1), (.e 7), (.e 3), (.e 4)] 2⟩, ⟨[], [], .nop⟩, ⟨[], [], .nop⟩, ⟨[], [], .nop⟩, ⟨[], [], .nop⟩, ⟨[], [], .nop⟩] [some 0, none, some 2, some 13, some 14, none, none, some 7, none, none, none])
 ((.seq (.reg [⟨[], [], .nop⟩, ⟨[], [], .nn (.e 0)⟩, ⟨[], [], .fp false (.e 11) 1⟩, ⟨[], [], .nop⟩, ⟨[], [], .nop⟩, ⟨[], [], .nop⟩, ⟨[], [], .nop⟩, ⟨[], [], .nop⟩, ⟨[], [], .ca 541 [(.e 12), (.e 7), (.e 2), (.e 3), (.e 4)] 2⟩, ⟨[], [], .nop⟩, ⟨[], [], .nop⟩, ⟨[], [], .nop⟩, ⟨[], [], .nop⟩] [none, none, none, none, none, some 13, some 14, none, none, none, none])
 (.ret))))))))))))))))⟩

/-- math/bits.Len -/
def ir_math_bits_Len : IF := ⟨[], 1, 2, [1],
 (.seq (.reg [⟨[], [], .cs .v (.n 0)⟩] [some 0, none])
 ((.seq (.skip)
 ((.seq (.reg [⟨[], [], .nop⟩, ⟨[], [], .ca 391 [(.e 0)] 1⟩, ⟨[], [], .nop⟩] [none, some 2])
 (.ret))))))⟩

/-- math/bits.Len32 -/
def ir_math_bits_Len32 : IF := ⟨[], 1, 4, [1],
 (.seq (.reg [⟨[], [], .cs .v (.n 0)⟩] [some 0, some 4, none, none])
 ((.seq ((.seq (.reg [⟨[], [], .nop⟩, ⟨[], [], .bi .geq (.e 0) (.c (.i .u32 (65536)))⟩] [some 0, some 1, some 4, none])
 (.cond 2 ((.seq (.reg [⟨[], [], .nop⟩, ⟨[], [], .bi .shr (.e 0) (.c (.i .u64 (16)))⟩, ⟨[], [], .nop⟩] [some 4, none, none, none])
  (.reg [⟨[], [], .cs .v (.n 16)⟩] [some 0, some 4, none, none]))) (.skip))))
 ((.seq ((.seq (.reg [⟨[], [], .nop⟩, ⟨[], [], .bi .geq (.e 0) (.c (.i .u32 (256)))⟩] [some 0, some 1, none, some 4])
 (.cond 3 ((.seq (.reg [⟨[], [], .nop⟩, ⟨[], [], .bi .shr (.e 0) (.c (.i .u64 (8)))⟩, ⟨[], [], .nop⟩] [some 4, some 1, none, none])
  (.reg [⟨[], [], .nop⟩, ⟨[], [], .bi .add (.e 1) (.c (.n 8))⟩, ⟨[], [], .nop⟩] [some 0, some 4, none, none]))) (.skip))))
 ((.seq (.reg [⟨[], [], .nop⟩, ⟨[], [], .nop⟩, ⟨[], [], .cv .u8 (.e 0)⟩, ⟨[], [], .sx (.c (.s [0, 1, 2, 2, 3, 3, 3, 3, 4, 4, 4, 4, 4, 4, 4, 4, 5, 5, 5, 5, 5, 5, 5, 5, 5, 5, 5, 5, 5, 5, 5, 5, 6, 6, 6, 6, 6, 6, 6, 6, 6, 6, 6, 6, 6, 6, 6, 6, 6, 6, 6, 6, 6, 6, 6, 6, 6, 6, 6, 6, 6, 6, 6, 6, 7, 7, 7, 7, 7, 7, 7, 7, 7, 7, 7, 7, 7, 7, 7, 7, 7, 7, 7, 7, 7, 7, 7, 7, 7, 7, 7, 7, 7, 7, 7, 7, 7, 7, 7, 7, 7, 7, 7, 7, 7, 7, 7, 7, 7, 7, 7, 7, 7, 7, 7, 7, 7, 7, 7, 7, 7, 7, 7, 7, 7, 7, 7, 7, 8, 8, 8, 8, 8, 8, 8, 8, 8, 8, 8, 8, 8, 8, 8, 8, 8, 8, 8, 8, 8, 8, 8, 8, 8, 8, 8, 8, 8, 8, 8, 8, 8, 8, 8, 8, 8, 8, 8, 8, 8, 8, 8, 8, 8, 8, 8, 8, 8, 8, 8, 8, 8, 8, 8, 8, 8, 8, 8, 8, 8, 8, 8, 8, 8, 8, 8, 8, 8, 8, 8, 8, 8, 8, 8, 8, 8, 8, 8, 8, 8, 8, 8, 8, 8, 8, 8, 8, 8, 8, 8, 8, 8, 8, 8, 8, 8, 8, 8, 8, 8, 8, 8, 8, 8, 8, 8, 8, 8, 8, 8, 8, 8, 8, 8, 8, 8, 8, 8, 8, 8, 8, 8, 8, 8, 8, 8, 8])) (.e 4)⟩, ⟨[], [], .cv .i64 (.e 5)⟩, ⟨[], [], .bi .add (.e 1) (.e 6)⟩, ⟨[], [], .nop⟩] [none, some 7, none, none])
 (.ret))))))))⟩

/-- math/bits.Len64 -/
def ir_math_bits_Len64 : IF := ⟨[], 1, 5, [1],
 (.seq (.reg [⟨[], [], .cs .v (.n 0)⟩] [some 0, some 5, none, none, none])
 ((.seq ((.seq (.reg [⟨[], [], .nop⟩, ⟨[], [], .bi .geq (.e 0) (.c (.i .u64 (4294967296)))⟩] [some 0, some 1, some 5, none, none])
 (.cond 2 ((.seq (.reg [⟨[], [], .nop⟩, ⟨[], [], .bi .shr (.e 0) (.c (.i .u64 (32)))⟩, ⟨[], [], .nop⟩] [some 5, none, none, none, none])
  (.reg [⟨[], [], .cs .v (.n 32)⟩] [some 0, some 5, none, none, none]))) (.skip))))
 ((.seq ((.seq (.reg [⟨[], [], .nop⟩, ⟨[], [], .bi .geq (.e 0) (.c (.i .u64 (65536)))⟩] [some 0, some 1, none, some 5, none])
 (.cond 3 ((.seq (.reg [⟨[], [], .nop⟩, ⟨[], [], .bi .shr (.e 0) (.c (.i .u64 (16)))⟩, ⟨[], [], .nop⟩] [some 5, some 1, none, none, none])
  (.reg [⟨[], [], .nop⟩, ⟨[], [], .bi .add (.e 1) (.c (.n 16))⟩, ⟨[], [], .nop⟩] [some 0, some 5, none, none, none]))) (.skip))))
 ((.seq ((.seq (.reg [⟨[], [], .nop⟩, ⟨[], [], .bi .geq (.e 0) (.c (.i .u64 (256)))⟩] [some 0, some 1, none, none, some 5])
 (.cond 4 ((.seq (.reg [⟨[], [], .nop⟩, ⟨[], [], .bi .shr (.e 0) (.c (.i .u64 (8)))⟩, ⟨[], [], .nop⟩] [some 5, some 1, none, none, none])
  (.reg [⟨[], [], .nop⟩, ⟨[], [], .bi .add (.e 1) (.c (.n 8))⟩, ⟨[], [], .nop⟩] [some 0, some 5, none, none, none]))) (.skip))))
 ((.seq (.reg [⟨[], [], .nop⟩, ⟨[], [], .nop⟩, ⟨[], [], .cv .u8 (.e 0)⟩, ⟨[], [], .sx (.c (.s [0, 1, 2, 2, 3, 3, 3, 3, 4, 4, 4, 4, 4, 4, 4, 4, 5, 5, 5, 5, 5, 5, 5, 5, 5, 5, 5, 5, 5, 5, 5, 5, 6, 6, 6, 6, 6, 6, 6, 6, 6, 6, 6, 6, 6, 6, 6, 6, 6, 6, 6, 6, 6, 6, 6, 6, 6, 6, 6, 6, 6, 6, 6, 6, 7, 7, 7, 7, 7, 7, 7, 7, 7, 7, 7, 7, 7, 7, 7, 7, 7, 7, 7, 7, 7, 7, 7, 7, 7, 7, 7, 7, 7, 7, 7, 7, 7, 7, 7, 7, 7, 7, 7, 7, 7, 7, 7, 7, 7, 7, 7, 7, 7, 7, 7, 7, 7, 7, 7, 7, 7, 7, 7, 7, 7, 7, 7, 7, 8, 8, 8, 8, 8, 8, 8, 8, 8, 8, 8, 8, 8, 8, 8, 8, 8, 8, 8, 8, 8, 8, 8, 8, 8, 8, 8, 8, 8, 8, 8, 8, 8, 8, 8, 8, 8, 8, 8, 8, 8, 8, 8, 8, 8, 8, 8, 8, 8, 8, 8, 8, 8, 8, 8, 8, 8, 8, 8, 8, 8, 8, 8, 8, 8, 8, 8, 8, 8, 8, 8, 8, 8, 8, 8, 8, 8, 8, 8, 8, 8, 8, 8, 8, 8, 8, 8, 8, 8, 8, 8, 8, 8, 8, 8, 8, 8, 8, 8, 8, 8, 8, 8, 8, 8, 8, 8, 8, 8, 8, 8, 8, 8, 8, 8, 8, 8, 8, 8, 8, 8, 8, 8, 8, 8, 8, 8, 8])) (.e 5)⟩, ⟨[], [], .cv .i64 (.e 6)⟩, ⟨[], [], .bi .add (.e 1) (.e 7)⟩, ⟨[], [], .nop⟩] [none, some 8, none, none, none])
 (.ret))))))))))⟩

/-- slices.Compare[[]int,int] -/
def ir_slices_Compare___int_int_ : IF := ⟨[], 2, 14, [2],
 (.seq (.reg [⟨[], [], .cs .v (.n 0)⟩] [some 0, some 1, none, none, none, none, none, none, none, none, none, none, none, none])
 ((.seq ((.seq (.reg [⟨[], [], .nop⟩, ⟨[], [], .ln (.e 0) []⟩, ⟨[], [], .cs .v (.n 0)⟩] [some 0, some 1, none, none, none, none, none, some 0, some 14, some 15, none, none, none, none])
 (.block 0 (.loop ((.seq (.reg [⟨[], [], .bi .lss (.e 9) (.e 8)⟩] [some 0, some 1, none, none, none, none, none, some 7, some 8, some 9, some 14, none, none, none])
   ((.seq (.cond 10 (.skip) (.exit 0))
   ((.seq (.block 1 ((.seq (.reg [⟨[], [], .nop⟩, ⟨[], [], .iy (.e 7) (.e 9)⟩, ⟨[], [], .nop⟩, ⟨[], [], .nop⟩, ⟨[], [], .nop⟩] [some 0, some 1, none, some 9, some 14, none, none, some 7, some 8, some 9, none, none, none, none])
    ((.seq ((.seq (.reg [⟨[], [], .nop⟩, ⟨[], [], .nop⟩, ⟨[], [], .ln (.e 1) []⟩, ⟨[], [], .bi .geq (.e 3) (.e 14)⟩] [some 0, some 1, none, some 3, some 4, none, none, some 7, some 8, some 9, none, some 15, none, none])
    (.cond 11 ((.seq (.reg [⟨[], [], .cs .v (.n 1)⟩] [none, none, some 14, none, none, none, none, none, none, none, none, none, none, none])
     (.ret))) (.skip))))
    ((.seq (.reg [⟨[], [], .nop⟩, ⟨[], [], .nop⟩, ⟨[], [], .iy (.e 1) (.e 3)⟩, ⟨[], [], .nop⟩, ⟨[], [], .nop⟩] [some 0, some 1, none, none, some 4, some 14, none, some 7, some 8, some 9, none, none, none, none])
    ((.seq (.reg [⟨[], [], .nop⟩, ⟨[], [], .nop⟩, ⟨[], [], .ca 377 [(.e 4), (.e 5)] 1⟩, ⟨[], [], .nop⟩] [some 0, some 1, none, none, none, none, some 14, some 7, some 8, some 9, none, none, none, none])
    ((.seq (.reg [⟨[], [], .nop⟩, ⟨[], [], .bi .neq (.e 6) (.c (.n 0))⟩] [some 0, some 1, none, none, none, none, some 6, some 7, some 8, some 9, none, none, some 14, none])
    (.cond 12 ((.seq (.reg [⟨[], [], .nop⟩, ⟨[], [], .nop⟩] [none, none, some 6, none, none, none, none, none, none, none, none, none, none, none])
     (.ret))) (.skip)))))))))))))
   (.reg [⟨[], [], .bi .add (.e 9) (.c (.n 1))⟩, ⟨[], [], .nop⟩] [some 0, some 1, none, none, none, none, none, some 7, some 8, some 14, none, none, none, none])))))))))))
 ((.seq ((.seq (.reg [⟨[], [], .nop⟩, ⟨[], [], .ln (.e 0) []⟩, ⟨[], [], .nop⟩, ⟨[], [], .ln (.e 1) []⟩, ⟨[], [], .bi .lss (.e 14) (.e 15)⟩] [none, none, none, none, none, none, none, none, none, none, none, none, none, some 16])
 (.cond 13 ((.seq (.reg [⟨[], [], .cs .v (.n (-1))⟩] [none, none, some 14, none, none, none, none, none, none, none, none, none, none, none])
  (.ret))) (.skip))))
 ((.seq (.reg [⟨[], [], .cs .v (.n 0)⟩] [none, none, some 14, none, none, none, none, none, none, none, none, none, none, none])
 (.ret))))))))⟩

/-- slices.SortFunc[[][]int,[]int] -/
def ir_slices_SortFunc_____int___int_ : IF := ⟨[], 2, 3, [0],
 (.seq (.reg [⟨[], [], .nop⟩, ⟨[], [], .ln (.e 0) []⟩, ⟨[], [], .nop⟩] [some 0, some 1, some 3])
 (.reg [⟨[], [], .nop⟩, ⟨[], [], .nop⟩, ⟨[], [], .nop⟩, ⟨[], [], .cv .u64 (.e 2)⟩, ⟨[], [], .ca 376 [(.e 3)] 1⟩, ⟨[], [], .nop⟩, ⟨[], [], .ca 375 [(.e 0), (.c (.n 0)), (.e 2), (.e 4), (.e 1)] 1⟩] [some 5, none, none]))⟩

/-- slices.heapSortCmpFunc[[]int] -/
def ir_slices_heapSortCmpFunc___int_ : IF := ⟨[], 4, 11, [0],
 (.seq (.reg [⟨[], [], .nop⟩, ⟨[], [], .nop⟩] [some 0, some 1, some 2, some 3, some 1, none, none, none, none, none, none])
 ((.seq (.reg [⟨[], [], .cs .v (.n 0)⟩] [some 0, some 1, some 2, some 3, some 4, some 11, none, none, none, none, none])
 ((.seq (.reg [⟨[], [], .nop⟩, ⟨[], [], .nop⟩, ⟨[], [], .bi .sub (.e 2) (.e 1)⟩, ⟨[], [], .nop⟩] [some 0, none, none, some 3, some 4, some 5, some 11, none, none, none, none])
 ((.seq ((.seq (.reg [⟨[], [], .nop⟩, ⟨[], [], .bi .sub (.e 6) (.c (.n 1))⟩, ⟨[], [], .bi .quo (.e 11) (.c (.n 2))⟩, ⟨[], [], .nop⟩] [some 0, none, none, some 3, some 4, some 5, some 6, some 12, none, none, none])
 (.block 0 (.loop ((.seq ((.seq (.reg [⟨[], [], .nop⟩, ⟨[], [], .bi .geq (.e 7) (.c (.n 0))⟩] [some 0, none, none, some 3, some 4, some 5, some 6, some 7, none, some 11, none])
   (.cond 9 (.skip) (.exit 0))))
   ((.seq (.block 1 (.reg [⟨[], [], .nop⟩, ⟨[], [], .nop⟩, ⟨[], [], .nop⟩, ⟨[], [], .nop⟩, ⟨[], [], .nop⟩, ⟨[], [], .ca 392 [(.e 0), (.e 7), (.e 6), (.e 4), (.e 3)] 1⟩] [some 11, none, none, some 3, some 4, some 5, some 6, some 7, none, none, none]))
   (.reg [⟨[], [], .nop⟩, ⟨[], [], .bi .sub (.e 7) (.c (.n 1))⟩, ⟨[], [], .nop⟩] [some 0, none, none, some 3, some 4, some 5, some 6, some 11, none, none, none])))))))))
 ((.seq (.reg [⟨[], [], .nop⟩, ⟨[], [], .bi .sub (.e 6) (.c (.n 1))⟩, ⟨[], [], .nop⟩] [some 0, none, none, some 3, some 4, some 5, none, none, some 11, none, none])
 (.block 2 (.loop ((.seq ((.seq (.reg [⟨[], [], .nop⟩, ⟨[], [], .bi .geq (.e 8) (.c (.n 0))⟩] [some 0, none, none, some 3, some 4, some 5, none, none, some 8, none, some 11])
   (.cond 10 (.skip) (.exit 2))))
   ((.seq (.block 3 ((.seq (.reg [⟨[], [], .nop⟩, ⟨[], [], .nop⟩, ⟨[], [], .nop⟩, ⟨[], [], .nop⟩, ⟨[], [], .nop⟩, ⟨[], [], .bi .add (.e 4) (.e 8)⟩, ⟨[], [], .nop⟩, ⟨[], [], .nop⟩, ⟨[], [], .nop⟩, ⟨[], [], .bi .add (.e 4) (.e 8)⟩, ⟨[], [], .ix (.e 0) [] (.e 12)⟩, ⟨[], [], .nop⟩, ⟨[], [], .nop⟩, ⟨[], [], .nop⟩, ⟨[], [], .ix (.e 0) [] (.e 4)⟩, ⟨[], [], .nop⟩, ⟨[], [], .ix (.e 0) [] (.e 4)⟩, ⟨[], [], .up 0 [.e 4] (.e 13)⟩, ⟨[], [], .ix (.e 16) [] (.e 11)⟩, ⟨[], [], .up 16 [.e 11] (.e 14)⟩] [some 18, none, none, some 3, some 4, some 5, none, none, some 8, none, none])
    (.reg [⟨[], [], .nop⟩, ⟨[], [], .nop⟩, ⟨[], [], .nop⟩, ⟨[], [], .nop⟩, ⟨[], [], .nop⟩, ⟨[], [], .ca 392 [(.e 0), (.e 5), (.e 8), (.e 4), (.e 3)] 1⟩] [some 11, none, none, some 3, some 4, some 5, none, none, some 8, none, none]))))
   (.reg [⟨[], [], .nop⟩, ⟨[], [], .bi .sub (.e 8) (.c (.n 1))⟩, ⟨[], [], .nop⟩] [some 0, none, none, some 3, some 4, some 5, none, none, some 11, none, none]))))))))))))))))⟩

/-- slices.insertionSortCmpFunc[[]int] -/
def ir_slices_insertionSortCmpFunc___int_ : IF := ⟨[], 4, 8, [0],
 (.seq (.reg [⟨[], [], .nop⟩, ⟨[], [], .bi .add (.e 1) (.c (.n 1))⟩, ⟨[], [], .nop⟩] [some 0, some 1, some 2, some 3, some 8, none, none, none])
 (.block 0 (.loop ((.seq ((.seq (.reg [⟨[], [], .nop⟩, ⟨[], [], .nop⟩, ⟨[], [], .bi .lss (.e 4) (.e 2)⟩] [some 0, some 1, some 2, some 3, some 4, none, some 8, none])
   (.cond 6 (.skip) (.exit 0))))
   ((.seq (.block 1 ((.seq (.reg [⟨[], [], .nop⟩, ⟨[], [], .nop⟩] [some 0, some 1, some 2, some 3, some 4, some 4, none, none])
    (.block 2 (.loop ((.seq ((.seq (.reg [⟨[], [], .nop⟩, ⟨[], [], .nop⟩, ⟨[], [], .bi .gtr (.e 5) (.e 1)⟩, ⟨[], [], .nop⟩, ⟨[], [(8, true)], .cy (.e 3)⟩, ⟨[], [(8, true)], .nop⟩, ⟨[], [(8, true)], .cy (.e 5)⟩, ⟨[], [(8, true)], .ix (.e 0) [] (.e 10)⟩, ⟨[], [(8, true)], .nop⟩, ⟨[], [(8, true)], .nop⟩, ⟨[], [(8, true)], .cy (.e 5)⟩, ⟨[], [(8, true)], .bi .sub (.e 12) (.c (.n 1))⟩, ⟨[], [(8, true)], .ix (.e 0) [] (.e 13)⟩, ⟨[], [(8, true)], .nop⟩, ⟨[], [(8, true)], .cd (.e 9) 364 [(.e 11), (.e 14)] 1⟩, ⟨[], [(8, true)], .bi .lss (.e 15) (.c (.n 0))⟩, ⟨[], [], .pk (.e 8) (.e 16) (.c (.b false))⟩] [some 0, some 1, some 2, some 3, some 4, some 5, none, some 17])
      (.cond 7 (.skip) (.exit 2))))
      ((.seq (.block 3 (.reg [⟨[], [], .nop⟩, ⟨[], [], .nop⟩, ⟨[], [], .nop⟩, ⟨[], [], .nop⟩, ⟨[], [], .bi .sub (.e 5) (.c (.n 1))⟩, ⟨[], [], .nop⟩, ⟨[], [], .nop⟩, ⟨[], [], .bi .sub (.e 5) (.c (.n 1))⟩, ⟨[], [], .ix (.e 0) [] (.e 9)⟩, ⟨[], [], .nop⟩, ⟨[], [], .nop⟩, ⟨[], [], .nop⟩, ⟨[], [], .ix (.e 0) [] (.e 5)⟩, ⟨[], [], .nop⟩, ⟨[], [], .ix (.e 0) [] (.e 5)⟩, ⟨[], [], .up 0 [.e 5] (.e 10)⟩, ⟨[], [], .ix (.e 13) [] (.e 8)⟩, ⟨[], [], .up 13 [.e 8] (.e 11)⟩] [some 15, some 1, some 2, some 3, some 4, some 5, none, none]))
      (.reg [⟨[], [], .nop⟩, ⟨[], [], .bi .sub (.e 5) (.c (.n 1))⟩, ⟨[], [], .nop⟩] [some 0, some 1, some 2, some 3, some 4, some 8, none, none]))))))))))
   (.reg [⟨[], [], .nop⟩, ⟨[], [], .bi .add (.e 4) (.c (.n 1))⟩, ⟨[], [], .nop⟩] [some 0, some 1, some 2, some 3, some 8, none, none, none]))))))))⟩

/-- slices.partialInsertionSortCmpFunc[[]int] -/
def ir_slices_partialInsertionSortCmpFunc___int_ : IF := ⟨[], 4, 19, [4, 0],
 (.seq (.reg [⟨[], [], .cs .v (.b false)⟩] [some 0, some 1, some 2, some 3, none, none, none, none, none, none, none, none, none, none, none, none, none, none, none])
 ((.seq (.reg [⟨[], [], .nop⟩, ⟨[], [], .bi .add (.e 1) (.c (.n 1))⟩, ⟨[], [], .nop⟩] [some 0, some 1, some 2, some 3, none, some 19, none, none, none, none, none, none, none, none, none, none, none, none, none])
 ((.seq ((.seq (.reg [⟨[], [], .cs .v (.n 0)⟩] [some 0, some 1, some 2, some 3, none, some 5, some 19, none, none, none, none, none, none, none, none, none, none, none, none])
 (.block 0 (.loop ((.seq ((.seq (.reg [⟨[], [], .nop⟩, ⟨[], [], .bi .lss (.e 6) (.c (.n 5))⟩] [some 0, some 1, some 2, some 3, none, some 5, some 6, none, none, some 19, none, none, none, none, none, none, none, none, none])
   (.cond 9 (.skip) (.exit 0))))
   ((.seq (.block 1 ((.seq (.block 2 (.loop ((.seq ((.seq (.reg [⟨[], [], .nop⟩, ⟨[], [], .nop⟩, ⟨[], [], .bi .lss (.e 5) (.e 2)⟩, ⟨[], [], .nop⟩, ⟨[], [(19, true)], .cy (.e 3)⟩, ⟨[], [(19, true)], .nop⟩, ⟨[], [(19, true)], .cy (.e 5)⟩, ⟨[], [(19, true)], .ix (.e 0) [] (.e 21)⟩, ⟨[], [(19, true)], .nop⟩, ⟨[], [(19, true)], .nop⟩, ⟨[], [(19, true)], .cy (.e 5)⟩, ⟨[], [(19, true)], .bi .sub (.e 23) (.c (.n 1))⟩, ⟨[], [(19, true)], .ix (.e 0) [] (.e 24)⟩, ⟨[], [(19, true)], .nop⟩, ⟨[], [(19, true)], .cd (.e 20) 364 [(.e 22), (.e 25)] 1⟩, ⟨[], [(19, true)], .bi .lss (.e 26) (.c (.n 0))⟩, ⟨[], [(19, true)], .un .not (.e 27)⟩, ⟨[], [], .pk (.e 19) (.e 28) (.c (.b false))⟩] [some 0, some 1, some 2, some 3, none, some 5, some 6, none, none, none, some 29, none, none, none, none, none, none, none, none])
      (.cond 10 (.skip) (.exit 2))))
      (.block 3 (.reg [⟨[], [], .nop⟩, ⟨[], [], .bi .add (.e 5) (.c (.n 1))⟩, ⟨[], [], .nop⟩] [some 0, some 1, some 2, some 3, none, some 19, some 6, none, none, none, none, none, none, none, none, none, none, none, none]))))))
    ((.seq ((.seq (.reg [⟨[], [], .nop⟩, ⟨[], [], .nop⟩, ⟨[], [], .bi .eql (.e 5) (.e 2)⟩] [some 0, some 1, some 2, some 3, none, some 5, some 6, none, none, none, none, some 19, none, none, none, none, none, none, none])
    (.cond 11 ((.seq (.reg [⟨[], [], .cs .v (.b true)⟩] [some 0, none, none, none, some 19, none, none, none, none, none, none, none, none, none, none, none, none, none, none])
     (.ret))) (.skip))))
    ((.seq ((.seq (.reg [⟨[], [], .nop⟩, ⟨[], [], .nop⟩, ⟨[], [], .bi .sub (.e 2) (.e 1)⟩, ⟨[], [], .bi .lss (.e 19) (.c (.n 50))⟩] [some 0, some 1, some 2, some 3, none, some 5, some 6, none, none, none, none, none, some 20, none, none, none, none, none, none])
    (.cond 12 ((.seq (.reg [⟨[], [], .cs .v (.b false)⟩] [some 0, none, none, none, some 19, none, none, none, none, none, none, none, none, none, none, none, none, none, none])
     (.ret))) (.skip))))
    ((.seq (.reg [⟨[], [], .nop⟩, ⟨[], [], .nop⟩, ⟨[], [], .nop⟩, ⟨[], [], .nop⟩, ⟨[], [], .bi .sub (.e 5) (.c (.n 1))⟩, ⟨[], [], .nop⟩, ⟨[], [], .nop⟩, ⟨[], [], .bi .sub (.e 5) (.c (.n 1))⟩, ⟨[], [], .ix (.e 0) [] (.e 20)⟩, ⟨[], [], .nop⟩, ⟨[], [], .nop⟩, ⟨[], [], .nop⟩, ⟨[], [], .ix (.e 0) [] (.e 5)⟩, ⟨[], [], .nop⟩, ⟨[], [], .ix (.e 0) [] (.e 5)⟩, ⟨[], [], .up 0 [.e 5] (.e 21)⟩, ⟨[], [], .ix (.e 24) [] (.e 19)⟩, ⟨[], [], .up 24 [.e 19] (.e 22)⟩] [some 26, some 1, some 2, some 3, none, some 5, some 6, none, none, none, none, none, none, none, none, none, none, none, none])
    ((.seq ((.seq (.reg [⟨[], [], .nop⟩, ⟨[], [], .nop⟩, ⟨[], [], .bi .sub (.e 5) (.e 1)⟩, ⟨[], [], .bi .geq (.e 19) (.c (.n 2))⟩] [some 0, some 1, some 2, some 3, none, some 5, some 6, none, none, none, none, none, none, some 20, none, none, none, none, none])
    (.cond 13 ((.seq (.reg [⟨[], [], .nop⟩, ⟨[], [], .bi .sub (.e 5) (.c (.n 1))⟩, ⟨[], [], .nop⟩] [some 0, some 1, some 2, some 3, none, some 5, some 6, some 19, none, none, none, none, none, none, none, none, none, none, none])
     (.block 4 (.loop ((.seq ((.seq (.reg [⟨[], [], .nop⟩, ⟨[], [], .bi .geq (.e 7) (.c (.n 1))⟩] [some 0, some 1, some 2, some 3, none, some 5, some 6, some 7, none, none, none, none, none, none, some 19, none, none, none, none])
       (.cond 14 (.skip) (.exit 4))))
       ((.seq (.block 5 ((.seq ((.seq (.reg [⟨[], [], .nop⟩, ⟨[], [], .nop⟩, ⟨[], [], .nop⟩, ⟨[], [], .ix (.e 0) [] (.e 7)⟩, ⟨[], [], .nop⟩, ⟨[], [], .nop⟩, ⟨[], [], .nop⟩, ⟨[], [], .bi .sub (.e 7) (.c (.n 1))⟩, ⟨[], [], .ix (.e 0) [] (.e 20)⟩, ⟨[], [], .nop⟩, ⟨[], [], .cd (.e 3) 364 [(.e 19), (.e 21)] 1⟩, ⟨[], [], .bi .lss (.e 22) (.c (.n 0))⟩, ⟨[], [], .un .not (.e 23)⟩] [some 0, some 1, some 2, some 3, none, some 5, some 6, some 7, none, none, none, none, none, none, none, some 24, none, none, none])
        (.cond 15 (.exit 4) (.skip))))
        (.reg [⟨[], [], .nop⟩, ⟨[], [], .nop⟩, ⟨[], [], .nop⟩, ⟨[], [], .nop⟩, ⟨[], [], .bi .sub (.e 7) (.c (.n 1))⟩, ⟨[], [], .nop⟩, ⟨[], [], .nop⟩, ⟨[], [], .bi .sub (.e 7) (.c (.n 1))⟩, ⟨[], [], .ix (.e 0) [] (.e 20)⟩, ⟨[], [], .nop⟩, ⟨[], [], .nop⟩, ⟨[], [], .nop⟩, ⟨[], [], .ix (.e 0) [] (.e 7)⟩, ⟨[], [], .nop⟩, ⟨[], [], .ix (.e 0) [] (.e 7)⟩, ⟨[], [], .up 0 [.e 7] (.e 21)⟩, ⟨[], [], .ix (.e 24) [] (.e 19)⟩, ⟨[], [], .up 24 [.e 19] (.e 22)⟩] [some 26, some 1, some 2, some 3, none, some 5, some 6, some 7, none, none, none, none, none, none, none, none, none, none, none]))))
       (.reg [⟨[], [], .nop⟩, ⟨[], [], .bi .sub (.e 7) (.c (.n 1))⟩, ⟨[], [], .nop⟩] [some 0, some 1, some 2, some 3, none, some 5, some 6, some 19, none, none, none, none, none, none, none, none, none, none, none]))))))))) (.skip))))
    ((.seq (.reg [⟨[], [], .nop⟩, ⟨[], [], .nop⟩, ⟨[], [], .bi .sub (.e 2) (.e 5)⟩, ⟨[], [], .bi .geq (.e 19) (.c (.n 2))⟩] [some 0, some 1, some 2, some 3, none, some 5, some 6, none, none, none, none, none, none, none, none, none, some 20, none, none])
    (.cond 16 ((.seq (.reg [⟨[], [], .nop⟩, ⟨[], [], .bi .add (.e 5) (.c (.n 1))⟩, ⟨[], [], .nop⟩] [some 0, some 1, some 2, some 3, none, some 5, some 6, none, some 19, none, none, none, none, none, none, none, none, none, none])
     (.block 6 (.loop ((.seq ((.seq (.reg [⟨[], [], .nop⟩, ⟨[], [], .nop⟩, ⟨[], [], .bi .lss (.e 8) (.e 2)⟩] [some 0, some 1, some 2, some 3, none, some 5, some 6, none, some 8, none, none, none, none, none, none, none, none, some 19, none])
       (.cond 17 (.skip) (.exit 6))))
       ((.seq (.block 7 ((.seq ((.seq (.reg [⟨[], [], .nop⟩, ⟨[], [], .nop⟩, ⟨[], [], .nop⟩, ⟨[], [], .ix (.e 0) [] (.e 8)⟩, ⟨[], [], .nop⟩, ⟨[], [], .nop⟩, ⟨[], [], .nop⟩, ⟨[], [], .bi .sub (.e 8) (.c (.n 1))⟩, ⟨[], [], .ix (.e 0) [] (.e 20)⟩, ⟨[], [], .nop⟩, ⟨[], [], .cd (.e 3) 364 [(.e 19), (.e 21)] 1⟩, ⟨[], [], .bi .lss (.e 22) (.c (.n 0))⟩, ⟨[], [], .un .not (.e 23)⟩] [some 0, some 1, some 2, some 3, none, some 5, some 6, none, some 8, none, none, none, none, none, none, none, none, none, some 24])
        (.cond 18 (.exit 6) (.skip))))
        (.reg [⟨[], [], .nop⟩, ⟨[], [], .nop⟩, ⟨[], [], .nop⟩, ⟨[], [], .nop⟩, ⟨[], [], .bi .sub (.e 8) (.c (.n 1))⟩, ⟨[], [], .nop⟩, ⟨[], [], .nop⟩, ⟨[], [], .bi .sub (.e 8) (.c (.n 1))⟩, ⟨[], [], .ix (.e 0) [] (.e 20)⟩, ⟨[], [], .nop⟩, ⟨[], [], .nop⟩, ⟨[], [], .nop⟩, ⟨[], [], .ix (.e 0) [] (.e 8)⟩, ⟨[], [], .nop⟩, ⟨[], [], .ix (.e 0) [] (.e 8)⟩, ⟨[], [], .up 0 [.e 8] (.e 21)⟩, ⟨[], [], .ix (.e 24) [] (.e 19)⟩, ⟨[], [], .up 24 [.e 19] (.e 22)⟩] [some 26, some 1, some 2, some 3, none, some 5, some 6, none, some 8, none, none, none, none, none, none, none, none, none, none]))))
       (.reg [⟨[], [], .nop⟩, ⟨[], [], .bi .add (.e 8) (.c (.n 1))⟩, ⟨[], [], .nop⟩] [some 0, some 1, some 2, some 3, none, some 5, some 6, none, some 19, none, none, none, none, none, none, none, none, none, none]))))))))) (.skip)))))))))))))))
   (.reg [⟨[], [], .nop⟩, ⟨[], [], .bi .add (.e 6) (.c (.n 1))⟩, ⟨[], [], .nop⟩] [some 0, some 1, some 2, some 3, none, some 5, some 19, none, none, none, none, none, none, none, none, none, none, none, none])))))))))
 ((.seq (.reg [⟨[], [], .cs .v (.b false)⟩] [some 0, none, none, none, some 19, none, none, none, none, none, none, none, none, none, none, none, none, none, none])
 (.ret))))))))⟩

/-- slices.partitionCmpFunc[[]int] -/
def ir_slices_partitionCmpFunc___int_ : IF := ⟨[], 5, 15, [5, 6, 0],
 (.seq (.reg [⟨[], [], .cs .v (.n 0)⟩, ⟨[], [], .cs .v (.b false)⟩] [some 0, some 1, some 2, some 3, some 4, none, none, none, none, none, none, none, none, none, none])
 ((.seq (.reg [⟨[], [], .nop⟩, ⟨[], [], .nop⟩, ⟨[], [], .nop⟩, ⟨[], [], .nop⟩, ⟨[], [], .nop⟩, ⟨[], [], .nop⟩, ⟨[], [], .ix (.e 0) [] (.e 3)⟩, ⟨[], [], .nop⟩, ⟨[], [], .nop⟩, ⟨[], [], .nop⟩, ⟨[], [], .ix (.e 0) [] (.e 1)⟩, ⟨[], [], .nop⟩, ⟨[], [], .ix (.e 0) [] (.e 1)⟩, ⟨[], [], .up 0 [.e 1] (.e 15)⟩, ⟨[], [], .ix (.e 18) [] (.e 3)⟩, ⟨[], [], .up 18 [.e 3] (.e 16)⟩] [some 20, some 1, some 2, none, some 4, none, none, none, none, none, none, none, none, none, none])
 ((.seq (.reg [⟨[], [], .nop⟩, ⟨[], [], .bi .add (.e 1) (.c (.n 1))⟩, ⟨[], [], .nop⟩, ⟨[], [], .bi .sub (.e 2) (.c (.n 1))⟩, ⟨[], [], .nop⟩, ⟨[], [], .nop⟩] [some 0, some 1, none, none, some 4, none, none, some 15, some 16, none, none, none, none, none, none])
 ((.seq (.block 0 (.loop ((.seq ((.seq (.reg [⟨[], [], .nop⟩, ⟨[], [], .nop⟩, ⟨[], [], .bi .leq (.e 7) (.e 8)⟩, ⟨[], [], .nop⟩, ⟨[], [(15, true)], .cy (.e 4)⟩, ⟨[], [(15, true)], .nop⟩, ⟨[], [(15, true)], .cy (.e 7)⟩, ⟨[], [(15, true)], .ix (.e 0) [] (.e 17)⟩, ⟨[], [(15, true)], .nop⟩, ⟨[], [(15, true)], .nop⟩, ⟨[], [(15, true)], .cy (.e 1)⟩, ⟨[], [(15, true)], .ix (.e 0) [] (.e 19)⟩, ⟨[], [(15, true)], .nop⟩, ⟨[], [(15, true)], .cd (.e 16) 364 [(.e 18), (.e 20)] 1⟩, ⟨[], [(15, true)], .bi .lss (.e 21) (.c (.n 0))⟩, ⟨[], [], .pk (.e 15) (.e 22) (.c (.b false))⟩] [some 0, some 1, none, none, some 4, none, none, some 7, some 8, some 23, none, none, none, none, none])
   (.cond 9 (.skip) (.exit 0))))
   (.block 1 (.reg [⟨[], [], .nop⟩, ⟨[], [], .bi .add (.e 7) (.c (.n 1))⟩, ⟨[], [], .nop⟩] [some 0, some 1, none, none, some 4, none, none, some 15, some 8, none, none, none, none, none, none]))))))
 ((.seq (.block 2 (.loop ((.seq ((.seq (.reg [⟨[], [], .nop⟩, ⟨[], [], .nop⟩, ⟨[], [], .bi .leq (.e 7) (.e 8)⟩, ⟨[], [], .nop⟩, ⟨[], [(15, true)], .cy (.e 4)⟩, ⟨[], [(15, true)], .nop⟩, ⟨[], [(15, true)], .cy (.e 8)⟩, ⟨[], [(15, true)], .ix (.e 0) [] (.e 17)⟩, ⟨[], [(15, true)], .nop⟩, ⟨[], [(15, true)], .nop⟩, ⟨[], [(15, true)], .cy (.e 1)⟩, ⟨[], [(15, true)], .ix (.e 0) [] (.e 19)⟩, ⟨[], [(15, true)], .nop⟩, ⟨[], [(15, true)], .cd (.e 16) 364 [(.e 18), (.e 20)] 1⟩, ⟨[], [(15, true)], .bi .lss (.e 21) (.c (.n 0))⟩, ⟨[], [(15, true)], .un .not (.e 22)⟩, ⟨[], [], .pk (.e 15) (.e 23) (.c (.b false))⟩] [some 0, some 1, none, none, some 4, none, none, some 7, some 8, none, some 24, none, none, none, none])
   (.cond 10 (.skip) (.exit 2))))
   (.block 3 (.reg [⟨[], [], .nop⟩, ⟨[], [], .bi .sub (.e 8) (.c (.n 1))⟩, ⟨[], [], .nop⟩] [some 0, some 1, none, none, some 4, none, none, some 7, some 15, none, none, none, none, none, none]))))))
 ((.seq ((.seq (.reg [⟨[], [], .nop⟩, ⟨[], [], .nop⟩, ⟨[], [], .bi .gtr (.e 7) (.e 8)⟩] [some 0, some 1, none, none, some 4, none, none, some 7, some 8, none, none, some 15, none, none, none])
 (.cond 11 ((.seq (.reg [⟨[], [], .nop⟩, ⟨[], [], .nop⟩, ⟨[], [], .nop⟩, ⟨[], [], .nop⟩, ⟨[], [], .nop⟩, ⟨[], [], .nop⟩, ⟨[], [], .ix (.e 0) [] (.e 1)⟩, ⟨[], [], .nop⟩, ⟨[], [], .nop⟩, ⟨[], [], .nop⟩, ⟨[], [], .ix (.e 0) [] (.e 8)⟩, ⟨[], [], .nop⟩, ⟨[], [], .ix (.e 0) [] (.e 8)⟩, ⟨[], [], .up 0 [.e 8] (.e 15)⟩, ⟨[], [], .ix (.e 18) [] (.e 1)⟩, ⟨[], [], .up 18 [.e 1] (.e 16)⟩] [some 20, none, none, none, none, none, none, none, some 8, none, none, none, none, none, none])
  ((.seq (.reg [⟨[], [], .nop⟩, ⟨[], [], .nop⟩, ⟨[], [], .cs .v (.b true)⟩] [some 0, none, none, none, none, some 8, some 15, none, none, none, none, none, none, none, none])
  (.ret))))) (.skip))))
 ((.seq (.reg [⟨[], [], .nop⟩, ⟨[], [], .nop⟩, ⟨[], [], .nop⟩, ⟨[], [], .nop⟩, ⟨[], [], .nop⟩, ⟨[], [], .nop⟩, ⟨[], [], .ix (.e 0) [] (.e 8)⟩, ⟨[], [], .nop⟩, ⟨[], [], .nop⟩, ⟨[], [], .nop⟩, ⟨[], [], .ix (.e 0) [] (.e 7)⟩, ⟨[], [], .nop⟩, ⟨[], [], .ix (.e 0) [] (.e 7)⟩, ⟨[], [], .up 0 [.e 7] (.e 15)⟩, ⟨[], [], .ix (.e 18) [] (.e 8)⟩, ⟨[], [], .up 18 [.e 8] (.e 16)⟩] [some 20, some 1, none, none, some 4, none, none, some 7, some 8, none, none, none, none, none, none])
 ((.seq (.reg [⟨[], [], .nop⟩, ⟨[], [], .bi .add (.e 7) (.c (.n 1))⟩, ⟨[], [], .nop⟩] [some 0, some 1, none, none, some 4, none, none, some 15, some 8, none, none, none, none, none, none])
 ((.seq (.reg [⟨[], [], .nop⟩, ⟨[], [], .bi .sub (.e 8) (.c (.n 1))⟩, ⟨[], [], .nop⟩] [some 0, some 1, none, none, some 4, none, none, some 7, some 15, none, none, none, none, none, none])
 ((.seq (.block 4 (.loop (.block 5 ((.seq (.block 6 (.loop ((.seq ((.seq (.reg [⟨[], [], .nop⟩, ⟨[], [], .nop⟩, ⟨[], [], .bi .leq (.e 7) (.e 8)⟩, ⟨[], [], .nop⟩, ⟨[], [(15, true)], .cy (.e 4)⟩, ⟨[], [(15, true)], .nop⟩, ⟨[], [(15, true)], .cy (.e 7)⟩, ⟨[], [(15, true)], .ix (.e 0) [] (.e 17)⟩, ⟨[], [(15, true)], .nop⟩, ⟨[], [(15, true)], .nop⟩, ⟨[], [(15, true)], .cy (.e 1)⟩, ⟨[], [(15, true)], .ix (.e 0) [] (.e 19)⟩, ⟨[], [(15, true)], .nop⟩, ⟨[], [(15, true)], .cd (.e 16) 364 [(.e 18), (.e 20)] 1⟩, ⟨[], [(15, true)], .bi .lss (.e 21) (.c (.n 0))⟩, ⟨[], [], .pk (.e 15) (.e 22) (.c (.b false))⟩] [some 0, some 1, none, none, some 4, none, none, some 7, some 8, none, none, none, some 23, none, none])
      (.cond 12 (.skip) (.exit 6))))
      (.block 7 (.reg [⟨[], [], .nop⟩, ⟨[], [], .bi .add (.e 7) (.c (.n 1))⟩, ⟨[], [], .nop⟩] [some 0, some 1, none, none, some 4, none, none, some 15, some 8, none, none, none, none, none, none]))))))
    ((.seq (.block 8 (.loop ((.seq ((.seq (.reg [⟨[], [], .nop⟩, ⟨[], [], .nop⟩, ⟨[], [], .bi .leq (.e 7) (.e 8)⟩, ⟨[], [], .nop⟩, ⟨[], [(15, true)], .cy (.e 4)⟩, ⟨[], [(15, true)], .nop⟩, ⟨[], [(15, true)], .cy (.e 8)⟩, ⟨[], [(15, true)], .ix (.e 0) [] (.e 17)⟩, ⟨[], [(15, true)], .nop⟩, ⟨[], [(15, true)], .nop⟩, ⟨[], [(15, true)], .cy (.e 1)⟩, ⟨[], [(15, true)], .ix (.e 0) [] (.e 19)⟩, ⟨[], [(15, true)], .nop⟩, ⟨[], [(15, true)], .cd (.e 16) 364 [(.e 18), (.e 20)] 1⟩, ⟨[], [(15, true)], .bi .lss (.e 21) (.c (.n 0))⟩, ⟨[], [(15, true)], .un .not (.e 22)⟩, ⟨[], [], .pk (.e 15) (.e 23) (.c (.b false))⟩] [some 0, some 1, none, none, some 4, none, none, some 7, some 8, none, none, none, none, some 24, none])
      (.cond 13 (.skip) (.exit 8))))
      (.block 9 (.reg [⟨[], [], .nop⟩, ⟨[], [], .bi .sub (.e 8) (.c (.n 1))⟩, ⟨[], [], .nop⟩] [some 0, some 1, none, none, some 4, none, none, some 7, some 15, none, none, none, none, none, none]))))))
    ((.seq ((.seq (.reg [⟨[], [], .nop⟩, ⟨[], [], .nop⟩, ⟨[], [], .bi .gtr (.e 7) (.e 8)⟩] [some 0, some 1, none, none, some 4, none, none, some 7, some 8, none, none, none, none, none, some 15])
    (.cond 14 (.exit 4) (.skip))))
    ((.seq (.reg [⟨[], [], .nop⟩, ⟨[], [], .nop⟩, ⟨[], [], .nop⟩, ⟨[], [], .nop⟩, ⟨[], [], .nop⟩, ⟨[], [], .nop⟩, ⟨[], [], .ix (.e 0) [] (.e 8)⟩, ⟨[], [], .nop⟩, ⟨[], [], .nop⟩, ⟨[], [], .nop⟩, ⟨[], [], .ix (.e 0) [] (.e 7)⟩, ⟨[], [], .nop⟩, ⟨[], [], .ix (.e 0) [] (.e 7)⟩, ⟨[], [], .up 0 [.e 7] (.e 15)⟩, ⟨[], [], .ix (.e 18) [] (.e 8)⟩, ⟨[], [], .up 18 [.e 8] (.e 16)⟩] [some 20, some 1, none, none, some 4, none, none, some 7, some 8, none, none, none, none, none, none])
    ((.seq (.reg [⟨[], [], .nop⟩, ⟨[], [], .bi .add (.e 7) (.c (.n 1))⟩, ⟨[], [], .nop⟩] [some 0, some 1, none, none, some 4, none, none, some 15, some 8, none, none, none, none, none, none])
    (.reg [⟨[], [], .nop⟩, ⟨[], [], .bi .sub (.e 8) (.c (.n 1))⟩, ⟨[], [], .nop⟩] [some 0, some 1, none, none, some 4, none, none, some 7, some 15, none, none, none, none, none, none]))))))))))))))
 ((.seq (.reg [⟨[], [], .nop⟩, ⟨[], [], .nop⟩, ⟨[], [], .nop⟩, ⟨[], [], .nop⟩, ⟨[], [], .nop⟩, ⟨[], [], .nop⟩, ⟨[], [], .ix (.e 0) [] (.e 1)⟩, ⟨[], [], .nop⟩, ⟨[], [], .nop⟩, ⟨[], [], .nop⟩, ⟨[], [], .ix (.e 0) [] (.e 8)⟩, ⟨[], [], .nop⟩, ⟨[], [], .ix (.e 0) [] (.e 8)⟩, ⟨[], [], .up 0 [.e 8] (.e 15)⟩, ⟨[], [], .ix (.e 18) [] (.e 1)⟩, ⟨[], [], .up 18 [.e 1] (.e 16)⟩] [some 20, none, none, none, none, none, none, none, some 8, none, none, none, none, none, none])
 ((.seq (.reg [⟨[], [], .nop⟩, ⟨[], [], .nop⟩, ⟨[], [], .cs .v (.b false)⟩] [some 0, none, none, none, none, some 8, some 15, none, none, none, none, none, none, none, none])
 (.ret))))))))))))))))))))))))⟩

/-- slices.partitionEqualCmpFunc[[]int] -/
def ir_slices_partitionEqualCmpFunc___int_ : IF := ⟨[], 5, 11, [5, 0],
 (.seq (.reg [⟨[], [], .cs .v (.n 0)⟩] [some 0, some 1, some 2, some 3, some 4, none, none, none, none, none, none])
 ((.seq (.reg [⟨[], [], .nop⟩, ⟨[], [], .nop⟩, ⟨[], [], .nop⟩, ⟨[], [], .nop⟩, ⟨[], [], .nop⟩, ⟨[], [], .nop⟩, ⟨[], [], .ix (.e 0) [] (.e 3)⟩, ⟨[], [], .nop⟩, ⟨[], [], .nop⟩, ⟨[], [], .nop⟩, ⟨[], [], .ix (.e 0) [] (.e 1)⟩, ⟨[], [], .nop⟩, ⟨[], [], .ix (.e 0) [] (.e 1)⟩, ⟨[], [], .up 0 [.e 1] (.e 11)⟩, ⟨[], [], .ix (.e 14) [] (.e 3)⟩, ⟨[], [], .up 14 [.e 3] (.e 12)⟩] [some 16, some 1, some 2, none, some 4, none, none, none, none, none, none])
 ((.seq (.reg [⟨[], [], .nop⟩, ⟨[], [], .bi .add (.e 1) (.c (.n 1))⟩, ⟨[], [], .nop⟩, ⟨[], [], .bi .sub (.e 2) (.c (.n 1))⟩, ⟨[], [], .nop⟩, ⟨[], [], .nop⟩] [some 0, some 1, none, none, some 4, none, some 11, some 12, none, none, none])
 ((.seq (.block 0 (.loop (.block 1 ((.seq (.block 2 (.loop ((.seq ((.seq (.reg [⟨[], [], .nop⟩, ⟨[], [], .nop⟩, ⟨[], [], .bi .leq (.e 6) (.e 7)⟩, ⟨[], [], .nop⟩, ⟨[], [(11, true)], .cy (.e 4)⟩, ⟨[], [(11, true)], .nop⟩, ⟨[], [(11, true)], .cy (.e 1)⟩, ⟨[], [(11, true)], .ix (.e 0) [] (.e 13)⟩, ⟨[], [(11, true)], .nop⟩, ⟨[], [(11, true)], .nop⟩, ⟨[], [(11, true)], .cy (.e 6)⟩, ⟨[], [(11, true)], .ix (.e 0) [] (.e 15)⟩, ⟨[], [(11, true)], .nop⟩, ⟨[], [(11, true)], .cd (.e 12) 364 [(.e 14), (.e 16)] 1⟩, ⟨[], [(11, true)], .bi .lss (.e 17) (.c (.n 0))⟩, ⟨[], [(11, true)], .un .not (.e 18)⟩, ⟨[], [], .pk (.e 11) (.e 19) (.c (.b false))⟩] [some 0, some 1, none, none, some 4, none, some 6, some 7, some 20, none, none])
      (.cond 8 (.skip) (.exit 2))))
      (.block 3 (.reg [⟨[], [], .nop⟩, ⟨[], [], .bi .add (.e 6) (.c (.n 1))⟩, ⟨[], [], .nop⟩] [some 0, some 1, none, none, some 4, none, some 11, some 7, none, none, none]))))))
    ((.seq (.block 4 (.loop ((.seq ((.seq (.reg [⟨[], [], .nop⟩, ⟨[], [], .nop⟩, ⟨[], [], .bi .leq (.e 6) (.e 7)⟩, ⟨[], [], .nop⟩, ⟨[], [(11, true)], .cy (.e 4)⟩, ⟨[], [(11, true)], .nop⟩, ⟨[], [(11, true)], .cy (.e 1)⟩, ⟨[], [(11, true)], .ix (.e 0) [] (.e 13)⟩, ⟨[], [(11, true)], .nop⟩, ⟨[], [(11, true)], .nop⟩, ⟨[], [(11, true)], .cy (.e 7)⟩, ⟨[], [(11, true)], .ix (.e 0) [] (.e 15)⟩, ⟨[], [(11, true)], .nop⟩, ⟨[], [(11, true)], .cd (.e 12) 364 [(.e 14), (.e 16)] 1⟩, ⟨[], [(11, true)], .bi .lss (.e 17) (.c (.n 0))⟩, ⟨[], [], .pk (.e 11) (.e 18) (.c (.b false))⟩] [some 0, some 1, none, none, some 4, none, some 6, some 7, none, some 19, none])
      (.cond 9 (.skip) (.exit 4))))
      (.block 5 (.reg [⟨[], [], .nop⟩, ⟨[], [], .bi .sub (.e 7) (.c (.n 1))⟩, ⟨[], [], .nop⟩] [some 0, some 1, none, none, some 4, none, some 6, some 11, none, none, none]))))))
    ((.seq ((.seq (.reg [⟨[], [], .nop⟩, ⟨[], [], .nop⟩, ⟨[], [], .bi .gtr (.e 6) (.e 7)⟩] [some 0, some 1, none, none, some 4, none, some 6, some 7, none, none, some 11])
    (.cond 10 (.exit 0) (.skip))))
    ((.seq (.reg [⟨[], [], .nop⟩, ⟨[], [], .nop⟩, ⟨[], [], .nop⟩, ⟨[], [], .nop⟩, ⟨[], [], .nop⟩, ⟨[], [], .nop⟩, ⟨[], [], .ix (.e 0) [] (.e 7)⟩, ⟨[], [], .nop⟩, ⟨[], [], .nop⟩, ⟨[], [], .nop⟩, ⟨[], [], .ix (.e 0) [] (.e 6)⟩, ⟨[], [], .nop⟩, ⟨[], [], .ix (.e 0) [] (.e 6)⟩, ⟨[], [], .up 0 [.e 6] (.e 11)⟩, ⟨[], [], .ix (.e 14) [] (.e 7)⟩, ⟨[], [], .up 14 [.e 7] (.e 12)⟩] [some 16, some 1, none, none, some 4, none, some 6, some 7, none, none, none])
    ((.seq (.reg [⟨[], [], .nop⟩, ⟨[], [], .bi .add (.e 6) (.c (.n 1))⟩, ⟨[], [], .nop⟩] [some 0, some 1, none, none, some 4, none, some 11, some 7, none, none, none])
    (.reg [⟨[], [], .nop⟩, ⟨[], [], .bi .sub (.e 7) (.c (.n 1))⟩, ⟨[], [], .nop⟩] [some 0, some 1, none, none, some 4, none, some 6, some 11, none, none, none]))))))))))))))
 ((.seq (.reg [⟨[], [], .nop⟩, ⟨[], [], .nop⟩] [some 0, none, none, none, none, some 6, none, none, none, none, none])
 (.ret))))))))))⟩

/-- slices.pdqsortCmpFunc[[]int] -/
def ir_slices_pdqsortCmpFunc___int_ : IF := ⟨[], 5, 24, [0],
 (.seq (.reg [⟨[], [], .cs .v (.b true)⟩] [some 0, some 1, some 2, some 3, some 4, some 24, none, none, none, none, none, none, none, none, none, none, none, none, none, none, none, none, none, none])
 ((.seq (.reg [⟨[], [], .cs .v (.b true)⟩] [some 0, some 1, some 2, some 3, some 4, some 5, some 24, none, none, none, none, none, none, none, none, none, none, none, none, none, none, none, none, none])
 (.block 0 (.loop (.block 1 ((.seq (.reg [⟨[], [], .nop⟩, ⟨[], [], .nop⟩, ⟨[], [], .bi .sub (.e 2) (.e 1)⟩, ⟨[], [], .nop⟩] [some 0, some 1, some 2, some 3, some 4, some 5, some 6, some 24, none, none, none, none, none, none, none, none, none, none, none, none, none, none, none, none])
    ((.seq ((.seq (.reg [⟨[], [], .nop⟩, ⟨[], [], .bi .leq (.e 7) (.c (.n 12))⟩] [some 0, some 1, some 2, some 3, some 4, some 5, some 6, some 7, none, none, none, none, none, none, none, none, some 24, none, none, none, none, none, none, none])
    (.cond 16 ((.seq (.reg [⟨[], [], .nop⟩, ⟨[], [], .nop⟩, ⟨[], [], .nop⟩, ⟨[], [], .nop⟩, ⟨[], [], .ca 382 [(.e 0), (.e 1), (.e 2), (.e 4)] 1⟩] [some 24, none, none, none, none, none, none, none, none, none, none, none, none, none, none, none, none, none, none, none, none, none, none, none])
     (.ret))) (.skip))))
    ((.seq ((.seq (.reg [⟨[], [], .nop⟩, ⟨[], [], .bi .eql (.e 3) (.c (.n 0))⟩] [some 0, some 1, some 2, some 3, some 4, some 5, some 6, some 7, none, none, none, none, none, none, none, none, none, some 24, none, none, none, none, none, none])
    (.cond 17 ((.seq (.reg [⟨[], [], .nop⟩, ⟨[], [], .nop⟩, ⟨[], [], .nop⟩, ⟨[], [], .nop⟩, ⟨[], [], .ca 383 [(.e 0), (.e 1), (.e 2), (.e 4)] 1⟩] [some 24, none, none, none, none, none, none, none, none, none, none, none, none, none, none, none, none, none, none, none, none, none, none, none])
     (.ret))) (.skip))))
    ((.seq ((.seq (.reg [⟨[], [], .nop⟩, ⟨[], [], .un .not (.e 5)⟩] [some 0, some 1, some 2, some 3, some 4, some 5, some 6, some 7, none, none, none, none, none, none, none, none, none, none, some 24, none, none, none, none, none])
    (.cond 18 ((.seq (.reg [⟨[], [], .nop⟩, ⟨[], [], .nop⟩, ⟨[], [], .nop⟩, ⟨[], [], .nop⟩, ⟨[], [], .ca 384 [(.e 0), (.e 1), (.e 2), (.e 4)] 1⟩] [some 24, some 1, some 2, some 3, some 4, some 5, some 6, some 7, none, none, none, none, none, none, none, none, none, none, none, none, none, none, none, none])
     (.reg [⟨[], [], .nop⟩, ⟨[], [], .bi .sub (.e 3) (.c (.n 1))⟩, ⟨[], [], .nop⟩] [some 0, some 1, some 2, some 24, some 4, some 5, some 6, some 7, none, none, none, none, none, none, none, none, none, none, none, none, none, none, none, none]))) (.skip))))
    ((.seq (.reg [⟨[], [], .nop⟩, ⟨[], [], .nop⟩, ⟨[], [], .nop⟩, ⟨[], [], .nop⟩, ⟨[], [], .ca 385 [(.e 0), (.e 1), (.e 2), (.e 4)] 2⟩, ⟨[], [], .nop⟩, ⟨[], [], .nop⟩, ⟨[], [], .nop⟩, ⟨[], [], .nop⟩, ⟨[], [], .nop⟩] [some 0, some 1, some 2, some 3, some 4, some 5, some 6, some 7, some 24, some 25, none, none, none, none, none, none, none, none, none, none, none, none, none, none])
    ((.seq ((.seq (.reg [⟨[], [], .nop⟩, ⟨[], [], .bi .eql (.e 9) (.c (.n 2))⟩] [some 0, some 1, some 2, some 3, some 4, some 5, some 6, some 7, some 8, some 9, none, none, none, none, none, none, none, none, none, some 24, none, none, none, none])
    (.cond 19 ((.seq (.reg [⟨[], [], .nop⟩, ⟨[], [], .nop⟩, ⟨[], [], .nop⟩, ⟨[], [], .nop⟩, ⟨[], [], .ca 386 [(.e 0), (.e 1), (.e 2), (.e 4)] 1⟩] [some 24, some 1, some 2, some 3, some 4, some 5, some 6, some 7, some 8, none, none, none, none, none, none, none, none, none, none, none, none, none, none, none])
     ((.seq (.reg [⟨[], [], .nop⟩, ⟨[], [], .bi .sub (.e 2) (.c (.n 1))⟩, ⟨[], [], .nop⟩, ⟨[], [], .nop⟩, ⟨[], [], .bi .sub (.e 8) (.e 1)⟩, ⟨[], [], .bi .sub (.e 24) (.e 25)⟩, ⟨[], [], .nop⟩] [some 0, some 1, some 2, some 3, some 4, some 5, some 6, some 7, some 26, none, none, none, none, none, none, none, none, none, none, none, none, none, none, none])
     (.reg [⟨[], [], .cs .v (.n 1)⟩] [some 0, some 1, some 2, some 3, some 4, some 5, some 6, some 7, some 8, some 24, none, none, none, none, none, none, none, none, none, none, none, none, none, none]))))) (.skip))))
    ((.seq ((.seq (.reg [⟨[], [], .nop⟩, ⟨[], [], .nop⟩, ⟨[], [(5, true)], .cy (.e 6)⟩, ⟨[], [], .pk (.e 5) (.e 24) (.c (.b false))⟩, ⟨[], [], .nop⟩, ⟨[], [(25, true)], .cy (.e 9)⟩, ⟨[], [(25, true)], .bi .eql (.e 26) (.c (.n 1))⟩, ⟨[], [], .pk (.e 25) (.e 27) (.c (.b false))⟩] [some 0, some 1, some 2, some 3, some 4, some 5, some 6, some 7, some 8, none, none, none, none, none, none, none, none, none, none, none, some 28, none, none, none])
    (.cond 20 ((.seq (.reg [⟨[], [], .nop⟩, ⟨[], [], .nop⟩, ⟨[], [], .nop⟩, ⟨[], [], .nop⟩, ⟨[], [], .ca 387 [(.e 0), (.e 1), (.e 2), (.e 4)] 2⟩] [some 25, some 1, some 2, some 3, some 4, some 5, some 6, some 7, some 8, none, none, none, none, none, none, none, none, none, none, none, none, some 24, none, none])
     (.cond 21 (.ret) (.skip)))) (.skip))))
    ((.seq ((.seq (.reg [⟨[], [], .nop⟩, ⟨[], [], .bi .gtr (.e 1) (.c (.n 0))⟩, ⟨[], [], .nop⟩, ⟨[], [(24, true)], .cy (.e 4)⟩, ⟨[], [(24, true)], .nop⟩, ⟨[], [(24, true)], .cy (.e 1)⟩, ⟨[], [(24, true)], .bi .sub (.e 26) (.c (.n 1))⟩, ⟨[], [(24, true)], .ix (.e 0) [] (.e 27)⟩, ⟨[], [(24, true)], .nop⟩, ⟨[], [(24, true)], .nop⟩, ⟨[], [(24, true)], .cy (.e 8)⟩, ⟨[], [(24, true)], .ix (.e 0) [] (.e 29)⟩, ⟨[], [(24, true)], .nop⟩, ⟨[], [(24, true)], .cd (.e 25) 364 [(.e 28), (.e 30)] 1⟩, ⟨[], [(24, true)], .bi .lss (.e 31) (.c (.n 0))⟩, ⟨[], [(24, true)], .un .not (.e 32)⟩, ⟨[], [], .pk (.e 24) (.e 33) (.c (.b false))⟩] [some 0, some 1, some 2, some 3, some 4, some 5, some 6, some 7, some 8, none, none, none, none, none, none, none, none, none, none, none, none, none, some 34, none])
    (.cond 22 ((.seq (.reg [⟨[], [], .nop⟩, ⟨[], [], .nop⟩, ⟨[], [], .nop⟩, ⟨[], [], .nop⟩, ⟨[], [], .nop⟩, ⟨[], [], .ca 388 [(.e 0), (.e 1), (.e 2), (.e 8), (.e 4)] 2⟩, ⟨[], [], .nop⟩] [some 25, none, some 2, some 3, some 4, some 5, some 6, none, none, none, some 24, none, none, none, none, none, none, none, none, none, none, none, none, none])
     ((.seq (.reg [⟨[], [], .nop⟩, ⟨[], [], .nop⟩] [some 0, some 10, some 2, some 3, some 4, some 5, some 6, none, none, none, none, none, none, none, none, none, none, none, none, none, none, none, none, none])
     (.exit 1))))) (.skip))))
    ((.seq (.reg [⟨[], [], .nop⟩, ⟨[], [], .nop⟩, ⟨[], [], .nop⟩, ⟨[], [], .nop⟩, ⟨[], [], .nop⟩, ⟨[], [], .ca 389 [(.e 0), (.e 1), (.e 2), (.e 8), (.e 4)] 3⟩, ⟨[], [], .nop⟩, ⟨[], [], .nop⟩, ⟨[], [], .nop⟩, ⟨[], [], .nop⟩, ⟨[], [], .nop⟩] [some 26, some 1, some 2, some 3, some 4, none, none, some 7, none, none, none, some 24, some 25, none, none, none, none, none, none, none, none, none, none, none])
    ((.seq (.reg [⟨[], [], .nop⟩, ⟨[], [], .nop⟩] [some 0, some 1, some 2, some 3, some 4, none, some 12, some 7, none, none, none, some 11, none, none, none, none, none, none, none, none, none, none, none, none])
    ((.seq (.reg [⟨[], [], .nop⟩, ⟨[], [], .nop⟩, ⟨[], [], .bi .sub (.e 11) (.e 1)⟩, ⟨[], [], .nop⟩, ⟨[], [], .nop⟩, ⟨[], [], .bi .sub (.e 2) (.e 11)⟩, ⟨[], [], .nop⟩, ⟨[], [], .nop⟩] [some 0, some 1, some 2, some 3, some 4, none, some 6, some 7, none, none, none, some 11, none, some 24, some 25, none, none, none, none, none, none, none, none, none])
    ((.seq (.reg [⟨[], [], .nop⟩, ⟨[], [], .bi .quo (.e 7) (.c (.n 8))⟩, ⟨[], [], .nop⟩] [some 0, some 1, some 2, some 3, some 4, none, some 6, none, none, none, none, some 11, none, some 13, some 14, some 24, none, none, none, none, none, none, none, none])
    ((.seq (.reg [⟨[], [], .nop⟩, ⟨[], [], .nop⟩, ⟨[], [], .bi .lss (.e 13) (.e 14)⟩] [some 0, some 1, some 2, some 3, some 4, none, some 6, none, none, none, none, some 11, none, some 13, some 14, some 15, none, none, none, none, none, none, none, some 24])
    (.cond 23 ((.seq (.reg [⟨[], [], .nop⟩, ⟨[], [], .nop⟩, ⟨[], [], .bi .geq (.e 13) (.e 15)⟩, ⟨[], [], .nop⟩] [some 0, some 1, some 2, some 3, some 4, some 24, some 6, none, none, none, none, some 11, none, none, none, none, none, none, none, none, none, none, none, none])
     ((.seq (.reg [⟨[], [], .nop⟩, ⟨[], [], .nop⟩, ⟨[], [], .nop⟩, ⟨[], [], .nop⟩, ⟨[], [], .nop⟩, ⟨[], [], .ca 375 [(.e 0), (.e 1), (.e 11), (.e 3), (.e 4)] 1⟩] [some 24, none, some 2, some 3, some 4, some 5, some 6, none, none, none, none, some 11, none, none, none, none, none, none, none, none, none, none, none, none])
     (.reg [⟨[], [], .nop⟩, ⟨[], [], .bi .add (.e 11) (.c (.n 1))⟩, ⟨[], [], .nop⟩] [some 0, some 24, some 2, some 3, some 4, some 5, some 6, none, none, none, none, none, none, none, none, none, none, none, none, none, none, none, none, none]))))) ((.seq (.reg [⟨[], [], .nop⟩, ⟨[], [], .nop⟩, ⟨[], [], .bi .geq (.e 14) (.e 15)⟩, ⟨[], [], .nop⟩] [some 0, some 1, some 2, some 3, some 4, some 24, some 6, none, none, none, none, some 11, none, none, none, none, none, none, none, none, none, none, none, none])
     ((.seq (.reg [⟨[], [], .nop⟩, ⟨[], [], .nop⟩, ⟨[], [], .bi .add (.e 11) (.c (.n 1))⟩, ⟨[], [], .nop⟩, ⟨[], [], .nop⟩, ⟨[], [], .nop⟩, ⟨[], [], .ca 375 [(.e 0), (.e 24), (.e 2), (.e 3), (.e 4)] 1⟩] [some 25, some 1, none, some 3, some 4, some 5, some 6, none, none, none, none, some 11, none, none, none, none, none, none, none, none, none, none, none, none])
     (.reg [⟨[], [], .nop⟩, ⟨[], [], .nop⟩] [some 0, some 1, some 11, some 3, some 4, some 5, some 6, none, none, none, none, none, none, none, none, none, none, none, none, none, none, none, none, none]))))))))))))))))))))))))))))))))))))))⟩

/-- slices.reverseRangeCmpFunc[[]int] -/
def ir_slices_reverseRangeCmpFunc___int_ : IF := ⟨[], 4, 7, [0],
 (.seq (.reg [⟨[], [], .nop⟩, ⟨[], [], .nop⟩] [some 0, none, some 2, none, some 1, none, none])
 ((.seq (.reg [⟨[], [], .nop⟩, ⟨[], [], .bi .sub (.e 2) (.c (.n 1))⟩, ⟨[], [], .nop⟩] [some 0, none, none, none, some 4, some 7, none])
 (.block 0 (.loop ((.seq ((.seq (.reg [⟨[], [], .nop⟩, ⟨[], [], .nop⟩, ⟨[], [], .bi .lss (.e 4) (.e 5)⟩] [some 0, none, none, none, some 4, some 5, some 7])
   (.cond 6 (.skip) (.exit 0))))
   (.block 1 ((.seq (.reg [⟨[], [], .nop⟩, ⟨[], [], .nop⟩, ⟨[], [], .nop⟩, ⟨[], [], .nop⟩, ⟨[], [], .nop⟩, ⟨[], [], .nop⟩, ⟨[], [], .ix (.e 0) [] (.e 5)⟩, ⟨[], [], .nop⟩, ⟨[], [], .nop⟩, ⟨[], [], .nop⟩, ⟨[], [], .ix (.e 0) [] (.e 4)⟩, ⟨[], [], .nop⟩, ⟨[], [], .ix (.e 0) [] (.e 4)⟩, ⟨[], [], .up 0 [.e 4] (.e 7)⟩, ⟨[], [], .ix (.e 10) [] (.e 5)⟩, ⟨[], [], .up 10 [.e 5] (.e 8)⟩] [some 12, none, none, none, some 4, some 5, none])
    ((.seq (.reg [⟨[], [], .nop⟩, ⟨[], [], .bi .add (.e 4) (.c (.n 1))⟩, ⟨[], [], .nop⟩] [some 0, none, none, none, some 7, some 5, none])
    (.reg [⟨[], [], .nop⟩, ⟨[], [], .bi .sub (.e 5) (.c (.n 1))⟩, ⟨[], [], .nop⟩] [some 0, none, none, none, some 4, some 7, none])))))))))))))⟩

/-- slices.siftDownCmpFunc[[]int] -/
def ir_slices_siftDownCmpFunc___int_ : IF := ⟨[], 5, 10, [0],
 (.seq (.reg [⟨[], [], .nop⟩, ⟨[], [], .nop⟩] [some 0, none, some 2, some 3, some 4, some 1, none, none, none, none])
 (.block 0 (.loop (.block 1 ((.seq (.reg [⟨[], [], .nop⟩, ⟨[], [], .bi .mul (.c (.n 2)) (.e 5)⟩, ⟨[], [], .bi .add (.e 10) (.c (.n 1))⟩, ⟨[], [], .nop⟩] [some 0, none, some 2, some 3, some 4, some 5, some 11, none, none, none])
    ((.seq ((.seq (.reg [⟨[], [], .nop⟩, ⟨[], [], .nop⟩, ⟨[], [], .bi .geq (.e 6) (.e 2)⟩] [some 0, none, some 2, some 3, some 4, some 5, some 6, some 10, none, none])
    (.cond 7 (.exit 0) (.skip))))
    ((.seq ((.seq (.reg [⟨[], [], .nop⟩, ⟨[], [], .bi .add (.e 6) (.c (.n 1))⟩, ⟨[], [], .nop⟩, ⟨[], [], .bi .lss (.e 10) (.e 2)⟩, ⟨[], [], .nop⟩, ⟨[], [(11, true)], .cy (.e 4)⟩, ⟨[], [(11, true)], .nop⟩, ⟨[], [(11, true)], .cy (.e 3)⟩, ⟨[], [(11, true)], .cy (.e 6)⟩, ⟨[], [(11, true)], .bi .add (.e 13) (.e 14)⟩, ⟨[], [(11, true)], .ix (.e 0) [] (.e 15)⟩, ⟨[], [(11, true)], .nop⟩, ⟨[], [(11, true)], .nop⟩, ⟨[], [(11, true)], .cy (.e 3)⟩, ⟨[], [(11, true)], .cy (.e 6)⟩, ⟨[], [(11, true)], .bi .add (.e 17) (.e 18)⟩, ⟨[], [(11, true)], .bi .add (.e 19) (.c (.n 1))⟩, ⟨[], [(11, true)], .ix (.e 0) [] (.e 20)⟩, ⟨[], [(11, true)], .nop⟩, ⟨[], [(11, true)], .cd (.e 12) 364 [(.e 16), (.e 21)] 1⟩, ⟨[], [(11, true)], .bi .lss (.e 22) (.c (.n 0))⟩, ⟨[], [], .pk (.e 11) (.e 23) (.c (.b false))⟩] [some 0, none, some 2, some 3, some 4, some 5, some 6, none, some 24, none])
    (.cond 8 (.reg [⟨[], [], .nop⟩, ⟨[], [], .bi .add (.e 6) (.c (.n 1))⟩, ⟨[], [], .nop⟩] [some 0, none, some 2, some 3, some 4, some 5, some 10, none, none, none]) (.skip))))
    ((.seq ((.seq (.reg [⟨[], [], .nop⟩, ⟨[], [], .nop⟩, ⟨[], [], .nop⟩, ⟨[], [], .nop⟩, ⟨[], [], .bi .add (.e 3) (.e 5)⟩, ⟨[], [], .ix (.e 0) [] (.e 10)⟩, ⟨[], [], .nop⟩, ⟨[], [], .nop⟩, ⟨[], [], .nop⟩, ⟨[], [], .nop⟩, ⟨[], [], .bi .add (.e 3) (.e 6)⟩, ⟨[], [], .ix (.e 0) [] (.e 12)⟩, ⟨[], [], .nop⟩, ⟨[], [], .cd (.e 4) 364 [(.e 11), (.e 13)] 1⟩, ⟨[], [], .bi .lss (.e 14) (.c (.n 0))⟩, ⟨[], [], .un .not (.e 15)⟩] [some 0, none, some 2, some 3, some 4, some 5, some 6, none, none, some 16])
    (.cond 9 (.ret) (.skip))))
    ((.seq (.reg [⟨[], [], .nop⟩, ⟨[], [], .nop⟩, ⟨[], [], .nop⟩, ⟨[], [], .bi .add (.e 3) (.e 5)⟩, ⟨[], [], .nop⟩, ⟨[], [], .nop⟩, ⟨[], [], .nop⟩, ⟨[], [], .bi .add (.e 3) (.e 6)⟩, ⟨[], [], .nop⟩, ⟨[], [], .nop⟩, ⟨[], [], .nop⟩, ⟨[], [], .bi .add (.e 3) (.e 6)⟩, ⟨[], [], .ix (.e 0) [] (.e 12)⟩, ⟨[], [], .nop⟩, ⟨[], [], .nop⟩, ⟨[], [], .nop⟩, ⟨[], [], .nop⟩, ⟨[], [], .bi .add (.e 3) (.e 5)⟩, ⟨[], [], .ix (.e 0) [] (.e 14)⟩, ⟨[], [], .nop⟩, ⟨[], [], .ix (.e 0) [] (.e 10)⟩, ⟨[], [], .up 0 [.e 10] (.e 13)⟩, ⟨[], [], .ix (.e 17) [] (.e 11)⟩, ⟨[], [], .up 17 [.e 11] (.e 15)⟩] [some 19, none, some 2, some 3, some 4, none, some 6, none, none, none])
    (.reg [⟨[], [], .nop⟩, ⟨[], [], .nop⟩] [some 0, none, some 2, some 3, some 4, some 6, none, none, none, none])))))))))))))))⟩

end Go.Cat

namespace Go.Cat
/-- loop.example/g03401/laws.eqStringS -/
def ir_laws_eqStringS : IF := ⟨[], 2, 7, [2],
 (.seq (.reg [⟨[], [], .cs .v (.b false)⟩] [some 0, some 1, none, none, none, none, none])
 ((.seq ((.seq (.reg [⟨[], [], .nop⟩, ⟨[], [], .ln (.e 0) []⟩, ⟨[], [], .nop⟩, ⟨[], [], .ln (.e 1) []⟩, ⟨[], [], .bi .neq (.e 7) (.e 8)⟩] [some 0, some 1, none, none, some 9, none, none])
 (.cond 4 ((.seq (.reg [⟨[], [], .cs .v (.b false)⟩] [none, none, some 7, none, none, none, none])
  (.ret))) (.skip))))
 ((.seq ((.seq (.reg [⟨[], [], .cs .v (.n 0)⟩] [some 0, some 1, none, some 7, none, none, none])
 (.block 0 (.loop ((.seq ((.seq (.reg [⟨[], [], .nop⟩, ⟨[], [], .nop⟩, ⟨[], [], .ln (.e 0) []⟩, ⟨[], [], .bi .lss (.e 3) (.e 7)⟩] [some 0, some 1, none, some 3, none, some 8, none])
   (.cond 5 (.skip) (.exit 0))))
   ((.seq (.block 1 ((.seq (.reg [⟨[], [], .nop⟩, ⟨[], [], .nop⟩, ⟨[], [], .iy (.e 0) (.e 3)⟩, ⟨[], [], .nop⟩, ⟨[], [], .nop⟩, ⟨[], [], .nop⟩, ⟨[], [], .iy (.e 1) (.e 3)⟩, ⟨[], [], .nop⟩, ⟨[], [], .bi .neq (.e 7) (.e 8)⟩] [some 0, some 1, none, some 3, none, none, some 9])
    (.cond 6 ((.seq (.reg [⟨[], [], .cs .v (.b false)⟩] [none, none, some 7, none, none, none, none])
     (.ret))) (.skip)))))
   (.reg [⟨[], [], .nop⟩, ⟨[], [], .bi .add (.e 3) (.c (.n 1))⟩, ⟨[], [], .nop⟩] [some 0, some 1, none, some 7, none, none, none])))))))))
 ((.seq (.reg [⟨[], [], .cs .v (.b true)⟩] [none, none, some 7, none, none, none, none])
 (.ret))))))))⟩

/-- loop.example/g03401/laws.heldStringS -/
def ir_laws_heldStringS : IF := ⟨[], 2, 6, [2],
 (.seq (.reg [⟨[], [], .cs .v (.n 0)⟩] [some 0, some 1, none, none, none, none])
 ((.seq ((.seq (.reg [⟨[], [], .cs .v (.n 0)⟩] [some 0, some 1, none, some 6, none, none])
 (.block 0 (.loop ((.seq ((.seq (.reg [⟨[], [], .nop⟩, ⟨[], [], .nop⟩, ⟨[], [], .ln (.e 0) []⟩, ⟨[], [], .bi .lss (.e 3) (.e 6)⟩] [some 0, some 1, none, some 3, some 7, none])
   (.cond 4 (.skip) (.exit 0))))
   ((.seq (.block 1 ((.seq ((.seq (.reg [⟨[], [], .nop⟩, ⟨[], [], .nop⟩, ⟨[], [], .iy (.e 0) (.e 3)⟩, ⟨[], [], .nop⟩, ⟨[], [], .nop⟩, ⟨[], [], .ca 26 [(.e 1)] 1⟩, ⟨[], [], .bi .neq (.e 6) (.e 7)⟩] [some 0, some 1, none, some 3, none, some 8])
    (.cond 5 ((.seq (.reg [⟨[], [], .cs .v (.n (-1))⟩] [none, none, some 6, none, none, none])
     (.ret))) (.skip))))
    (.reg [⟨[], [], .nop⟩, ⟨[], [], .bi .add (.e 1) (.c (.n 1))⟩, ⟨[], [], .nop⟩] [some 0, some 6, none, some 3, none, none]))))
   (.reg [⟨[], [], .nop⟩, ⟨[], [], .bi .add (.e 3) (.c (.n 1))⟩, ⟨[], [], .nop⟩] [some 0, some 1, none, some 6, none, none])))))))))
 ((.seq (.reg [⟨[], [], .nop⟩, ⟨[], [], .nop⟩] [none, none, some 1, none, none, none])
 (.ret))))))⟩

/-- loop.example/g03401/laws.markStringS -/
def ir_laws_markStringS : IF := ⟨[], 2, 5, [2, 0],
 (.seq (.reg [⟨[], [], .cs .v (.n 0)⟩] [some 0, some 1, none, none, none])
 ((.seq ((.seq (.reg [⟨[], [], .cs .v (.n 0)⟩] [some 0, some 1, none, some 5, none])
 (.block 0 (.loop ((.seq ((.seq (.reg [⟨[], [], .nop⟩, ⟨[], [], .nop⟩, ⟨[], [], .ln (.e 0) []⟩, ⟨[], [], .bi .lss (.e 3) (.e 5)⟩] [some 0, some 1, none, some 3, some 6])
   (.cond 4 (.skip) (.exit 0))))
   ((.seq (.block 1 ((.seq (.reg [⟨[], [], .nop⟩, ⟨[], [], .nop⟩, ⟨[], [], .nop⟩, ⟨[], [], .ca 26 [(.e 1)] 1⟩, ⟨[], [], .ix (.e 0) [] (.e 3)⟩, ⟨[], [], .up 0 [.e 3] (.e 5)⟩] [some 7, some 1, none, some 3, none])
    (.reg [⟨[], [], .nop⟩, ⟨[], [], .bi .add (.e 1) (.c (.n 1))⟩, ⟨[], [], .nop⟩] [some 0, some 5, none, some 3, none]))))
   (.reg [⟨[], [], .nop⟩, ⟨[], [], .bi .add (.e 3) (.c (.n 1))⟩, ⟨[], [], .nop⟩] [some 0, some 1, none, some 5, none])))))))))
 ((.seq (.reg [⟨[], [], .nop⟩, ⟨[], [], .nop⟩] [some 0, none, some 1, none, none])
 (.ret))))))⟩

/-- loop.example/g03401/laws.markText -/
def ir_laws_markText : IF := ⟨[], 1, 5, [1],
 (.seq (.reg [⟨[], [], .cs .v (.s [])⟩] [some 0, none, none, none, none])
 ((.seq ((.seq (.reg [⟨[], [], .nop⟩, ⟨[], [], .bi .leq (.e 0) (.c (.n 0))⟩] [some 0, none, none, some 5, none])
 (.cond 3 ((.seq (.reg [⟨[], [], .cs .v (.s [109, 48])⟩] [none, some 5, none, none, none])
  (.ret))) (.skip))))
 ((.seq (.reg [⟨[], [], .cs .v (.s [])⟩] [some 0, none, some 5, none, none])
 ((.seq (.block 0 (.loop ((.seq ((.seq (.reg [⟨[], [], .nop⟩, ⟨[], [], .bi .gtr (.e 0) (.c (.n 0))⟩] [some 0, none, some 2, none, some 5])
   (.cond 4 (.skip) (.exit 0))))
   (.block 1 ((.seq (.reg [⟨[], [], .nop⟩, ⟨[], [], .bi .rem (.e 0) (.c (.n 10))⟩, ⟨[], [], .bi .add (.c (.n 48)) (.e 5)⟩, ⟨[], [], .cv .u8 (.e 6)⟩, ⟨[], [], .li (.o .v) [(.e 7)]⟩, ⟨[], [], .bs (.e 8)⟩, ⟨[], [], .nop⟩, ⟨[], [], .bi .add (.e 9) (.e 2)⟩, ⟨[], [], .nop⟩] [some 0, none, some 10, none, none])
    (.reg [⟨[], [], .nop⟩, ⟨[], [], .bi .quo (.e 0) (.c (.n 10))⟩, ⟨[], [], .nop⟩] [some 5, none, some 2, none, none]))))))))
 ((.seq (.reg [⟨[], [], .nop⟩, ⟨[], [], .bi .add (.c (.s [109])) (.e 2)⟩, ⟨[], [], .nop⟩] [none, some 5, none, none, none])
 (.ret))))))))))⟩

end Go.Cat

namespace Go.Cat
/-- loop.example/g03401/impl.FormatInt -/
def ir_impl_FormatInt : IF := ⟨[], 1, 12, [1],
 (.seq (.reg [⟨[], [], .cs .v (.s [])⟩] [some 0, none, none, none, none, none, none, none, none, none, none, none])
 ((.seq ((.seq (.reg [⟨[], [], .nop⟩, ⟨[], [], .bi .eql (.e 0) (.c (.n 0))⟩] [some 0, none, none, none, none, none, none, some 12, none, none, none, none])
 (.cond 7 ((.seq (.reg [⟨[], [], .cs .v (.s [48])⟩] [none, some 12, none, none, none, none, none, none, none, none, none, none])
  (.ret))) (.skip))))
 ((.seq (.reg [⟨[], [], .li (.o .v) []⟩, ⟨[], [], .nop⟩] [some 0, none, some 12, none, none, none, none, none, none, none, none, none])
 ((.seq ((.seq (.reg [⟨[], [], .nop⟩, ⟨[], [], .nop⟩] [some 0, none, some 2, some 0, none, none, none, none, none, none, none, none])
 (.block 0 (.loop ((.seq ((.seq (.reg [⟨[], [], .nop⟩, ⟨[], [], .bi .neq (.e 3) (.c (.n 0))⟩] [some 0, none, some 2, some 3, none, none, none, none, some 12, none, none, none])
   (.cond 8 (.skip) (.exit 0))))
   ((.seq (.block 1 ((.seq (.reg [⟨[], [], .nop⟩, ⟨[], [], .bi .rem (.e 3) (.c (.n 10))⟩, ⟨[], [], .nop⟩] [some 0, none, some 2, some 3, some 12, none, none, none, none, none, none, none])
    ((.seq ((.seq (.reg [⟨[], [], .nop⟩, ⟨[], [], .bi .lss (.e 4) (.c (.n 0))⟩] [some 0, none, some 2, some 3, some 4, none, none, none, none, some 12, none, none])
    (.cond 9 (.reg [⟨[], [], .nop⟩, ⟨[], [], .un .neg (.e 4)⟩, ⟨[], [], .nop⟩] [some 0, none, some 2, some 3, some 12, none, none, none, none, none, none, none]) (.skip))))
    (.reg [⟨[], [], .nop⟩, ⟨[], [], .nop⟩, ⟨[], [], .bi .add (.c (.n 48)) (.e 4)⟩, ⟨[], [], .cv .u8 (.e 12)⟩, ⟨[], [], .li (.o .v) [(.e 13)]⟩, ⟨[], [], .ap false (.e 2) (.e 14)⟩, ⟨[], [], .nop⟩] [some 0, none, some 15, some 3, none, none, none, none, none, none, none, none]))))))
   (.reg [⟨[], [], .nop⟩, ⟨[], [], .bi .quo (.e 3) (.c (.n 10))⟩, ⟨[], [], .nop⟩] [some 0, none, some 2, some 12, none, none, none, none, none, none, none, none])))))))))
 ((.seq ((.seq (.reg [⟨[], [], .nop⟩, ⟨[], [], .bi .lss (.e 0) (.c (.n 0))⟩] [none, none, some 2, none, none, none, none, none, none, none, some 12, none])
 (.cond 10 (.reg [⟨[], [], .nop⟩, ⟨[], [], .li (.o .v) [(.c (.y 45))]⟩, ⟨[], [], .ap false (.e 2) (.e 12)⟩, ⟨[], [], .nop⟩] [none, none, some 13, none, none, none, none, none, none, none, none, none]) (.skip))))
 ((.seq ((.seq (.reg [⟨[], [], .nop⟩, ⟨[], [], .ln (.e 2) []⟩, ⟨[], [], .bi .sub (.e 12) (.c (.n 1))⟩, ⟨[], [], .cs .v (.n 0)⟩, ⟨[], [], .nop⟩] [none, none, some 2, none, none, some 14, some 13, none, none, none, none, none])
 (.block 2 (.loop ((.seq ((.seq (.reg [⟨[], [], .nop⟩, ⟨[], [], .nop⟩, ⟨[], [], .bi .lss (.e 5) (.e 6)⟩] [none, none, some 2, none, none, some 5, some 6, none, none, none, none, some 12])
   (.cond 11 (.skip) (.exit 2))))
   ((.seq (.block 3 (.reg [⟨[], [], .nop⟩, ⟨[], [], .nop⟩, ⟨[], [], .nop⟩, ⟨[], [], .nop⟩, ⟨[], [], .nop⟩, ⟨[], [], .nop⟩, ⟨[], [], .ix (.e 2) [] (.e 6)⟩, ⟨[], [], .nop⟩, ⟨[], [], .nop⟩, ⟨[], [], .nop⟩, ⟨[], [], .ix (.e 2) [] (.e 5)⟩, ⟨[], [], .nop⟩, ⟨[], [], .ix (.e 2) [] (.e 5)⟩, ⟨[], [], .up 2 [.e 5] (.e 12)⟩, ⟨[], [], .ix (.e 15) [] (.e 6)⟩, ⟨[], [], .up 15 [.e 6] (.e 13)⟩] [none, none, some 17, none, none, some 5, some 6, none, none, none, none, none]))
   (.reg [⟨[], [], .nop⟩, ⟨[], [], .bi .add (.e 5) (.c (.n 1))⟩, ⟨[], [], .nop⟩, ⟨[], [], .bi .sub (.e 6) (.c (.n 1))⟩, ⟨[], [], .nop⟩, ⟨[], [], .nop⟩] [none, none, some 2, none, none, some 12, some 13, none, none, none, none, none])))))))))
 ((.seq (.reg [⟨[], [], .nop⟩, ⟨[], [], .bs (.e 2)⟩, ⟨[], [], .nop⟩] [none, some 12, none, none, none, none, none, none, none, none, none, none])
 (.ret))))))))))))))⟩

/-- loop.example/g03401/impl.within -/
def ir_impl_within : IF := ⟨[], 3, 4, [3],
 (.seq (.reg [⟨[], [], .cs .v (.b false)⟩] [some 0, some 1, some 2, none])
 ((.seq (.reg [⟨[], [], .nop⟩, ⟨[], [], .nop⟩, ⟨[], [], .bi .geq (.e 0) (.e 1)⟩, ⟨[], [], .nop⟩, ⟨[], [(4, true)], .cy (.e 0)⟩, ⟨[], [(4, true)], .cy (.e 2)⟩, ⟨[], [(4, true)], .bi .leq (.e 5) (.e 6)⟩, ⟨[], [], .pk (.e 4) (.e 7) (.c (.b false))⟩, ⟨[], [], .nop⟩] [none, none, none, some 8])
 (.ret))))⟩

end Go.Cat

namespace Go.Cat
/-- loop.example/g03401/impl.FirstReturn -/
def ir_impl_FirstReturn : IF := ⟨[], 1, 8, [1, 2, 3],
 (.seq (.reg [⟨[], [], .cs .v (.s [])⟩, ⟨[], [], .cs .v (.s [])⟩, ⟨[], [], .cs .v (.b false)⟩] [some 0, none, none, none, none, none, none, none])
 ((.seq ((.seq (.reg [⟨[], [], .nop⟩, ⟨[], [], .ca 67 [(.e 0)] 1⟩, ⟨[], [], .un .not (.e 8)⟩, ⟨[], [], .nop⟩, ⟨[], [(9, false)], .cy (.e 0)⟩, ⟨[], [(9, false)], .bi .eql (.e 10) (.c (.s []))⟩, ⟨[], [], .pk (.e 9) (.c (.b true)) (.e 11)⟩] [some 0, none, none, none, none, none, some 12, none])
 (.cond 6 ((.seq (.reg [⟨[], [], .cs .v (.s [])⟩, ⟨[], [], .cs .v (.s [])⟩, ⟨[], [], .cs .v (.b false)⟩] [none, some 8, some 9, some 10, none, none, none, none])
  (.ret))) (.skip))))
 ((.seq (.reg [⟨[], [], .nop⟩, ⟨[], [], .ca 501 [(.e 0)] 1⟩, ⟨[], [], .nop⟩] [some 0, none, none, none, some 8, none, none, none])
 ((.seq (.reg [⟨[], [], .cs .v (.n 1)⟩] [some 0, none, none, none, some 4, some 8, none, none])
 ((.seq (.block 0 (.loop ((.seq ((.seq (.reg [⟨[], [], .nop⟩, ⟨[], [], .nop⟩, ⟨[], [], .ix (.e 4) [] (.e 5)⟩, ⟨[], [], .nop⟩, ⟨[], [], .bi .neq (.e 8) (.c (.n 0))⟩] [some 0, none, none, none, some 4, some 5, none, some 9])
   (.cond 7 (.skip) (.exit 0))))
   (.block 1 (.reg [⟨[], [], .nop⟩, ⟨[], [], .bi .add (.e 5) (.c (.n 1))⟩, ⟨[], [], .nop⟩] [some 0, none, none, none, some 4, some 8, none, none]))))))
 ((.seq (.reg [⟨[], [], .nop⟩, ⟨[], [], .nop⟩, ⟨[], [], .bi .sub (.e 5) (.c (.n 1))⟩, ⟨[], [], .ss (.e 0) (some (.c (.n 1))) (some (.e 8))⟩, ⟨[], [], .nop⟩, ⟨[], [], .nop⟩, ⟨[], [], .ss (.e 0) (some (.e 5)) none⟩, ⟨[], [], .nop⟩, ⟨[], [], .nop⟩, ⟨[], [], .cs .v (.b true)⟩] [none, some 9, some 10, some 11, none, none, none, none])
 (.ret))))))))))))⟩

/-- loop.example/g03401/impl.HeightsOf -/
def ir_impl_HeightsOf : IF := ⟨[], 1, 4, [1],
 (.seq (.reg [⟨[], [], .cs (.o .v) (.l [])⟩] [some 0, none, none, none])
 ((.seq ((.seq (.reg [⟨[], [], .nop⟩, ⟨[], [], .ca 67 [(.e 0)] 1⟩, ⟨[], [], .un .not (.e 4)⟩] [some 0, none, none, some 5])
 (.cond 3 ((.seq (.reg [⟨[], [], .li (.o .v) []⟩, ⟨[], [], .nop⟩] [none, some 4, none, none])
  (.ret))) (.skip))))
 ((.seq (.reg [⟨[], [], .nop⟩, ⟨[], [], .ca 82 [(.e 0)] 2⟩, ⟨[], [], .nop⟩, ⟨[], [], .nop⟩, ⟨[], [], .nop⟩, ⟨[], [], .nop⟩, ⟨[], [], .nop⟩] [none, none, some 4, none])
 ((.seq (.reg [⟨[], [], .nop⟩, ⟨[], [], .nop⟩] [none, some 2, none, none])
 (.ret))))))))⟩

/-- loop.example/g03401/impl.IsDyck -/
def ir_impl_IsDyck : IF := ⟨[], 1, 4, [1],
 (.seq (.reg [⟨[], [], .cs .v (.b false)⟩] [some 0, none, none, none])
 ((.seq ((.seq (.reg [⟨[], [], .nop⟩, ⟨[], [], .sn (.e 0)⟩, ⟨[], [], .bi .gtr (.e 4) (.c (.n 16))⟩] [some 0, none, none, some 5])
 (.cond 3 ((.seq (.reg [⟨[], [], .cs .v (.b false)⟩] [none, some 4, none, none])
  (.ret))) (.skip))))
 ((.seq (.reg [⟨[], [], .nop⟩, ⟨[], [], .ca 82 [(.e 0)] 2⟩, ⟨[], [], .nop⟩, ⟨[], [], .nop⟩, ⟨[], [], .nop⟩, ⟨[], [], .nop⟩, ⟨[], [], .nop⟩] [none, none, some 5, none])
 ((.seq (.reg [⟨[], [], .nop⟩, ⟨[], [], .nop⟩] [none, some 2, none, none])
 (.ret))))))))⟩

/-- loop.example/g03401/impl.glued -/
def ir_impl_glued : IF := ⟨[], 2, 11, [2],
 (.seq (.reg [⟨[], [], .cs .v (.s [])⟩] [some 0, some 1, none, none, none, none, none, none, none, none, none])
 ((.seq (.reg [⟨[], [], .cs .v (.s [])⟩] [some 0, some 1, none, some 11, none, none, none, none, none, none, none])
 ((.seq ((.seq (.reg [⟨[], [], .nop⟩, ⟨[], [], .ln (.e 0) []⟩, ⟨[], [], .cs .v (.n 0)⟩] [none, some 1, none, some 3, none, none, some 0, some 11, some 12, none, none])
 (.block 0 (.loop ((.seq (.reg [⟨[], [], .bi .lss (.e 8) (.e 7)⟩] [none, some 1, none, some 3, none, none, some 6, some 7, some 8, some 11, none])
   ((.seq (.cond 9 (.skip) (.exit 0))
   ((.seq (.block 1 ((.seq (.reg [⟨[], [], .nop⟩, ⟨[], [], .iy (.e 6) (.e 8)⟩, ⟨[], [], .nop⟩, ⟨[], [], .nop⟩, ⟨[], [], .nop⟩] [none, some 1, none, some 3, some 8, some 11, some 6, some 7, some 8, none, none])
    ((.seq ((.seq (.reg [⟨[], [], .nop⟩, ⟨[], [], .bi .gtr (.e 4) (.c (.n 0))⟩] [none, some 1, none, some 3, none, some 5, some 6, some 7, some 8, none, some 11])
    (.cond 10 (.reg [⟨[], [], .nop⟩, ⟨[], [], .nop⟩, ⟨[], [], .bi .add (.e 3) (.e 1)⟩, ⟨[], [], .nop⟩] [none, some 1, none, some 11, none, some 5, some 6, some 7, some 8, none, none]) (.skip))))
    (.reg [⟨[], [], .nop⟩, ⟨[], [], .nop⟩, ⟨[], [], .bi .add (.e 3) (.e 5)⟩, ⟨[], [], .nop⟩] [none, some 1, none, some 11, none, none, some 6, some 7, some 8, none, none]))))))
   (.reg [⟨[], [], .bi .add (.e 8) (.c (.n 1))⟩, ⟨[], [], .nop⟩] [none, some 1, none, some 3, none, none, some 6, some 7, some 11, none, none])))))))))))
 ((.seq (.reg [⟨[], [], .nop⟩, ⟨[], [], .nop⟩] [none, none, some 3, none, none, none, none, none, none, none, none])
 (.ret))))))))⟩

/-- loop.example/g03401/impl.heights -/
def ir_impl_heights : IF := ⟨[], 1, 11, [1, 2],
 (.seq (.reg [⟨[], [], .cs (.o .v) (.l [])⟩, ⟨[], [], .cs .v (.b false)⟩] [some 0, none, none, none, none, none, none, none, none, none, none])
 ((.seq (.reg [⟨[], [], .li (.o .v) [(.c (.n 0))]⟩, ⟨[], [], .nop⟩] [some 0, none, none, some 11, none, none, none, none, none, none, none])
 ((.seq (.reg [⟨[], [], .cs .v (.n 0)⟩] [some 0, none, none, some 3, some 11, none, none, none, none, none, none])
 ((.seq ((.seq (.reg [⟨[], [], .cs .v (.n 0)⟩] [some 0, none, none, some 3, some 4, some 11, none, none, none, none, none])
 (.block 0 (.loop ((.seq ((.seq (.reg [⟨[], [], .nop⟩, ⟨[], [], .nop⟩, ⟨[], [], .sn (.e 0)⟩, ⟨[], [], .bi .lss (.e 5) (.e 11)⟩] [some 0, none, none, some 3, some 4, some 5, some 12, none, none, none, none])
   (.cond 6 (.skip) (.exit 0))))
   ((.seq (.block 1 ((.seq ((.seq (.reg [⟨[], [], .nop⟩, ⟨[], [], .nop⟩, ⟨[], [], .sx (.e 0) (.e 5)⟩] [some 0, none, none, some 3, some 4, some 5, none, some 11, none, none, none])
    (.block 2 ((.seq (.reg [⟨[], [], .bi .eql (.e 7) (.c (.y 117))⟩, ⟨[], [], .nop⟩] [some 0, none, none, some 3, some 4, some 5, none, some 7, some 11, none, none])
     (.cond 8 (.reg [⟨[], [], .nop⟩, ⟨[], [], .bi .add (.e 4) (.c (.n 1))⟩, ⟨[], [], .nop⟩] [some 0, none, none, some 3, some 11, some 5, none, none, none, none, none]) ((.seq (.reg [⟨[], [], .bi .eql (.e 7) (.c (.y 100))⟩, ⟨[], [], .nop⟩] [some 0, none, none, some 3, some 4, some 5, none, none, none, some 11, none])
      (.cond 9 (.reg [⟨[], [], .nop⟩, ⟨[], [], .bi .sub (.e 4) (.c (.n 1))⟩, ⟨[], [], .nop⟩] [some 0, none, none, some 3, some 11, some 5, none, none, none, none, none]) ((.seq (.reg [⟨[], [], .cs (.o .v) (.l [])⟩, ⟨[], [], .cs .v (.b false)⟩] [none, some 11, some 12, none, none, none, none, none, none, none, none])
       (.ret))))))))))))
    ((.seq ((.seq (.reg [⟨[], [], .nop⟩, ⟨[], [], .bi .lss (.e 4) (.c (.n 0))⟩] [some 0, none, none, some 3, some 4, some 5, none, none, none, none, some 11])
    (.cond 10 ((.seq (.reg [⟨[], [], .cs (.o .v) (.l [])⟩, ⟨[], [], .cs .v (.b false)⟩] [none, some 11, some 12, none, none, none, none, none, none, none, none])
     (.ret))) (.skip))))
    (.reg [⟨[], [], .nop⟩, ⟨[], [], .nop⟩, ⟨[], [], .li (.o .v) [(.e 4)]⟩, ⟨[], [], .ap false (.e 3) (.e 11)⟩, ⟨[], [], .nop⟩] [some 0, none, none, some 12, some 4, some 5, none, none, none, none, none]))))))
   (.reg [⟨[], [], .nop⟩, ⟨[], [], .bi .add (.e 5) (.c (.n 1))⟩, ⟨[], [], .nop⟩] [some 0, none, none, some 3, some 4, some 11, none, none, none, none, none])))))))))
 ((.seq (.reg [⟨[], [], .nop⟩, ⟨[], [], .nop⟩, ⟨[], [], .bi .eql (.e 4) (.c (.n 0))⟩, ⟨[], [], .nop⟩, ⟨[], [], .nop⟩] [none, some 3, some 11, none, none, none, none, none, none, none, none])
 (.ret))))))))))⟩

end Go.Cat

namespace Go.Cat
/-- loop.example/g03401/impl.BallotNumber -/
def ir_impl_BallotNumber : IF := ⟨[], 2, 15, [2],
 (.seq (.reg [⟨[], [], .cs .v (.n 0)⟩] [some 0, some 1, none, none, none, none, none, none, none, none, none, none, none, none, none])
 ((.seq ((.seq (.reg [⟨[], [], .nop⟩, ⟨[], [], .ca 23 [(.e 0), (.c (.n 0)), (.c (.n 15))] 1⟩, ⟨[], [], .un .not (.e 15)⟩, ⟨[], [], .nop⟩, ⟨[], [(16, false)], .cy (.e 1)⟩, ⟨[], [(16, false)], .cy (.e 0)⟩, ⟨[], [(16, false)], .ca 23 [(.e 17), (.e 18), (.c (.n 15))] 1⟩, ⟨[], [(16, false)], .un .not (.e 19)⟩, ⟨[], [], .pk (.e 16) (.c (.b true)) (.e 20)⟩] [some 0, some 1, none, none, none, none, none, none, some 21, none, none, none, none, none, none])
 (.cond 8 ((.seq (.reg [⟨[], [], .cs .v (.n 0)⟩] [none, none, some 15, none, none, none, none, none, none, none, none, none, none, none, none])
  (.ret))) (.skip))))
 ((.seq (.reg [⟨[], [], .nop⟩, ⟨[], [], .bi .add (.e 1) (.c (.n 1))⟩, ⟨[], [], .mk (.n 0) (.e 15) (.e 15)⟩, ⟨[], [], .nop⟩] [some 0, some 1, none, some 16, none, none, none, none, none, none, none, none, none, none, none])
 ((.seq ((.seq (.reg [⟨[], [], .nop⟩, ⟨[], [], .ln (.e 3) []⟩, ⟨[], [], .cs .v (.n 0)⟩] [some 0, some 1, none, some 3, none, none, none, none, none, some 15, some 16, none, none, none, none])
 (.block 0 (.loop ((.seq (.reg [⟨[], [], .bi .lss (.e 10) (.e 9)⟩] [some 0, some 1, none, some 3, none, none, none, none, none, some 9, some 10, some 15, none, none, none])
   ((.seq (.cond 11 (.skip) (.exit 0))
   ((.seq (.block 1 ((.seq (.reg [⟨[], [], .nop⟩, ⟨[], [], .nop⟩] [some 0, some 1, none, some 3, some 10, none, none, none, none, some 9, some 10, none, none, none, none])
    (.reg [⟨[], [], .nop⟩, ⟨[], [], .nop⟩, ⟨[], [], .ix (.e 3) [] (.e 4)⟩, ⟨[], [], .up 3 [.e 4] (.c (.n 1))⟩] [some 0, some 1, none, some 16, none, none, none, none, none, some 9, some 10, none, none, none, none]))))
   (.reg [⟨[], [], .bi .add (.e 10) (.c (.n 1))⟩, ⟨[], [], .nop⟩] [some 0, some 1, none, some 3, none, none, none, none, none, some 9, some 15, none, none, none, none])))))))))))
 ((.seq ((.seq (.reg [⟨[], [], .cs .v (.n 1)⟩] [some 0, some 1, none, some 3, none, some 15, none, none, none, none, none, none, none, none, none])
 (.block 2 (.loop ((.seq ((.seq (.reg [⟨[], [], .nop⟩, ⟨[], [], .nop⟩, ⟨[], [], .bi .leq (.e 5) (.e 0)⟩] [some 0, some 1, none, some 3, none, some 5, none, none, none, none, none, none, some 15, none, none])
   (.cond 12 (.skip) (.exit 2))))
   ((.seq (.block 3 ((.seq (.reg [⟨[], [], .nop⟩, ⟨[], [], .bi .add (.e 1) (.c (.n 1))⟩, ⟨[], [], .mk (.n 0) (.e 15) (.e 15)⟩, ⟨[], [], .nop⟩] [some 0, some 1, none, some 3, none, some 5, some 16, none, none, none, none, none, none, none, none])
    ((.seq ((.seq (.reg [⟨[], [], .nop⟩, ⟨[], [], .nop⟩] [some 0, some 1, none, some 3, none, some 5, some 6, some 5, none, none, none, none, none, none, none])
    (.block 4 (.loop ((.seq ((.seq (.reg [⟨[], [], .nop⟩, ⟨[], [], .nop⟩, ⟨[], [], .bi .leq (.e 7) (.e 1)⟩] [some 0, some 1, none, some 3, none, some 5, some 6, some 7, none, none, none, none, none, some 15, none])
      (.cond 13 (.skip) (.exit 4))))
      ((.seq (.block 5 ((.seq (.reg [⟨[], [], .nop⟩, ⟨[], [], .nop⟩, ⟨[], [], .nop⟩, ⟨[], [], .nop⟩, ⟨[], [], .ix (.e 3) [] (.e 7)⟩, ⟨[], [], .nop⟩, ⟨[], [], .ix (.e 6) [] (.e 7)⟩, ⟨[], [], .up 6 [.e 7] (.e 15)⟩] [some 0, some 1, none, some 3, none, some 5, some 17, some 7, none, none, none, none, none, none, none])
       ((.seq (.reg [⟨[], [], .nop⟩, ⟨[], [], .nop⟩, ⟨[], [], .bi .gtr (.e 7) (.e 5)⟩] [some 0, some 1, none, some 3, none, some 5, some 6, some 7, none, none, none, none, none, none, some 15])
       (.cond 14 (.reg [⟨[], [], .nop⟩, ⟨[], [], .nop⟩, ⟨[], [], .nop⟩, ⟨[], [], .nop⟩, ⟨[], [], .ix (.e 6) [] (.e 7)⟩, ⟨[], [], .nop⟩, ⟨[], [], .nop⟩, ⟨[], [], .nop⟩, ⟨[], [], .bi .sub (.e 7) (.c (.n 1))⟩, ⟨[], [], .ix (.e 6) [] (.e 16)⟩, ⟨[], [], .nop⟩, ⟨[], [], .bi .add (.e 15) (.e 17)⟩, ⟨[], [], .ix (.e 6) [] (.e 7)⟩, ⟨[], [], .up 6 [.e 7] (.e 18)⟩] [some 0, some 1, none, some 3, none, some 5, some 20, some 7, none, none, none, none, none, none, none]) (.skip)))))))
      (.reg [⟨[], [], .nop⟩, ⟨[], [], .bi .add (.e 7) (.c (.n 1))⟩, ⟨[], [], .nop⟩] [some 0, some 1, none, some 3, none, some 5, some 6, some 15, none, none, none, none, none, none, none])))))))))
    (.reg [⟨[], [], .nop⟩, ⟨[], [], .nop⟩] [some 0, some 1, none, some 6, none, some 5, none, none, none, none, none, none, none, none, none]))))))
   (.reg [⟨[], [], .nop⟩, ⟨[], [], .bi .add (.e 5) (.c (.n 1))⟩, ⟨[], [], .nop⟩] [some 0, some 1, none, some 3, none, some 15, none, none, none, none, none, none, none, none, none])))))))))
 ((.seq (.reg [⟨[], [], .nop⟩, ⟨[], [], .nop⟩, ⟨[], [], .ix (.e 3) [] (.e 1)⟩, ⟨[], [], .nop⟩, ⟨[], [], .nop⟩] [none, none, some 15, none, none, none, none, none, none, none, none, none, none, none, none])
 (.ret))))))))))))⟩

/-- loop.example/g03401/impl.PathsOf -/
def ir_impl_PathsOf : IF := ⟨[], 1, 3, [1],
 (.seq (.reg [⟨[], [], .cs (.o .v) (.l [])⟩] [some 0, none, none])
 ((.seq ((.seq (.reg [⟨[], [], .nop⟩, ⟨[], [], .ca 23 [(.e 0), (.c (.n 0)), (.c (.n 6))] 1⟩, ⟨[], [], .un .not (.e 3)⟩] [some 0, none, some 4])
 (.cond 2 ((.seq (.reg [⟨[], [], .li (.o .v) []⟩, ⟨[], [], .nop⟩] [none, some 3, none])
  (.ret))) (.skip))))
 ((.seq (.reg [⟨[], [], .nop⟩, ⟨[], [], .ca 314 [(.e 0)] 1⟩, ⟨[], [], .nop⟩] [none, some 3, none])
 (.ret))))))⟩

/-- loop.example/g03401/impl.RankPath -/
def ir_impl_RankPath : IF := ⟨[], 1, 10, [1],
 (.seq (.reg [⟨[], [], .cs .v (.n 0)⟩] [some 0, none, none, none, none, none, none, none, none, none])
 ((.seq ((.seq (.reg [⟨[], [], .nop⟩, ⟨[], [], .ca 67 [(.e 0)] 1⟩, ⟨[], [], .un .not (.e 10)⟩] [some 0, none, none, none, none, none, some 11, none, none, none])
 (.cond 6 ((.seq (.reg [⟨[], [], .cs .v (.n (-1))⟩] [none, some 10, none, none, none, none, none, none, none, none])
  (.ret))) (.skip))))
 ((.seq (.reg [⟨[], [], .cs .v (.n 0)⟩] [some 0, none, some 10, none, none, none, none, none, none, none])
 ((.seq (.reg [⟨[], [], .nop⟩, ⟨[], [], .sn (.e 0)⟩, ⟨[], [], .bi .quo (.e 10) (.c (.n 2))⟩, ⟨[], [], .nop⟩, ⟨[], [], .sn (.e 0)⟩, ⟨[], [], .bi .quo (.e 12) (.c (.n 2))⟩, ⟨[], [], .nop⟩, ⟨[], [], .nop⟩] [some 0, none, some 2, some 11, some 13, none, none, none, none, none])
 ((.seq ((.seq (.reg [⟨[], [], .cs .v (.n 0)⟩] [some 0, none, some 2, some 3, some 4, some 10, none, none, none, none])
 (.block 0 (.loop ((.seq ((.seq (.reg [⟨[], [], .nop⟩, ⟨[], [], .nop⟩, ⟨[], [], .sn (.e 0)⟩, ⟨[], [], .bi .lss (.e 5) (.e 10)⟩] [some 0, none, some 2, some 3, some 4, some 5, none, some 11, none, none])
   (.cond 7 (.skip) (.exit 0))))
   ((.seq (.block 1 ((.seq ((.seq (.reg [⟨[], [], .nop⟩, ⟨[], [], .nop⟩, ⟨[], [], .sx (.e 0) (.e 5)⟩, ⟨[], [], .bi .eql (.e 10) (.c (.y 117))⟩] [some 0, none, some 2, some 3, some 4, some 5, none, none, some 11, none])
    (.cond 8 ((.seq (.reg [⟨[], [], .nop⟩, ⟨[], [], .bi .sub (.e 3) (.c (.n 1))⟩, ⟨[], [], .nop⟩] [some 0, none, some 2, some 10, some 4, some 5, none, none, none, none])
     (.exit 1))) (.skip))))
    ((.seq ((.seq (.reg [⟨[], [], .nop⟩, ⟨[], [], .bi .gtr (.e 3) (.c (.n 0))⟩] [some 0, none, some 2, some 3, some 4, some 5, none, none, none, some 10])
    (.cond 9 (.reg [⟨[], [], .nop⟩, ⟨[], [], .nop⟩, ⟨[], [], .bi .sub (.e 3) (.c (.n 1))⟩, ⟨[], [], .nop⟩, ⟨[], [], .ca 27 [(.e 10), (.e 4)] 1⟩, ⟨[], [], .bi .add (.e 2) (.e 11)⟩, ⟨[], [], .nop⟩] [some 0, none, some 12, some 3, some 4, some 5, none, none, none, none]) (.skip))))
    (.reg [⟨[], [], .nop⟩, ⟨[], [], .bi .sub (.e 4) (.c (.n 1))⟩, ⟨[], [], .nop⟩] [some 0, none, some 2, some 3, some 10, some 5, none, none, none, none]))))))
   (.reg [⟨[], [], .nop⟩, ⟨[], [], .bi .add (.e 5) (.c (.n 1))⟩, ⟨[], [], .nop⟩] [some 0, none, some 2, some 3, some 4, some 10, none, none, none, none])))))))))
 ((.seq (.reg [⟨[], [], .nop⟩, ⟨[], [], .nop⟩] [none, some 2, none, none, none, none, none, none, none, none])
 (.ret))))))))))))⟩

/-- loop.example/g03401/impl.allPaths -/
def ir_impl_allPaths : IF := ⟨[], 1, 4, [1],
 (.seq (.reg [⟨[], [], .cs (.o .v) (.l [])⟩] [some 0, none, none, none])
 ((.seq (.reg [⟨[], [], .li (.o .v) []⟩, ⟨[], [], .cs (.b (.o .v)) (.g [(.l [])])⟩, ⟨[], [], .up 5 [.k 0] (.e 4)⟩] [some 0, none, some 6, none])
 ((.seq (.reg [⟨[], [], .cs (.b .v) (.g [.u])⟩] [some 0, none, some 2, some 4])
 ((.seq (.reg [⟨[], [], .nop⟩, ⟨[], [], .cb 3⟩, ⟨[], [], .nop⟩, ⟨[], [], .nop⟩, ⟨[], [], .nop⟩, ⟨[], [], .ca 326 [(.c (.s [])), (.e 0), (.e 0), (.e 2), (.e 4)] 1⟩] [none, none, some 5, none])
 ((.seq (.reg [⟨[], [], .tk 2⟩, ⟨[], [], .nop⟩] [none, some 4, none, none])
 (.ret))))))))))⟩

/-- loop.example/g03401/impl.allPaths$1 -/
def ir_impl_allPaths_f1 : IF := ⟨[], 5, 8, [3],
 (.seq ((.seq (.reg [⟨[], [], .nop⟩, ⟨[], [], .bi .eql (.e 1) (.c (.n 0))⟩, ⟨[], [], .nop⟩, ⟨[], [(8, true)], .cy (.e 2)⟩, ⟨[], [(8, true)], .bi .eql (.e 9) (.c (.n 0))⟩, ⟨[], [], .pk (.e 8) (.e 10) (.c (.b false))⟩] [some 0, some 1, some 2, some 3, some 4, some 11, none, none])
 (.cond 5 ((.seq (.reg [⟨[], [], .tk 3⟩, ⟨[], [], .nop⟩, ⟨[], [], .li (.o .v) [(.e 0)]⟩, ⟨[], [], .ap false (.e 8) (.e 10)⟩, ⟨[], [], .up 9 [.k 0] (.e 11)⟩] [none, none, none, some 12, none, none, none, none])
  (.ret))) (.skip))))
 ((.seq ((.seq (.reg [⟨[], [], .nop⟩, ⟨[], [], .bi .gtr (.e 1) (.c (.n 0))⟩] [some 0, some 1, some 2, some 3, some 4, none, some 8, none])
 (.cond 6 (.reg [⟨[], [], .nop⟩, ⟨[], [], .nop⟩, ⟨[], [], .bi .add (.e 0) (.c (.s [117]))⟩, ⟨[], [], .nop⟩, ⟨[], [], .bi .sub (.e 1) (.c (.n 1))⟩, ⟨[], [], .nop⟩, ⟨[], [], .ca 326 [(.e 8), (.e 9), (.e 2), (.e 3), (.e 4)] 1⟩] [some 0, some 1, some 2, some 10, some 4, none, none, none]) (.skip))))
 ((.seq (.reg [⟨[], [], .nop⟩, ⟨[], [], .nop⟩, ⟨[], [], .bi .gtr (.e 2) (.e 1)⟩] [some 0, some 1, some 2, some 3, some 4, none, none, some 8])
 (.cond 7 (.reg [⟨[], [], .nop⟩, ⟨[], [], .nop⟩, ⟨[], [], .bi .add (.e 0) (.c (.s [100]))⟩, ⟨[], [], .nop⟩, ⟨[], [], .nop⟩, ⟨[], [], .bi .sub (.e 2) (.c (.n 1))⟩, ⟨[], [], .ca 326 [(.e 8), (.e 1), (.e 9), (.e 3), (.e 4)] 1⟩] [none, none, none, some 10, none, none, none, none]) (.skip)))))))⟩

end Go.Cat

namespace Go.Cat
/-- loop.example/g03401/impl.BracketsOf -/
def ir_impl_BracketsOf : IF := ⟨[], 1, 4, [1, 2],
 (.seq (.reg [⟨[], [], .cs .v (.s [])⟩, ⟨[], [], .cs .v (.b false)⟩] [some 0, none, none, none])
 ((.seq ((.seq (.reg [⟨[], [], .nop⟩, ⟨[], [], .ca 67 [(.e 0)] 1⟩, ⟨[], [], .un .not (.e 4)⟩] [some 0, none, none, some 5])
 (.cond 3 ((.seq (.reg [⟨[], [], .cs .v (.s [])⟩, ⟨[], [], .cs .v (.b false)⟩] [none, some 4, some 5, none])
  (.ret))) (.skip))))
 ((.seq (.reg [⟨[], [], .nop⟩, ⟨[], [], .ca 83 [(.e 0), (.c (.s [117, 100])), (.c (.s [40, 41]))] 2⟩, ⟨[], [], .nop⟩, ⟨[], [], .nop⟩, ⟨[], [], .nop⟩, ⟨[], [], .nop⟩] [none, some 4, some 5, none])
 (.ret))))))⟩

/-- loop.example/g03401/impl.exchanged -/
def ir_impl_exchanged : IF := ⟨[], 3, 11, [3, 4],
 (.seq (.reg [⟨[], [], .cs .v (.s [])⟩, ⟨[], [], .cs .v (.b false)⟩] [some 0, some 1, some 2, none, none, none, none, none, none, none, none])
 ((.seq (.reg [⟨[], [], .li (.o .v) []⟩, ⟨[], [], .nop⟩] [some 0, some 1, some 2, none, none, some 11, none, none, none, none, none])
 ((.seq ((.seq (.reg [⟨[], [], .cs .v (.n 0)⟩] [some 0, some 1, some 2, none, none, some 5, some 11, none, none, none, none])
 (.block 0 (.loop ((.seq ((.seq (.reg [⟨[], [], .nop⟩, ⟨[], [], .nop⟩, ⟨[], [], .sn (.e 0)⟩, ⟨[], [], .bi .lss (.e 6) (.e 11)⟩] [some 0, some 1, some 2, none, none, some 5, some 6, some 12, none, none, none])
   (.cond 7 (.skip) (.exit 0))))
   ((.seq (.block 1 ((.seq (.reg [⟨[], [], .nop⟩, ⟨[], [], .nop⟩, ⟨[], [], .sx (.e 0) (.e 6)⟩] [some 0, some 1, some 2, none, none, some 5, some 6, none, some 11, none, none])
    (.block 2 ((.seq (.reg [⟨[], [], .nop⟩, ⟨[], [], .sx (.e 1) (.c (.n 0))⟩, ⟨[], [], .bi .eql (.e 8) (.e 11)⟩, ⟨[], [], .nop⟩] [some 0, some 1, some 2, none, none, some 5, some 6, none, some 8, some 12, none])
     (.cond 9 (.reg [⟨[], [], .nop⟩, ⟨[], [], .nop⟩, ⟨[], [], .sx (.e 2) (.c (.n 0))⟩, ⟨[], [], .li (.o .v) [(.e 11)]⟩, ⟨[], [], .ap false (.e 5) (.e 12)⟩, ⟨[], [], .nop⟩] [some 0, some 1, some 2, none, none, some 13, some 6, none, none, none, none]) ((.seq (.reg [⟨[], [], .nop⟩, ⟨[], [], .sx (.e 1) (.c (.n 1))⟩, ⟨[], [], .bi .eql (.e 8) (.e 11)⟩, ⟨[], [], .nop⟩] [some 0, some 1, some 2, none, none, some 5, some 6, none, none, none, some 12])
      (.cond 10 (.reg [⟨[], [], .nop⟩, ⟨[], [], .nop⟩, ⟨[], [], .sx (.e 2) (.c (.n 1))⟩, ⟨[], [], .li (.o .v) [(.e 11)]⟩, ⟨[], [], .ap false (.e 5) (.e 12)⟩, ⟨[], [], .nop⟩] [some 0, some 1, some 2, none, none, some 13, some 6, none, none, none, none]) ((.seq (.reg [⟨[], [], .cs .v (.s [])⟩, ⟨[], [], .cs .v (.b false)⟩] [none, none, none, some 11, some 12, none, none, none, none, none, none])
       (.ret)))))))))))))
   (.reg [⟨[], [], .nop⟩, ⟨[], [], .bi .add (.e 6) (.c (.n 1))⟩, ⟨[], [], .nop⟩] [some 0, some 1, some 2, none, none, some 5, some 11, none, none, none, none])))))))))
 ((.seq (.reg [⟨[], [], .nop⟩, ⟨[], [], .bs (.e 5)⟩, ⟨[], [], .nop⟩, ⟨[], [], .cs .v (.b true)⟩] [none, none, none, some 11, some 12, none, none, none, none, none, none])
 (.ret))))))))⟩

/-- loop.example/g03401/impl.partners -/
def ir_impl_partners : IF := ⟨[], 1, 8, [1],
 (.seq (.reg [⟨[], [], .cs (.o .v) (.l [])⟩] [some 0, none, none, none, none, none, none, none])
 ((.seq (.reg [⟨[], [], .nop⟩, ⟨[], [], .sn (.e 0)⟩, ⟨[], [], .mk (.n 0) (.e 8) (.e 8)⟩, ⟨[], [], .nop⟩] [some 0, none, some 9, none, none, none, none, none])
 ((.seq (.reg [⟨[], [], .li (.o .v) []⟩, ⟨[], [], .nop⟩] [some 0, none, some 2, some 8, none, none, none, none])
 ((.seq ((.seq (.reg [⟨[], [], .cs .v (.n 0)⟩] [some 0, none, some 2, some 3, some 8, none, none, none])
 (.block 0 (.loop ((.seq ((.seq (.reg [⟨[], [], .nop⟩, ⟨[], [], .nop⟩, ⟨[], [], .sn (.e 0)⟩, ⟨[], [], .bi .lss (.e 4) (.e 8)⟩] [some 0, none, some 2, some 3, some 4, none, some 9, none])
   (.cond 6 (.skip) (.exit 0))))
   ((.seq (.block 1 ((.seq ((.seq (.reg [⟨[], [], .nop⟩, ⟨[], [], .nop⟩, ⟨[], [], .sx (.e 0) (.e 4)⟩, ⟨[], [], .bi .eql (.e 8) (.c (.y 117))⟩] [some 0, none, some 2, some 3, some 4, none, none, some 9])
    (.cond 7 ((.seq (.reg [⟨[], [], .nop⟩, ⟨[], [], .nop⟩, ⟨[], [], .li (.o .v) [(.e 4)]⟩, ⟨[], [], .ap false (.e 3) (.e 8)⟩, ⟨[], [], .nop⟩] [some 0, none, some 2, some 9, some 4, none, none, none])
     (.exit 1))) (.skip))))
    ((.seq (.reg [⟨[], [], .nop⟩, ⟨[], [], .nop⟩, ⟨[], [], .ln (.e 3) []⟩, ⟨[], [], .bi .sub (.e 8) (.c (.n 1))⟩, ⟨[], [], .ix (.e 3) [] (.e 9)⟩, ⟨[], [], .nop⟩, ⟨[], [], .nop⟩] [some 0, none, some 2, some 3, some 4, some 10, none, none])
    ((.seq (.reg [⟨[], [], .nop⟩, ⟨[], [], .nop⟩, ⟨[], [], .ln (.e 3) []⟩, ⟨[], [], .bi .sub (.e 8) (.c (.n 1))⟩, ⟨[], [], .sb true (.e 3) none (some (.e 9))⟩, ⟨[], [], .nop⟩] [some 0, none, some 2, some 10, some 4, some 5, none, none])
    ((.seq (.reg [⟨[], [], .nop⟩, ⟨[], [], .nop⟩, ⟨[], [], .nop⟩, ⟨[], [], .ix (.e 2) [] (.e 4)⟩, ⟨[], [], .up 2 [.e 4] (.e 5)⟩] [some 0, none, some 9, some 3, some 4, some 5, none, none])
    (.reg [⟨[], [], .nop⟩, ⟨[], [], .nop⟩, ⟨[], [], .nop⟩, ⟨[], [], .ix (.e 2) [] (.e 5)⟩, ⟨[], [], .up 2 [.e 5] (.e 4)⟩] [some 0, none, some 9, some 3, some 4, none, none, none]))))))))))
   (.reg [⟨[], [], .nop⟩, ⟨[], [], .bi .add (.e 4) (.c (.n 1))⟩, ⟨[], [], .nop⟩] [some 0, none, some 2, some 3, some 8, none, none, none])))))))))
 ((.seq (.reg [⟨[], [], .nop⟩, ⟨[], [], .nop⟩] [none, some 2, none, none, none, none, none, none])
 (.ret))))))))))⟩

end Go.Cat

namespace Go.Cat
/-- loop.example/g03401/impl.FormatPlane -/
def ir_impl_FormatPlane : IF := ⟨[], 1, 9, [1],
 (.seq (.reg [⟨[], [], .cs .v (.s [])⟩] [some 0, none, none, none, none, none, none, none, none])
 ((.seq ((.seq (.reg [⟨[], [], .nop⟩, ⟨[], [], .ca 516 [(.e 0)] 1⟩, ⟨[], [], .un .not (.e 9)⟩] [some 0, none, none, none, some 10, none, none, none, none])
 (.cond 4 ((.seq (.reg [⟨[], [], .cs .v (.s [])⟩] [none, some 9, none, none, none, none, none, none, none])
  (.ret))) (.skip))))
 ((.seq (.reg [⟨[], [], .li (.o .v) []⟩, ⟨[], [], .nop⟩] [some 0, none, some 9, none, none, none, none, none, none])
 ((.seq ((.seq (.reg [⟨[], [], .nop⟩, ⟨[], [], .ln (.e 0) []⟩, ⟨[], [], .cs .v (.n 0)⟩] [none, none, some 2, none, none, some 0, some 9, some 10, none])
 (.block 0 (.loop ((.seq (.reg [⟨[], [], .bi .lss (.e 7) (.e 6)⟩] [none, none, some 2, none, none, some 5, some 6, some 7, some 9])
   ((.seq (.cond 8 (.skip) (.exit 0))
   ((.seq (.block 1 ((.seq (.reg [⟨[], [], .iy (.e 5) (.e 7)⟩, ⟨[], [], .nop⟩, ⟨[], [], .nop⟩] [none, none, some 2, some 9, none, some 5, some 6, some 7, none])
    (.reg [⟨[], [], .nop⟩, ⟨[], [], .nop⟩, ⟨[], [], .ca 143 [(.e 3)] 1⟩, ⟨[], [], .li (.o .v) [(.e 9)]⟩, ⟨[], [], .ap false (.e 2) (.e 10)⟩, ⟨[], [], .nop⟩] [none, none, some 11, none, none, some 5, some 6, some 7, none]))))
   (.reg [⟨[], [], .bi .add (.e 7) (.c (.n 1))⟩, ⟨[], [], .nop⟩] [none, none, some 2, none, none, some 5, some 6, some 9, none])))))))))))
 ((.seq (.reg [⟨[], [], .nop⟩, ⟨[], [], .ca 184 [(.e 2), (.c (.s [44]))] 1⟩, ⟨[], [], .nop⟩] [none, some 9, none, none, none, none, none, none, none])
 (.ret))))))))))⟩

/-- loop.example/g03401/impl.IsPlane -/
def ir_impl_IsPlane : IF := ⟨[], 1, 8, [1],
 (.seq (.reg [⟨[], [], .cs .v (.b false)⟩] [some 0, none, none, none, none, none, none, none])
 ((.seq ((.seq (.reg [⟨[], [], .nop⟩, ⟨[], [], .ln (.e 0) []⟩, ⟨[], [], .ca 23 [(.e 8), (.c (.n 1)), (.c (.n 9))] 1⟩, ⟨[], [], .un .not (.e 9)⟩, ⟨[], [], .nop⟩, ⟨[], [(10, false)], .nop⟩, ⟨[], [(10, false)], .iy (.e 0) (.c (.n 0))⟩, ⟨[], [(10, false)], .nop⟩, ⟨[], [(10, false)], .bi .neq (.e 11) (.c (.n (-1)))⟩, ⟨[], [], .pk (.e 10) (.c (.b true)) (.e 12)⟩] [some 0, none, none, none, some 13, none, none, none])
 (.cond 4 ((.seq (.reg [⟨[], [], .cs .v (.b false)⟩] [none, some 8, none, none, none, none, none, none])
  (.ret))) (.skip))))
 ((.seq ((.seq (.reg [⟨[], [], .cs .v (.n 1)⟩] [some 0, none, some 8, none, none, none, none, none])
 (.block 0 (.loop ((.seq ((.seq (.reg [⟨[], [], .nop⟩, ⟨[], [], .nop⟩, ⟨[], [], .ln (.e 0) []⟩, ⟨[], [], .bi .lss (.e 2) (.e 8)⟩] [some 0, none, some 2, none, none, some 9, none, none])
   (.cond 5 (.skip) (.exit 0))))
   ((.seq (.block 1 ((.seq (.reg [⟨[], [], .nop⟩, ⟨[], [], .bi .sub (.e 2) (.c (.n 1))⟩, ⟨[], [], .nop⟩] [some 0, none, some 2, some 8, none, none, none, none])
    ((.seq (.block 2 (.loop ((.seq ((.seq (.reg [⟨[], [], .nop⟩, ⟨[], [], .bi .geq (.e 3) (.c (.n 0))⟩, ⟨[], [], .nop⟩, ⟨[], [(8, true)], .cy (.e 3)⟩, ⟨[], [(8, true)], .nop⟩, ⟨[], [(8, true)], .cy (.e 2)⟩, ⟨[], [(8, true)], .iy (.e 0) (.e 10)⟩, ⟨[], [(8, true)], .nop⟩, ⟨[], [(8, true)], .bi .neq (.e 9) (.e 11)⟩, ⟨[], [], .pk (.e 8) (.e 12) (.c (.b false))⟩] [some 0, none, some 2, some 3, none, none, some 13, none])
      (.cond 6 (.skip) (.exit 2))))
      (.block 3 (.reg [⟨[], [], .nop⟩, ⟨[], [], .nop⟩, ⟨[], [], .iy (.e 0) (.e 3)⟩, ⟨[], [], .nop⟩, ⟨[], [], .nop⟩] [some 0, none, some 2, some 8, none, none, none, none]))))))
    ((.seq (.reg [⟨[], [], .nop⟩, ⟨[], [], .bi .lss (.e 3) (.c (.n 0))⟩] [some 0, none, some 2, none, none, none, none, some 8])
    (.cond 7 ((.seq (.reg [⟨[], [], .cs .v (.b false)⟩] [none, some 8, none, none, none, none, none, none])
     (.ret))) (.skip)))))))))
   (.reg [⟨[], [], .nop⟩, ⟨[], [], .bi .add (.e 2) (.c (.n 1))⟩, ⟨[], [], .nop⟩] [some 0, none, some 8, none, none, none, none, none])))))))))
 ((.seq (.reg [⟨[], [], .cs .v (.b true)⟩] [none, some 8, none, none, none, none, none, none])
 (.ret))))))))⟩

/-- loop.example/g03401/impl.PlaneOf -/
def ir_impl_PlaneOf : IF := ⟨[], 1, 9, [1, 2],
 (.seq (.reg [⟨[], [], .cs (.o .v) (.l [])⟩, ⟨[], [], .cs .v (.b false)⟩] [some 0, none, none, none, none, none, none, none, none])
 ((.seq ((.seq (.reg [⟨[], [], .nop⟩, ⟨[], [], .ca 67 [(.e 0)] 1⟩, ⟨[], [], .un .not (.e 9)⟩] [some 0, none, none, none, none, none, some 10, none, none])
 (.cond 6 ((.seq (.reg [⟨[], [], .li (.o .v) []⟩, ⟨[], [], .nop⟩, ⟨[], [], .cs .v (.b false)⟩] [none, some 9, some 10, none, none, none, none, none, none])
  (.ret))) (.skip))))
 ((.seq (.reg [⟨[], [], .li (.o .v) [(.c (.n (-1)))]⟩, ⟨[], [], .nop⟩] [some 0, none, none, some 9, none, none, none, none, none])
 ((.seq (.reg [⟨[], [], .li (.o .v) [(.c (.n 0))]⟩, ⟨[], [], .nop⟩] [some 0, none, none, some 3, some 9, none, none, none, none])
 ((.seq ((.seq (.reg [⟨[], [], .cs .v (.n 0)⟩] [some 0, none, none, some 3, some 4, some 9, none, none, none])
 (.block 0 (.loop ((.seq ((.seq (.reg [⟨[], [], .nop⟩, ⟨[], [], .nop⟩, ⟨[], [], .sn (.e 0)⟩, ⟨[], [], .bi .lss (.e 5) (.e 9)⟩] [some 0, none, none, some 3, some 4, some 5, none, some 10, none])
   (.cond 7 (.skip) (.exit 0))))
   ((.seq (.block 1 ((.seq ((.seq (.reg [⟨[], [], .nop⟩, ⟨[], [], .nop⟩, ⟨[], [], .sx (.e 0) (.e 5)⟩, ⟨[], [], .bi .eql (.e 9) (.c (.y 100))⟩] [some 0, none, none, some 3, some 4, some 5, none, none, some 10])
    (.cond 8 ((.seq (.reg [⟨[], [], .nop⟩, ⟨[], [], .nop⟩, ⟨[], [], .ln (.e 4) []⟩, ⟨[], [], .bi .sub (.e 9) (.c (.n 1))⟩, ⟨[], [], .sb true (.e 4) none (some (.e 10))⟩, ⟨[], [], .nop⟩] [some 0, none, none, some 3, some 11, some 5, none, none, none])
     (.exit 1))) (.skip))))
    ((.seq (.reg [⟨[], [], .nop⟩, ⟨[], [], .nop⟩, ⟨[], [], .nop⟩, ⟨[], [], .ln (.e 4) []⟩, ⟨[], [], .bi .sub (.e 9) (.c (.n 1))⟩, ⟨[], [], .ix (.e 4) [] (.e 10)⟩, ⟨[], [], .nop⟩, ⟨[], [], .li (.o .v) [(.e 11)]⟩, ⟨[], [], .ap false (.e 3) (.e 12)⟩, ⟨[], [], .nop⟩] [some 0, none, none, some 13, some 4, some 5, none, none, none])
    (.reg [⟨[], [], .nop⟩, ⟨[], [], .nop⟩, ⟨[], [], .ln (.e 3) []⟩, ⟨[], [], .bi .sub (.e 9) (.c (.n 1))⟩, ⟨[], [], .li (.o .v) [(.e 10)]⟩, ⟨[], [], .ap false (.e 4) (.e 11)⟩, ⟨[], [], .nop⟩] [some 0, none, none, some 3, some 12, some 5, none, none, none]))))))
   (.reg [⟨[], [], .nop⟩, ⟨[], [], .bi .add (.e 5) (.c (.n 1))⟩, ⟨[], [], .nop⟩] [some 0, none, none, some 3, some 4, some 9, none, none, none])))))))))
 ((.seq (.reg [⟨[], [], .nop⟩, ⟨[], [], .nop⟩, ⟨[], [], .cs .v (.b true)⟩] [none, some 3, some 9, none, none, none, none, none, none])
 (.ret))))))))))))⟩

end Go.Cat

namespace Go.Cat
/-- loop.example/g03401/impl.BinaryOf -/
def ir_impl_BinaryOf : IF := ⟨[], 1, 4, [1, 2],
 (.seq (.reg [⟨[], [], .cs .v (.s [])⟩, ⟨[], [], .cs .v (.b false)⟩] [some 0, none, none, none])
 ((.seq ((.seq (.reg [⟨[], [], .nop⟩, ⟨[], [], .ca 67 [(.e 0)] 1⟩, ⟨[], [], .un .not (.e 4)⟩] [some 0, none, none, some 5])
 (.cond 3 ((.seq (.reg [⟨[], [], .cs .v (.s [])⟩, ⟨[], [], .cs .v (.b false)⟩] [none, some 4, some 5, none])
  (.ret))) (.skip))))
 ((.seq (.reg [⟨[], [], .nop⟩, ⟨[], [], .ca 514 [(.e 0)] 1⟩, ⟨[], [], .ca 196 [(.e 4)] 1⟩, ⟨[], [], .nop⟩, ⟨[], [], .cs .v (.b true)⟩] [none, some 5, some 6, none])
 (.ret))))))⟩

/-- loop.example/g03401/impl.parseTree -/
def ir_impl_parseTree : IF := ⟨[], 1, 7, [1, 2],
 (.seq (.reg [⟨[], [], .cs .v .z⟩, ⟨[], [], .cs .v (.b false)⟩] [some 0, none, none, none, none, none, none])
 ((.seq ((.seq (.reg [⟨[], [], .nop⟩, ⟨[], [], .sn (.e 0)⟩, ⟨[], [], .bi .gtr (.e 7) (.c (.n 25))⟩] [some 0, none, none, none, none, some 8, none])
 (.cond 5 ((.seq (.reg [⟨[], [], .cs .v .z⟩, ⟨[], [], .cs .v (.b false)⟩] [none, some 7, some 8, none, none, none, none])
  (.ret))) (.skip))))
 ((.seq (.reg [⟨[], [], .nop⟩, ⟨[], [], .ca 208 [(.e 0), (.c (.n 0))] 2⟩, ⟨[], [], .nop⟩, ⟨[], [], .nop⟩, ⟨[], [], .nop⟩, ⟨[], [], .nop⟩, ⟨[], [], .nop⟩] [some 0, none, none, some 7, some 8, none, none])
 ((.seq ((.seq (.reg [⟨[], [], .nop⟩, ⟨[], [], .nop⟩, ⟨[], [], .sn (.e 0)⟩, ⟨[], [], .bi .neq (.e 4) (.e 7)⟩, ⟨[], [], .nop⟩, ⟨[], [(8, false)], .cy (.e 3)⟩, ⟨[], [(8, false)], .ca 197 [(.e 9)] 1⟩, ⟨[], [(8, false)], .bi .gtr (.e 10) (.c (.n 8))⟩, ⟨[], [], .pk (.e 8) (.c (.b true)) (.e 11)⟩] [none, none, none, some 3, none, none, some 12])
 (.cond 6 ((.seq (.reg [⟨[], [], .cs .v .z⟩, ⟨[], [], .cs .v (.b false)⟩] [none, some 7, some 8, none, none, none, none])
  (.ret))) (.skip))))
 ((.seq (.reg [⟨[], [], .nop⟩, ⟨[], [], .nop⟩, ⟨[], [], .cs .v (.b true)⟩] [none, some 3, some 7, none, none, none, none])
 (.ret))))))))))⟩

/-- loop.example/g03401/impl.readTree -/
def ir_impl_readTree : IF := ⟨[], 2, 14, [2, 3],
 (.seq (.reg [⟨[], [], .cs .v .z⟩, ⟨[], [], .cs .v (.n 0)⟩] [some 0, some 1, none, none, none, none, none, none, none, none, none, none, none, none])
 ((.seq ((.seq (.reg [⟨[], [], .nop⟩, ⟨[], [], .nop⟩, ⟨[], [], .sn (.e 0)⟩, ⟨[], [], .bi .geq (.e 1) (.e 14)⟩] [some 0, some 1, none, none, none, none, none, none, some 15, none, none, none, none, none])
 (.cond 8 ((.seq (.reg [⟨[], [], .cs .v .z⟩, ⟨[], [], .cs .v (.n (-1))⟩] [none, none, some 14, some 15, none, none, none, none, none, none, none, none, none, none])
  (.ret))) (.skip))))
 ((.seq ((.seq (.reg [⟨[], [], .nop⟩, ⟨[], [], .nop⟩, ⟨[], [], .sx (.e 0) (.e 1)⟩] [some 0, some 1, none, none, none, none, none, none, none, some 14, none, none, none, none])
 (.block 0 ((.seq (.reg [⟨[], [], .bi .eql (.e 9) (.c (.y 46))⟩, ⟨[], [], .nop⟩] [some 0, some 1, none, none, none, none, none, none, none, some 9, some 14, none, none, none])
  (.cond 10 ((.seq (.reg [⟨[], [], .nop⟩, ⟨[], [], .bi .add (.e 1) (.c (.n 1))⟩, ⟨[], [], .cs .v .z⟩, ⟨[], [], .nop⟩] [none, none, some 15, some 14, none, none, none, none, none, none, none, none, none, none])
   (.ret))) ((.seq (.reg [⟨[], [], .bi .eql (.e 9) (.c (.y 40))⟩, ⟨[], [], .nop⟩] [some 0, some 1, none, none, none, none, none, none, none, none, none, some 14, none, none])
   (.cond 11 ((.seq (.reg [⟨[], [], .nop⟩, ⟨[], [], .nop⟩, ⟨[], [], .bi .add (.e 1) (.c (.n 1))⟩, ⟨[], [], .ca 208 [(.e 0), (.e 14)] 2⟩, ⟨[], [], .nop⟩, ⟨[], [], .nop⟩, ⟨[], [], .nop⟩, ⟨[], [], .nop⟩, ⟨[], [], .nop⟩] [some 0, none, none, none, some 15, some 16, none, none, none, none, none, none, none, none])
    ((.seq ((.seq (.reg [⟨[], [], .nop⟩, ⟨[], [], .bi .lss (.e 5) (.c (.n 0))⟩] [some 0, none, none, none, some 4, some 5, none, none, none, none, none, none, some 14, none])
    (.cond 12 ((.seq (.reg [⟨[], [], .cs .v .z⟩, ⟨[], [], .cs .v (.n (-1))⟩] [none, none, some 14, some 15, none, none, none, none, none, none, none, none, none, none])
     (.ret))) (.skip))))
    ((.seq (.reg [⟨[], [], .nop⟩, ⟨[], [], .nop⟩, ⟨[], [], .ca 208 [(.e 0), (.e 5)] 2⟩, ⟨[], [], .nop⟩, ⟨[], [], .nop⟩, ⟨[], [], .nop⟩, ⟨[], [], .nop⟩, ⟨[], [], .nop⟩] [some 0, none, none, none, some 4, none, some 14, some 15, none, none, none, none, none, none])
    ((.seq ((.seq (.reg [⟨[], [], .nop⟩, ⟨[], [], .bi .lss (.e 7) (.c (.n 0))⟩, ⟨[], [], .nop⟩, ⟨[], [(14, false)], .cy (.e 7)⟩, ⟨[], [(14, false)], .cy (.e 0)⟩, ⟨[], [(14, false)], .sn (.e 16)⟩, ⟨[], [(14, false)], .bi .geq (.e 15) (.e 17)⟩, ⟨[], [], .pk (.e 14) (.c (.b true)) (.e 18)⟩, ⟨[], [], .nop⟩, ⟨[], [(19, false)], .cy (.e 0)⟩, ⟨[], [(19, false)], .cy (.e 7)⟩, ⟨[], [(19, false)], .sx (.e 20) (.e 21)⟩, ⟨[], [(19, false)], .bi .neq (.e 22) (.c (.y 41))⟩, ⟨[], [], .pk (.e 19) (.c (.b true)) (.e 23)⟩] [none, none, none, none, some 4, none, some 6, some 7, none, none, none, none, none, some 24])
    (.cond 13 ((.seq (.reg [⟨[], [], .cs .v .z⟩, ⟨[], [], .cs .v (.n (-1))⟩] [none, none, some 14, some 15, none, none, none, none, none, none, none, none, none, none])
     (.ret))) (.skip))))
    ((.seq (.reg [⟨[], [], .nop⟩, ⟨[], [], .nop⟩, ⟨[], [], .bg 0 [((.e 4), 0), ((.e 6), 0)]⟩, ⟨[], [], .bp (.e 14)⟩, ⟨[], [], .nop⟩, ⟨[], [], .bi .add (.e 7) (.c (.n 1))⟩, ⟨[], [], .nop⟩, ⟨[], [], .nop⟩] [none, none, some 15, some 16, none, none, none, none, none, none, none, none, none, none])
    (.ret))))))))))) (.skip))))))))))
 ((.seq (.reg [⟨[], [], .cs .v .z⟩, ⟨[], [], .cs .v (.n (-1))⟩] [none, none, some 14, some 15, none, none, none, none, none, none, none, none, none, none])
 (.ret))))))))⟩

/-- loop.example/g03401/impl.treeOfPath -/
def ir_impl_treeOfPath : IF := ⟨[], 1, 6, [1],
 (.seq (.reg [⟨[], [], .cs .v .z⟩] [some 0, none, none, none, none, none])
 ((.seq (.reg [⟨[], [], .nop⟩, ⟨[], [], .ca 519 [(.e 0)] 3⟩, ⟨[], [], .nop⟩, ⟨[], [], .nop⟩, ⟨[], [], .nop⟩, ⟨[], [], .nop⟩, ⟨[], [], .nop⟩, ⟨[], [], .nop⟩, ⟨[], [], .nop⟩] [none, none, some 6, some 7, some 8, none])
 ((.seq ((.seq (.reg [⟨[], [], .nop⟩, ⟨[], [], .un .not (.e 4)⟩] [none, none, some 2, some 3, none, some 6])
 (.cond 5 ((.seq (.reg [⟨[], [], .cs .v .z⟩] [none, some 6, none, none, none, none])
  (.ret))) (.skip))))
 ((.seq (.reg [⟨[], [], .nop⟩, ⟨[], [], .ca 514 [(.e 2)] 1⟩, ⟨[], [], .nop⟩, ⟨[], [], .ca 514 [(.e 3)] 1⟩, ⟨[], [], .bg 0 [((.e 6), 0), ((.e 7), 0)]⟩, ⟨[], [], .bp (.e 8)⟩, ⟨[], [], .nop⟩] [none, some 9, none, none, none, none])
 (.ret))))))))⟩

end Go.Cat

namespace Go.Cat
/-- loop.example/g03401/impl.FormatDiagonals -/
def ir_impl_FormatDiagonals : IF := ⟨[], 1, 11, [1],
 (.seq (.reg [⟨[], [], .cs .v (.s [])⟩] [some 0, none, none, none, none, none, none, none, none, none, none])
 ((.seq ((.seq (.reg [⟨[], [], .nop⟩, ⟨[], [], .ln (.e 0) []⟩, ⟨[], [], .bi .eql (.e 11) (.c (.n 0))⟩] [some 0, none, none, none, some 12, none, none, none, none, none, none])
 (.cond 4 ((.seq (.reg [⟨[], [], .cs .v (.s [110, 111, 110, 101])⟩] [none, some 11, none, none, none, none, none, none, none, none, none])
  (.ret))) (.skip))))
 ((.seq ((.seq (.reg [⟨[], [], .nop⟩, ⟨[], [], .ln (.e 0) []⟩, ⟨[], [], .bi .gtr (.e 11) (.c (.n 20))⟩] [some 0, none, none, none, none, some 12, none, none, none, none, none])
 (.cond 5 ((.seq (.reg [⟨[], [], .cs .v (.s [])⟩] [none, some 11, none, none, none, none, none, none, none, none, none])
  (.ret))) (.skip))))
 ((.seq (.reg [⟨[], [], .li (.o .v) []⟩, ⟨[], [], .nop⟩] [some 0, none, some 11, none, none, none, none, none, none, none, none])
 ((.seq ((.seq (.reg [⟨[], [], .nop⟩, ⟨[], [], .ln (.e 0) []⟩, ⟨[], [], .cs .v (.n 0)⟩] [none, none, some 2, none, none, none, some 0, some 11, some 12, none, none])
 (.block 0 (.loop ((.seq (.reg [⟨[], [], .bi .lss (.e 8) (.e 7)⟩] [none, none, some 2, none, none, none, some 6, some 7, some 8, some 11, none])
   ((.seq (.cond 9 (.skip) (.exit 0))
   ((.seq (.block 1 ((.seq (.reg [⟨[], [], .ix (.e 6) [] (.e 8)⟩, ⟨[], [], .nop⟩, ⟨[], [], .nop⟩] [none, none, some 2, some 11, none, none, some 6, some 7, some 8, none, none])
    ((.seq ((.seq (.reg [⟨[], [], .nop⟩, ⟨[], [], .ln (.e 3) []⟩, ⟨[], [], .bi .neq (.e 11) (.c (.n 2))⟩, ⟨[], [], .nop⟩, ⟨[], [(12, false)], .nop⟩, ⟨[], [(12, false)], .iy (.e 3) (.c (.n 0))⟩, ⟨[], [(12, false)], .nop⟩, ⟨[], [(12, false)], .ca 23 [(.e 13), (.c (.n 0)), (.c (.n 9))] 1⟩, ⟨[], [(12, false)], .un .not (.e 14)⟩, ⟨[], [], .pk (.e 12) (.c (.b true)) (.e 15)⟩, ⟨[], [], .nop⟩, ⟨[], [(16, false)], .nop⟩, ⟨[], [(16, false)], .iy (.e 3) (.c (.n 1))⟩, ⟨[], [(16, false)], .nop⟩, ⟨[], [(16, false)], .ca 23 [(.e 17), (.c (.n 0)), (.c (.n 9))] 1⟩, ⟨[], [(16, false)], .un .not (.e 18)⟩, ⟨[], [], .pk (.e 16) (.c (.b true)) (.e 19)⟩] [none, none, some 2, some 3, none, none, some 6, some 7, some 8, none, some 20])
    (.cond 10 ((.seq (.reg [⟨[], [], .cs .v (.s [])⟩] [none, some 11, none, none, none, none, none, none, none, none, none])
     (.ret))) (.skip))))
    (.reg [⟨[], [], .nop⟩, ⟨[], [], .nop⟩, ⟨[], [], .iy (.e 3) (.c (.n 0))⟩, ⟨[], [], .nop⟩, ⟨[], [], .ca 143 [(.e 11)] 1⟩, ⟨[], [], .nop⟩, ⟨[], [], .iy (.e 3) (.c (.n 1))⟩, ⟨[], [], .nop⟩, ⟨[], [], .ca 143 [(.e 13)] 1⟩, ⟨[], [], .bi .add (.e 12) (.e 14)⟩, ⟨[], [], .li (.o .v) [(.e 15)]⟩, ⟨[], [], .ap false (.e 2) (.e 16)⟩, ⟨[], [], .nop⟩] [none, none, some 17, none, none, none, some 6, some 7, some 8, none, none]))))))
   (.reg [⟨[], [], .bi .add (.e 8) (.c (.n 1))⟩, ⟨[], [], .nop⟩] [none, none, some 2, none, none, none, some 6, some 7, some 11, none, none])))))))))))
 ((.seq (.reg [⟨[], [], .nop⟩, ⟨[], [], .ca 184 [(.e 2), (.c (.s [32]))] 1⟩, ⟨[], [], .nop⟩] [none, some 11, none, none, none, none, none, none, none, none, none])
 (.ret))))))))))))⟩

/-- loop.example/g03401/impl.TriangulationOf -/
def ir_impl_TriangulationOf : IF := ⟨[], 1, 7, [1, 2],
 (.seq (.reg [⟨[], [], .cs (.o .v) (.l [])⟩, ⟨[], [], .cs .v (.b false)⟩] [some 0, none, none, none, none, none, none])
 ((.seq (.reg [⟨[], [], .nop⟩, ⟨[], [], .ca 194 [(.e 0)] 2⟩, ⟨[], [], .nop⟩, ⟨[], [], .nop⟩, ⟨[], [], .nop⟩, ⟨[], [], .nop⟩, ⟨[], [], .nop⟩] [none, none, none, some 7, some 8, none, none])
 ((.seq ((.seq (.reg [⟨[], [], .nop⟩, ⟨[], [], .un .not (.e 4)⟩] [none, none, none, some 3, none, none, some 7])
 (.cond 6 ((.seq (.reg [⟨[], [], .li (.o .v) []⟩, ⟨[], [], .nop⟩, ⟨[], [], .cs .v (.b false)⟩] [none, some 7, some 8, none, none, none, none])
  (.ret))) (.skip))))
 ((.seq (.reg [⟨[], [], .nop⟩, ⟨[], [], .nop⟩, ⟨[], [], .ca 197 [(.e 3)] 1⟩, ⟨[], [], .bi .add (.e 7) (.c (.n 1))⟩, ⟨[], [], .li (.o .v) []⟩, ⟨[], [], .li (.o .v) []⟩, ⟨[], [], .ca 541 [(.e 3), (.c (.n 0)), (.e 8), (.e 9), (.e 10)] 2⟩, ⟨[], [], .nop⟩, ⟨[], [], .nop⟩, ⟨[], [], .nop⟩, ⟨[], [], .nop⟩, ⟨[], [], .nop⟩] [none, none, none, none, none, some 12, none])
 ((.seq (.reg [⟨[], [], .nop⟩, ⟨[], [], .ca 363 [(.e 5), (.c (.f 364 []))] 1⟩] [none, none, none, none, none, some 7, none])
 ((.seq (.reg [⟨[], [], .nop⟩, ⟨[], [], .nop⟩, ⟨[], [], .cs .v (.b true)⟩] [none, some 5, some 7, none, none, none, none])
 (.ret))))))))))))⟩

end Go.Cat

namespace Go.Cat
/-- loop.example/g03401/impl.BlocksOf -/
def ir_impl_BlocksOf : IF := ⟨[], 1, 11, [1],
 (.seq (.reg [⟨[], [], .cs .v (.l [])⟩] [some 0, none, none, none, none, none, none, none, none, none, none])
 ((.seq (.reg [⟨[], [], .li (.o (.o .v)) []⟩, ⟨[], [], .nop⟩] [some 0, none, some 11, none, none, none, none, none, none, none, none])
 ((.seq ((.seq (.reg [⟨[], [], .nop⟩, ⟨[], [], .ca 478 [(.e 0)] 1⟩, ⟨[], [], .un .not (.e 11)⟩] [some 0, none, some 2, none, none, some 12, none, none, none, none, none])
 (.cond 5 ((.seq (.reg [⟨[], [], .nop⟩, ⟨[], [], .nop⟩] [none, some 2, none, none, none, none, none, none, none, none, none])
  (.ret))) (.skip))))
 ((.seq ((.seq (.reg [⟨[], [], .nop⟩, ⟨[], [], .ln (.e 0) []⟩, ⟨[], [], .cs .v (.n 0)⟩] [none, none, some 2, none, none, none, some 0, some 11, some 12, none, none])
 (.block 0 (.loop ((.seq (.reg [⟨[], [], .bi .lss (.e 8) (.e 7)⟩] [none, none, some 2, none, none, none, some 6, some 7, some 8, some 11, none])
   ((.seq (.cond 9 (.skip) (.exit 0))
   ((.seq (.block 1 ((.seq (.reg [⟨[], [], .nop⟩, ⟨[], [], .iy (.e 6) (.e 8)⟩, ⟨[], [], .nop⟩, ⟨[], [], .nop⟩, ⟨[], [], .nop⟩] [none, none, some 2, some 8, some 11, none, some 6, some 7, some 8, none, none])
    ((.seq ((.seq (.reg [⟨[], [], .nop⟩, ⟨[], [], .nop⟩, ⟨[], [], .ln (.e 2) []⟩, ⟨[], [], .bi .eql (.e 4) (.e 11)⟩] [none, none, some 2, some 3, some 4, none, some 6, some 7, some 8, none, some 12])
    (.cond 10 (.reg [⟨[], [], .nop⟩, ⟨[], [], .li (.o .v) []⟩, ⟨[], [], .li (.o (.o .v)) [(.e 11)]⟩, ⟨[], [], .ap false (.e 2) (.e 12)⟩, ⟨[], [], .nop⟩] [none, none, some 13, some 3, some 4, none, some 6, some 7, some 8, none, none]) (.skip))))
    (.reg [⟨[], [], .ln (.e 2) []⟩, ⟨[], [], .nop⟩, ⟨[], [], .nop⟩, ⟨[], [], .nop⟩, ⟨[], [], .nop⟩, ⟨[], [], .ix (.e 2) [] (.e 4)⟩, ⟨[], [], .sp 2 [.e 4] 1⟩, ⟨[], [], .nop⟩, ⟨[], [], .li (.o .v) [(.e 3)]⟩, ⟨[], [], .ap false (.e 13) (.e 15)⟩, ⟨[], [], .ix (.e 2) [] (.e 4)⟩, ⟨[], [], .up 14 [.e 4] (.e 16)⟩] [none, none, some 18, none, none, none, some 6, some 7, some 8, none, none]))))))
   (.reg [⟨[], [], .bi .add (.e 8) (.c (.n 1))⟩, ⟨[], [], .nop⟩] [none, none, some 2, none, none, none, some 6, some 7, some 11, none, none])))))))))))
 ((.seq (.reg [⟨[], [], .nop⟩, ⟨[], [], .nop⟩] [none, some 2, none, none, none, none, none, none, none, none, none])
 (.ret))))))))))⟩

/-- loop.example/g03401/impl.FormatPartition -/
def ir_impl_FormatPartition : IF := ⟨[], 1, 14, [1],
 (.seq (.reg [⟨[], [], .cs .v (.s [])⟩] [some 0, none, none, none, none, none, none, none, none, none, none, none, none, none])
 ((.seq (.reg [⟨[], [], .li (.o .v) []⟩, ⟨[], [], .nop⟩] [some 0, none, some 14, none, none, none, none, none, none, none, none, none, none, none])
 ((.seq ((.seq (.reg [⟨[], [], .nop⟩, ⟨[], [], .ca 479 [(.e 0)] 1⟩, ⟨[], [], .ln (.e 14) []⟩, ⟨[], [], .cs .v (.n 0)⟩] [none, none, some 2, none, none, none, some 14, some 15, some 16, none, none, none, none, none])
 (.block 0 (.loop ((.seq (.reg [⟨[], [], .bi .lss (.e 8) (.e 7)⟩] [none, none, some 2, none, none, none, some 6, some 7, some 8, some 14, none, none, none, none])
   ((.seq (.cond 9 (.skip) (.exit 0))
   ((.seq (.block 1 ((.seq (.reg [⟨[], [], .ix (.e 6) [] (.e 8)⟩, ⟨[], [], .nop⟩, ⟨[], [], .nop⟩] [none, none, some 2, some 14, none, none, some 6, some 7, some 8, none, none, none, none, none])
    ((.seq (.reg [⟨[], [], .cs .v (.s [])⟩] [none, none, some 2, some 3, some 14, none, some 6, some 7, some 8, none, none, none, none, none])
    ((.seq ((.seq (.reg [⟨[], [], .nop⟩, ⟨[], [], .ln (.e 3) []⟩, ⟨[], [], .cs .v (.n 0)⟩] [none, none, some 2, none, some 4, none, some 6, some 7, some 8, none, some 3, some 14, some 15, none])
    (.block 2 (.loop ((.seq (.reg [⟨[], [], .bi .lss (.e 12) (.e 11)⟩] [none, none, some 2, none, some 4, none, some 6, some 7, some 8, none, some 10, some 11, some 12, some 14])
      ((.seq (.cond 13 (.skip) (.exit 2))
      ((.seq (.block 3 ((.seq (.reg [⟨[], [], .ix (.e 10) [] (.e 12)⟩, ⟨[], [], .nop⟩, ⟨[], [], .nop⟩] [none, none, some 2, none, some 4, some 14, some 6, some 7, some 8, none, some 10, some 11, some 12, none])
       (.reg [⟨[], [], .nop⟩, ⟨[], [], .nop⟩, ⟨[], [], .bi .add (.e 5) (.c (.n 1))⟩, ⟨[], [], .ca 143 [(.e 14)] 1⟩, ⟨[], [], .bi .add (.e 4) (.e 15)⟩, ⟨[], [], .nop⟩] [none, none, some 2, none, some 16, none, some 6, some 7, some 8, none, some 10, some 11, some 12, none]))))
      (.reg [⟨[], [], .bi .add (.e 12) (.c (.n 1))⟩, ⟨[], [], .nop⟩] [none, none, some 2, none, some 4, none, some 6, some 7, some 8, none, some 10, some 11, some 14, none])))))))))))
    (.reg [⟨[], [], .nop⟩, ⟨[], [], .nop⟩, ⟨[], [], .li (.o .v) [(.e 4)]⟩, ⟨[], [], .ap false (.e 2) (.e 14)⟩, ⟨[], [], .nop⟩] [none, none, some 15, none, none, none, some 6, some 7, some 8, none, none, none, none, none]))))))))
   (.reg [⟨[], [], .bi .add (.e 8) (.c (.n 1))⟩, ⟨[], [], .nop⟩] [none, none, some 2, none, none, none, some 6, some 7, some 14, none, none, none, none, none])))))))))))
 ((.seq (.reg [⟨[], [], .nop⟩, ⟨[], [], .ca 184 [(.e 2), (.c (.s [124]))] 1⟩, ⟨[], [], .nop⟩] [none, some 14, none, none, none, none, none, none, none, none, none, none, none, none])
 (.ret))))))))⟩

/-- loop.example/g03401/impl.IsPartition -/
def ir_impl_IsPartition : IF := ⟨[], 1, 10, [1],
 (.seq (.reg [⟨[], [], .cs .v (.b false)⟩] [some 0, none, none, none, none, none, none, none, none, none])
 ((.seq ((.seq (.reg [⟨[], [], .nop⟩, ⟨[], [], .ln (.e 0) []⟩, ⟨[], [], .bi .gtr (.e 10) (.c (.n 8))⟩] [some 0, none, none, none, some 11, none, none, none, none, none])
 (.cond 4 ((.seq (.reg [⟨[], [], .cs .v (.b false)⟩] [none, some 10, none, none, none, none, none, none, none, none])
  (.ret))) (.skip))))
 ((.seq (.reg [⟨[], [], .cs .v (.n 0)⟩] [some 0, none, some 10, none, none, none, none, none, none, none])
 ((.seq ((.seq (.reg [⟨[], [], .nop⟩, ⟨[], [], .ln (.e 0) []⟩, ⟨[], [], .cs .v (.n 0)⟩] [none, none, some 2, none, none, some 0, some 10, some 11, none, none])
 (.block 0 (.loop ((.seq (.reg [⟨[], [], .bi .lss (.e 7) (.e 6)⟩] [none, none, some 2, none, none, some 5, some 6, some 7, some 10, none])
   ((.seq (.cond 8 (.skip) (.exit 0))
   ((.seq (.block 1 ((.seq (.reg [⟨[], [], .iy (.e 5) (.e 7)⟩, ⟨[], [], .nop⟩, ⟨[], [], .nop⟩] [none, none, some 2, some 10, none, some 5, some 6, some 7, none, none])
    ((.seq ((.seq (.reg [⟨[], [], .nop⟩, ⟨[], [], .nop⟩, ⟨[], [], .ca 23 [(.e 3), (.c (.n 0)), (.e 2)] 1⟩, ⟨[], [], .un .not (.e 10)⟩] [none, none, some 2, some 3, none, some 5, some 6, some 7, none, some 11])
    (.cond 9 ((.seq (.reg [⟨[], [], .cs .v (.b false)⟩] [none, some 10, none, none, none, none, none, none, none, none])
     (.ret))) (.skip))))
    (.reg [⟨[], [], .nop⟩, ⟨[], [], .nop⟩, ⟨[], [], .bi .add (.e 3) (.c (.n 1))⟩, ⟨[], [], .mx (.e 2) (.e 10)⟩, ⟨[], [], .nop⟩] [none, none, some 11, none, none, some 5, some 6, some 7, none, none]))))))
   (.reg [⟨[], [], .bi .add (.e 7) (.c (.n 1))⟩, ⟨[], [], .nop⟩] [none, none, some 2, none, none, some 5, some 6, some 10, none, none])))))))))))
 ((.seq (.reg [⟨[], [], .cs .v (.b true)⟩] [none, some 10, none, none, none, none, none, none, none, none])
 (.ret))))))))))⟩

/-- loop.example/g03401/impl.PartitionOf -/
def ir_impl_PartitionOf : IF := ⟨[], 1, 14, [1, 2],
 (.seq (.reg [⟨[], [], .cs (.o .v) (.l [])⟩, ⟨[], [], .cs .v (.b false)⟩] [some 0, none, none, none, none, none, none, none, none, none, none, none, none, none])
 ((.seq ((.seq (.reg [⟨[], [], .nop⟩, ⟨[], [], .ca 67 [(.e 0)] 1⟩, ⟨[], [], .un .not (.e 14)⟩] [some 0, none, none, none, none, none, none, none, none, some 15, none, none, none, none])
 (.cond 9 ((.seq (.reg [⟨[], [], .li (.o .v) []⟩, ⟨[], [], .nop⟩, ⟨[], [], .cs .v (.b false)⟩] [none, some 14, some 15, none, none, none, none, none, none, none, none, none, none, none])
  (.ret))) (.skip))))
 ((.seq (.reg [⟨[], [], .nop⟩, ⟨[], [], .ca 373 [(.e 0)] 1⟩, ⟨[], [], .nop⟩] [some 0, none, none, some 14, none, none, none, none, none, none, none, none, none, none])
 ((.seq (.reg [⟨[], [], .nop⟩, ⟨[], [], .sn (.e 0)⟩, ⟨[], [], .mk (.n 0) (.e 14) (.e 14)⟩, ⟨[], [], .nop⟩] [some 0, none, none, some 3, some 15, none, none, none, none, none, none, none, none, none])
 ((.seq (.reg [⟨[], [], .cs .v (.n 0)⟩] [some 0, none, none, some 3, some 4, some 14, none, none, none, none, none, none, none, none])
 ((.seq ((.seq (.reg [⟨[], [], .cs .v (.n 1)⟩] [some 0, none, none, some 3, some 4, some 5, some 14, none, none, none, none, none, none, none])
 (.block 0 (.loop ((.seq ((.seq (.reg [⟨[], [], .nop⟩, ⟨[], [], .nop⟩, ⟨[], [], .sn (.e 0)⟩, ⟨[], [], .bi .lss (.e 6) (.e 14)⟩] [some 0, none, none, some 3, some 4, some 5, some 6, none, none, none, some 15, none, none, none])
   (.cond 10 (.skip) (.exit 0))))
   ((.seq (.block 1 ((.seq ((.seq (.reg [⟨[], [], .nop⟩, ⟨[], [], .nop⟩, ⟨[], [], .sx (.e 0) (.e 6)⟩, ⟨[], [], .bi .eql (.e 14) (.c (.y 100))⟩, ⟨[], [], .nop⟩, ⟨[], [(15, true)], .cy (.e 0)⟩, ⟨[], [(15, true)], .cy (.e 6)⟩, ⟨[], [(15, true)], .bi .sub (.e 17) (.c (.n 1))⟩, ⟨[], [(15, true)], .sx (.e 16) (.e 18)⟩, ⟨[], [(15, true)], .bi .eql (.e 19) (.c (.y 117))⟩, ⟨[], [], .pk (.e 15) (.e 20) (.c (.b false))⟩] [some 0, none, none, some 3, some 4, some 5, some 6, none, none, none, none, some 21, none, none])
    (.cond 11 (.reg [⟨[], [], .nop⟩, ⟨[], [], .bi .add (.e 5) (.c (.n 1))⟩, ⟨[], [], .nop⟩] [some 0, none, none, some 3, some 4, some 14, some 6, none, none, none, none, none, none, none]) (.skip))))
    (.reg [⟨[], [], .nop⟩, ⟨[], [], .nop⟩, ⟨[], [], .nop⟩, ⟨[], [], .ix (.e 4) [] (.e 6)⟩, ⟨[], [], .up 4 [.e 6] (.e 5)⟩] [some 0, none, none, some 3, some 15, some 5, some 6, none, none, none, none, none, none, none]))))
   (.reg [⟨[], [], .nop⟩, ⟨[], [], .bi .add (.e 6) (.c (.n 1))⟩, ⟨[], [], .nop⟩] [some 0, none, none, some 3, some 4, some 5, some 14, none, none, none, none, none, none, none])))))))))
 ((.seq (.reg [⟨[], [], .li (.o .v) []⟩, ⟨[], [], .nop⟩] [some 0, none, none, some 3, some 4, none, none, some 14, none, none, none, none, none, none])
 ((.seq ((.seq (.reg [⟨[], [], .cs .v (.n 0)⟩] [some 0, none, none, some 3, some 4, none, none, some 7, some 14, none, none, none, none, none])
 (.block 2 (.loop ((.seq ((.seq (.reg [⟨[], [], .nop⟩, ⟨[], [], .nop⟩, ⟨[], [], .sn (.e 0)⟩, ⟨[], [], .bi .lss (.e 8) (.e 14)⟩] [some 0, none, none, some 3, some 4, none, none, some 7, some 8, none, none, none, some 15, none])
   (.cond 12 (.skip) (.exit 2))))
   ((.seq (.block 3 ((.seq (.reg [⟨[], [], .nop⟩, ⟨[], [], .nop⟩, ⟨[], [], .sx (.e 0) (.e 8)⟩, ⟨[], [], .bi .eql (.e 14) (.c (.y 117))⟩] [some 0, none, none, some 3, some 4, none, none, some 7, some 8, none, none, none, none, some 15])
    (.cond 13 (.reg [⟨[], [], .nop⟩, ⟨[], [], .nop⟩, ⟨[], [], .nop⟩, ⟨[], [], .nop⟩, ⟨[], [], .ix (.e 3) [] (.e 8)⟩, ⟨[], [], .nop⟩, ⟨[], [], .ix (.e 4) [] (.e 14)⟩, ⟨[], [], .nop⟩, ⟨[], [], .li (.o .v) [(.e 15)]⟩, ⟨[], [], .ap false (.e 7) (.e 16)⟩, ⟨[], [], .nop⟩] [some 0, none, none, some 3, some 4, none, none, some 17, some 8, none, none, none, none, none]) (.skip)))))
   (.reg [⟨[], [], .nop⟩, ⟨[], [], .bi .add (.e 8) (.c (.n 1))⟩, ⟨[], [], .nop⟩] [some 0, none, none, some 3, some 4, none, none, some 7, some 14, none, none, none, none, none])))))))))
 ((.seq (.reg [⟨[], [], .nop⟩, ⟨[], [], .ca 475 [(.e 7)] 2⟩, ⟨[], [], .nop⟩, ⟨[], [], .nop⟩, ⟨[], [], .nop⟩, ⟨[], [], .nop⟩] [none, some 14, some 15, none, none, none, none, none, none, none, none, none, none, none])
 (.ret))))))))))))))))))⟩

/-- loop.example/g03401/impl.RenumberBlocks -/
def ir_impl_RenumberBlocks : IF := ⟨[], 1, 21, [1, 2],
 (.seq (.reg [⟨[], [], .cs (.o .v) (.l [])⟩, ⟨[], [], .cs .v (.b false)⟩] [some 0, none, none, none, none, none, none, none, none, none, none, none, none, none, none, none, none, none, none, none, none])
 ((.seq ((.seq (.reg [⟨[], [], .nop⟩, ⟨[], [], .ln (.e 0) []⟩, ⟨[], [], .bi .gtr (.e 21) (.c (.n 8))⟩] [some 0, none, none, none, none, none, none, none, none, none, some 22, none, none, none, none, none, none, none, none, none, none])
 (.cond 10 ((.seq (.reg [⟨[], [], .li (.o .v) []⟩, ⟨[], [], .nop⟩, ⟨[], [], .cs .v (.b false)⟩] [none, some 21, some 22, none, none, none, none, none, none, none, none, none, none, none, none, none, none, none, none, none, none])
  (.ret))) (.skip))))
 ((.seq (.reg [⟨[], [], .li (.o .v) []⟩, ⟨[], [], .nop⟩] [some 0, none, none, some 21, none, none, none, none, none, none, none, none, none, none, none, none, none, none, none, none, none])
 ((.seq (.reg [⟨[], [], .cs .v (.n 0)⟩] [some 0, none, none, some 3, some 21, none, none, none, none, none, none, none, none, none, none, none, none, none, none, none, none])
 ((.seq ((.seq (.reg [⟨[], [], .nop⟩, ⟨[], [], .ln (.e 0) []⟩, ⟨[], [], .cs .v (.n 0)⟩] [some 0, none, none, some 3, some 4, none, none, none, none, none, none, some 0, some 21, some 22, none, none, none, none, none, none, none])
 (.block 0 (.loop ((.seq (.reg [⟨[], [], .bi .lss (.e 13) (.e 12)⟩] [some 0, none, none, some 3, some 4, none, none, none, none, none, none, some 11, some 12, some 13, some 21, none, none, none, none, none, none])
   ((.seq (.cond 14 (.skip) (.exit 0))
   ((.seq (.block 1 ((.seq (.reg [⟨[], [], .nop⟩, ⟨[], [], .iy (.e 11) (.e 13)⟩, ⟨[], [], .nop⟩, ⟨[], [], .nop⟩, ⟨[], [], .nop⟩] [some 0, none, none, some 3, some 4, some 13, some 21, none, none, none, none, some 11, some 12, some 13, none, none, none, none, none, none, none])
    ((.seq (.reg [⟨[], [], .nop⟩, ⟨[], [], .nop⟩] [some 0, none, none, some 3, some 4, some 5, some 6, some 4, none, none, none, some 11, some 12, some 13, none, none, none, none, none, none, none])
    ((.seq ((.seq (.reg [⟨[], [], .nop⟩, ⟨[], [], .nop⟩, ⟨[], [], .sb false (.e 0) none (some (.e 5))⟩, ⟨[], [], .ln (.e 21) []⟩, ⟨[], [], .cs .v (.n 0)⟩] [some 0, none, none, some 3, some 4, none, some 6, some 7, none, none, none, some 11, some 12, some 13, none, some 21, some 22, some 23, none, none, none])
    (.block 2 (.loop ((.seq (.reg [⟨[], [], .bi .lss (.e 17) (.e 16)⟩] [some 0, none, none, some 3, some 4, none, some 6, some 7, none, none, none, some 11, some 12, some 13, none, some 15, some 16, some 17, some 21, none, none])
      ((.seq (.cond 18 (.skip) (.exit 2))
      ((.seq (.block 3 ((.seq (.reg [⟨[], [], .nop⟩, ⟨[], [], .iy (.e 15) (.e 17)⟩, ⟨[], [], .nop⟩, ⟨[], [], .nop⟩, ⟨[], [], .nop⟩] [some 0, none, none, some 3, some 4, none, some 6, some 7, some 17, some 21, none, some 11, some 12, some 13, none, some 15, some 16, some 17, none, none, none])
       ((.seq (.reg [⟨[], [], .nop⟩, ⟨[], [], .nop⟩, ⟨[], [], .bi .eql (.e 6) (.e 9)⟩] [some 0, none, none, some 3, some 4, none, some 6, some 7, some 8, none, none, some 11, some 12, some 13, none, some 15, some 16, some 17, none, some 21, none])
       (.cond 19 ((.seq (.reg [⟨[], [], .nop⟩, ⟨[], [], .nop⟩, ⟨[], [], .ix (.e 3) [] (.e 8)⟩, ⟨[], [], .nop⟩, ⟨[], [], .nop⟩] [some 0, none, none, some 3, some 4, none, none, some 21, none, none, none, some 11, some 12, some 13, none, none, none, none, none, none, none])
        (.exit 2))) (.skip)))))))
      (.reg [⟨[], [], .bi .add (.e 17) (.c (.n 1))⟩, ⟨[], [], .nop⟩] [some 0, none, none, some 3, some 4, none, some 6, some 7, none, none, none, some 11, some 12, some 13, none, some 15, some 16, some 21, none, none, none])))))))))))
    ((.seq ((.seq (.reg [⟨[], [], .nop⟩, ⟨[], [], .nop⟩, ⟨[], [], .bi .eql (.e 7) (.e 4)⟩] [some 0, none, none, some 3, some 4, none, none, some 7, none, none, none, some 11, some 12, some 13, none, none, none, none, none, none, some 21])
    (.cond 20 (.reg [⟨[], [], .nop⟩, ⟨[], [], .bi .add (.e 4) (.c (.n 1))⟩, ⟨[], [], .nop⟩] [some 0, none, none, some 3, some 21, none, none, some 7, none, none, none, some 11, some 12, some 13, none, none, none, none, none, none, none]) (.skip))))
    (.reg [⟨[], [], .nop⟩, ⟨[], [], .nop⟩, ⟨[], [], .li (.o .v) [(.e 7)]⟩, ⟨[], [], .ap false (.e 3) (.e 21)⟩, ⟨[], [], .nop⟩] [some 0, none, none, some 22, some 4, none, none, none, none, none, none, some 11, some 12, some 13, none, none, none, none, none, none, none]))))))))))
   (.reg [⟨[], [], .bi .add (.e 13) (.c (.n 1))⟩, ⟨[], [], .nop⟩] [some 0, none, none, some 3, some 4, none, none, none, none, none, none, some 11, some 12, some 21, none, none, none, none, none, none, none])))))))))))
 ((.seq (.reg [⟨[], [], .nop⟩, ⟨[], [], .nop⟩, ⟨[], [], .cs .v (.b true)⟩] [none, some 3, some 21, none, none, none, none, none, none, none, none, none, none, none, none, none, none, none, none, none, none])
 (.ret))))))))))))⟩

end Go.Cat

namespace Go.Cat
/-- loop.example/g03401/impl.FormatMatching -/
def ir_impl_FormatMatching : IF := ⟨[], 1, 12, [1],
 (.seq (.reg [⟨[], [], .cs .v (.s [])⟩] [some 0, none, none, none, none, none, none, none, none, none, none, none])
 ((.seq ((.seq (.reg [⟨[], [], .nop⟩, ⟨[], [], .ca 380 [(.e 0)] 1⟩, ⟨[], [], .un .not (.e 12)⟩] [some 0, none, none, none, none, some 13, none, none, none, none, none, none])
 (.cond 5 ((.seq (.reg [⟨[], [], .cs .v (.s [])⟩] [none, some 12, none, none, none, none, none, none, none, none, none, none])
  (.ret))) (.skip))))
 ((.seq ((.seq (.reg [⟨[], [], .nop⟩, ⟨[], [], .ln (.e 0) []⟩, ⟨[], [], .bi .eql (.e 12) (.c (.n 0))⟩] [some 0, none, none, none, none, none, some 13, none, none, none, none, none])
 (.cond 6 ((.seq (.reg [⟨[], [], .cs .v (.s [110, 111, 110, 101])⟩] [none, some 12, none, none, none, none, none, none, none, none, none, none])
  (.ret))) (.skip))))
 ((.seq (.reg [⟨[], [], .li (.o .v) []⟩, ⟨[], [], .nop⟩] [some 0, none, some 12, none, none, none, none, none, none, none, none, none])
 ((.seq ((.seq (.reg [⟨[], [], .nop⟩, ⟨[], [], .ln (.e 0) []⟩, ⟨[], [], .cs .v (.n 0)⟩] [none, none, some 2, none, none, none, none, some 0, some 12, some 13, none, none])
 (.block 0 (.loop ((.seq (.reg [⟨[], [], .bi .lss (.e 9) (.e 8)⟩] [none, none, some 2, none, none, none, none, some 7, some 8, some 9, some 12, none])
   ((.seq (.cond 10 (.skip) (.exit 0))
   ((.seq (.block 1 ((.seq (.reg [⟨[], [], .nop⟩, ⟨[], [], .iy (.e 7) (.e 9)⟩, ⟨[], [], .nop⟩, ⟨[], [], .nop⟩, ⟨[], [], .nop⟩] [none, none, some 2, some 9, some 12, none, none, some 7, some 8, some 9, none, none])
    ((.seq (.reg [⟨[], [], .nop⟩, ⟨[], [], .nop⟩, ⟨[], [], .bi .lss (.e 3) (.e 4)⟩] [none, none, some 2, some 3, some 4, none, none, some 7, some 8, some 9, none, some 12])
    (.cond 11 (.reg [⟨[], [], .nop⟩, ⟨[], [], .nop⟩, ⟨[], [], .ca 143 [(.e 3)] 1⟩, ⟨[], [], .bi .add (.e 12) (.c (.s [45]))⟩, ⟨[], [], .nop⟩, ⟨[], [], .ca 143 [(.e 4)] 1⟩, ⟨[], [], .bi .add (.e 13) (.e 14)⟩, ⟨[], [], .li (.o .v) [(.e 15)]⟩, ⟨[], [], .ap false (.e 2) (.e 16)⟩, ⟨[], [], .nop⟩] [none, none, some 17, none, none, none, none, some 7, some 8, some 9, none, none]) (.skip)))))))
   (.reg [⟨[], [], .bi .add (.e 9) (.c (.n 1))⟩, ⟨[], [], .nop⟩] [none, none, some 2, none, none, none, none, some 7, some 8, some 12, none, none])))))))))))
 ((.seq (.reg [⟨[], [], .nop⟩, ⟨[], [], .ca 184 [(.e 2), (.c (.s [32]))] 1⟩, ⟨[], [], .nop⟩] [none, some 12, none, none, none, none, none, none, none, none, none, none])
 (.ret))))))))))))⟩

/-- loop.example/g03401/impl.IsMatching -/
def ir_impl_IsMatching : IF := ⟨[], 1, 10, [1],
 (.seq (.reg [⟨[], [], .cs .v (.b false)⟩] [some 0, none, none, none, none, none, none, none, none, none])
 ((.seq ((.seq (.reg [⟨[], [], .nop⟩, ⟨[], [], .ln (.e 0) []⟩, ⟨[], [], .bi .gtr (.e 10) (.c (.n 16))⟩] [some 0, none, none, none, some 11, none, none, none, none, none])
 (.cond 4 ((.seq (.reg [⟨[], [], .cs .v (.b false)⟩] [none, some 10, none, none, none, none, none, none, none, none])
  (.ret))) (.skip))))
 ((.seq ((.seq (.reg [⟨[], [], .nop⟩, ⟨[], [], .ln (.e 0) []⟩, ⟨[], [], .cs .v (.n 0)⟩] [some 0, none, none, none, none, some 0, some 10, some 11, none, none])
 (.block 0 (.loop ((.seq (.reg [⟨[], [], .bi .lss (.e 7) (.e 6)⟩] [some 0, none, none, none, none, some 5, some 6, some 7, some 10, none])
   ((.seq (.cond 8 (.skip) (.exit 0))
   ((.seq (.block 1 ((.seq (.reg [⟨[], [], .nop⟩, ⟨[], [], .iy (.e 5) (.e 7)⟩, ⟨[], [], .nop⟩, ⟨[], [], .nop⟩, ⟨[], [], .nop⟩] [some 0, none, some 7, some 10, none, some 5, some 6, some 7, none, none])
    ((.seq (.reg [⟨[], [], .nop⟩, ⟨[], [], .nop⟩, ⟨[], [], .ln (.e 0) []⟩, ⟨[], [], .bi .sub (.e 10) (.c (.n 1))⟩, ⟨[], [], .ca 23 [(.e 3), (.c (.n 0)), (.e 11)] 1⟩, ⟨[], [], .un .not (.e 12)⟩, ⟨[], [], .nop⟩, ⟨[], [(13, false)], .cy (.e 3)⟩, ⟨[], [(13, false)], .cy (.e 2)⟩, ⟨[], [(13, false)], .bi .eql (.e 14) (.e 15)⟩, ⟨[], [], .pk (.e 13) (.c (.b true)) (.e 16)⟩, ⟨[], [], .nop⟩, ⟨[], [(17, false)], .nop⟩, ⟨[], [(17, false)], .cy (.e 3)⟩, ⟨[], [(17, false)], .iy (.e 0) (.e 18)⟩, ⟨[], [(17, false)], .nop⟩, ⟨[], [(17, false)], .cy (.e 2)⟩, ⟨[], [(17, false)], .bi .neq (.e 19) (.e 20)⟩, ⟨[], [], .pk (.e 17) (.c (.b true)) (.e 21)⟩] [some 0, none, none, none, none, some 5, some 6, some 7, none, some 22])
    (.cond 9 ((.seq (.reg [⟨[], [], .cs .v (.b false)⟩] [none, some 10, none, none, none, none, none, none, none, none])
     (.ret))) (.skip)))))))
   (.reg [⟨[], [], .bi .add (.e 7) (.c (.n 1))⟩, ⟨[], [], .nop⟩] [some 0, none, none, none, none, some 5, some 6, some 10, none, none])))))))))))
 ((.seq (.reg [⟨[], [], .cs .v (.b true)⟩] [none, some 10, none, none, none, none, none, none, none, none])
 (.ret))))))))⟩

end Go.Cat

namespace Go.Cat
/-- loop.example/g03401/impl.PermutationOf -/
def ir_impl_PermutationOf : IF := ⟨[], 1, 11, [1, 2],
 (.seq (.reg [⟨[], [], .cs (.o .v) (.l [])⟩, ⟨[], [], .cs .v (.b false)⟩] [some 0, none, none, none, none, none, none, none, none, none, none])
 ((.seq ((.seq (.reg [⟨[], [], .nop⟩, ⟨[], [], .ca 67 [(.e 0)] 1⟩, ⟨[], [], .un .not (.e 11)⟩] [some 0, none, none, none, none, none, none, none, some 12, none, none])
 (.cond 8 ((.seq (.reg [⟨[], [], .li (.o .v) []⟩, ⟨[], [], .nop⟩, ⟨[], [], .cs .v (.b false)⟩] [none, some 11, some 12, none, none, none, none, none, none, none, none])
  (.ret))) (.skip))))
 ((.seq (.reg [⟨[], [], .nop⟩, ⟨[], [], .sn (.e 0)⟩, ⟨[], [], .bi .quo (.e 11) (.c (.n 2))⟩, ⟨[], [], .mk (.n 0) (.e 12) (.e 12)⟩, ⟨[], [], .nop⟩] [some 0, none, none, some 13, none, none, none, none, none, none, none])
 ((.seq (.reg [⟨[], [], .li (.o .v) []⟩, ⟨[], [], .nop⟩] [some 0, none, none, some 3, some 11, none, none, none, none, none, none])
 ((.seq (.reg [⟨[], [], .cs .v (.n 0)⟩, ⟨[], [], .cs .v (.n 0)⟩] [some 0, none, none, some 3, some 4, some 11, some 12, none, none, none, none])
 ((.seq ((.seq (.reg [⟨[], [], .cs .v (.n 0)⟩] [some 0, none, none, some 3, some 4, some 5, some 6, some 11, none, none, none])
 (.block 0 (.loop ((.seq ((.seq (.reg [⟨[], [], .nop⟩, ⟨[], [], .nop⟩, ⟨[], [], .sn (.e 0)⟩, ⟨[], [], .bi .lss (.e 7) (.e 11)⟩] [some 0, none, none, some 3, some 4, some 5, some 6, some 7, none, some 12, none])
   (.cond 9 (.skip) (.exit 0))))
   ((.seq (.block 1 ((.seq ((.seq (.reg [⟨[], [], .nop⟩, ⟨[], [], .nop⟩, ⟨[], [], .sx (.e 0) (.e 7)⟩, ⟨[], [], .bi .eql (.e 11) (.c (.y 117))⟩] [some 0, none, none, some 3, some 4, some 5, some 6, some 7, none, none, some 12])
    (.cond 10 ((.seq (.reg [⟨[], [], .nop⟩, ⟨[], [], .nop⟩, ⟨[], [], .li (.o .v) [(.e 5)]⟩, ⟨[], [], .ap false (.e 4) (.e 11)⟩, ⟨[], [], .nop⟩] [some 0, none, none, some 3, some 12, some 5, some 6, some 7, none, none, none])
     ((.seq (.reg [⟨[], [], .nop⟩, ⟨[], [], .bi .add (.e 5) (.c (.n 1))⟩, ⟨[], [], .nop⟩] [some 0, none, none, some 3, some 4, some 11, some 6, some 7, none, none, none])
     (.exit 1))))) (.skip))))
    ((.seq (.reg [⟨[], [], .nop⟩, ⟨[], [], .nop⟩, ⟨[], [], .nop⟩, ⟨[], [], .ln (.e 4) []⟩, ⟨[], [], .bi .sub (.e 11) (.c (.n 1))⟩, ⟨[], [], .ix (.e 4) [] (.e 12)⟩, ⟨[], [], .nop⟩, ⟨[], [], .nop⟩, ⟨[], [], .ix (.e 3) [] (.e 13)⟩, ⟨[], [], .up 3 [.e 13] (.e 6)⟩] [some 0, none, none, some 15, some 4, some 5, some 6, some 7, none, none, none])
    ((.seq (.reg [⟨[], [], .nop⟩, ⟨[], [], .nop⟩, ⟨[], [], .ln (.e 4) []⟩, ⟨[], [], .bi .sub (.e 11) (.c (.n 1))⟩, ⟨[], [], .sb true (.e 4) none (some (.e 12))⟩, ⟨[], [], .nop⟩] [some 0, none, none, some 3, some 13, some 5, some 6, some 7, none, none, none])
    (.reg [⟨[], [], .nop⟩, ⟨[], [], .bi .add (.e 6) (.c (.n 1))⟩, ⟨[], [], .nop⟩] [some 0, none, none, some 3, some 4, some 5, some 11, some 7, none, none, none]))))))))
   (.reg [⟨[], [], .nop⟩, ⟨[], [], .bi .add (.e 7) (.c (.n 1))⟩, ⟨[], [], .nop⟩] [some 0, none, none, some 3, some 4, some 5, some 6, some 11, none, none, none])))))))))
 ((.seq (.reg [⟨[], [], .nop⟩, ⟨[], [], .nop⟩, ⟨[], [], .cs .v (.b true)⟩] [none, some 3, some 11, none, none, none, none, none, none, none, none])
 (.ret))))))))))))))⟩

end Go.Cat

namespace Go.Cat
/-- loop.example/g03401/impl.ListOf -/
def ir_impl_ListOf : IF := ⟨[], 2, 13, [2, 3],
 (.seq (.reg [⟨[], [], .cs (.o .v) (.l [])⟩, ⟨[], [], .cs .v (.b false)⟩] [some 0, some 1, none, none, none, none, none, none, none, none, none, none, none])
 ((.seq (.reg [⟨[], [], .li (.o .v) []⟩, ⟨[], [], .nop⟩] [some 0, some 1, none, none, some 13, none, none, none, none, none, none, none, none])
 ((.seq ((.seq (.reg [⟨[], [], .nop⟩, ⟨[], [], .ca 524 [(.e 0), (.c (.s []))] 2⟩, ⟨[], [], .nop⟩, ⟨[], [], .nop⟩, ⟨[], [], .nop⟩, ⟨[], [], .nop⟩, ⟨[], [], .nop⟩] [some 0, some 1, none, none, some 4, some 14, none, none, none, none, none, none, none])
 ((.seq (.reg [⟨[], [], .nop⟩, ⟨[], [], .un .not (.e 5)⟩, ⟨[], [], .nop⟩, ⟨[], [(13, false)], .cy (.e 1)⟩, ⟨[], [(13, false)], .ca 23 [(.e 14), (.c (.n 0)), (.c (.n 6))] 1⟩, ⟨[], [(13, false)], .un .not (.e 15)⟩, ⟨[], [], .pk (.e 13) (.c (.b true)) (.e 16)⟩] [some 0, some 1, none, none, some 4, none, none, none, some 17, none, none, none, none])
 (.cond 8 ((.seq (.reg [⟨[], [], .nop⟩, ⟨[], [], .nop⟩, ⟨[], [], .cs .v (.b false)⟩] [none, none, some 4, some 13, none, none, none, none, none, none, none, none, none])
  (.ret))) (.skip))))))
 ((.seq ((.seq (.reg [⟨[], [], .nop⟩, ⟨[], [], .ca 279 [(.e 1)] 1⟩, ⟨[], [], .ln (.e 13) []⟩, ⟨[], [], .cs .v (.n 0)⟩] [some 0, none, none, none, some 4, none, none, none, none, some 13, some 14, some 15, none])
 (.block 0 (.loop ((.seq (.reg [⟨[], [], .bi .lss (.e 11) (.e 10)⟩] [some 0, none, none, none, some 4, none, none, none, none, some 9, some 10, some 11, some 13])
   ((.seq (.cond 12 (.skip) (.exit 0))
   ((.seq (.block 1 ((.seq (.reg [⟨[], [], .ix (.e 9) [] (.e 11)⟩, ⟨[], [], .nop⟩, ⟨[], [], .nop⟩] [some 0, none, none, none, some 4, none, some 13, none, none, some 9, some 10, some 11, none])
    ((.seq (.reg [⟨[], [], .nop⟩, ⟨[], [], .nop⟩, ⟨[], [], .ca 524 [(.e 0), (.e 6)] 2⟩, ⟨[], [], .nop⟩, ⟨[], [], .nop⟩, ⟨[], [], .nop⟩, ⟨[], [], .nop⟩, ⟨[], [], .nop⟩] [some 0, none, none, none, some 4, none, none, some 13, none, some 9, some 10, some 11, none])
    (.reg [⟨[], [], .nop⟩, ⟨[], [], .nop⟩, ⟨[], [], .li (.o .v) [(.e 7)]⟩, ⟨[], [], .ap false (.e 4) (.e 13)⟩, ⟨[], [], .nop⟩] [some 0, none, none, none, some 14, none, none, none, none, some 9, some 10, some 11, none]))))))
   (.reg [⟨[], [], .bi .add (.e 11) (.c (.n 1))⟩, ⟨[], [], .nop⟩] [some 0, none, none, none, some 4, none, none, none, none, some 9, some 10, some 13, none])))))))))))
 ((.seq (.reg [⟨[], [], .nop⟩, ⟨[], [], .nop⟩, ⟨[], [], .cs .v (.b true)⟩] [none, none, some 4, some 13, none, none, none, none, none, none, none, none, none])
 (.ret))))))))))⟩

/-- loop.example/g03401/impl.WriteAs -/
def ir_impl_WriteAs : IF := ⟨[], 2, 25, [2, 3],
 (.seq (.reg [⟨[], [], .cs .v (.s [])⟩, ⟨[], [], .cs .v (.b false)⟩] [some 0, some 1, none, none, none, none, none, none, none, none, none, none, none, none, none, none, none, none, none, none, none, none, none, none, none])
 ((.seq ((.seq (.reg [⟨[], [], .nop⟩, ⟨[], [], .ca 67 [(.e 1)] 1⟩, ⟨[], [], .un .not (.e 25)⟩] [some 0, some 1, none, none, none, none, none, none, none, none, some 26, none, none, none, none, none, none, none, none, none, none, none, none, none, none])
 (.cond 10 ((.seq (.reg [⟨[], [], .cs .v (.s [])⟩, ⟨[], [], .cs .v (.b false)⟩] [none, none, some 25, some 26, none, none, none, none, none, none, none, none, none, none, none, none, none, none, none, none, none, none, none, none, none])
  (.ret))) (.skip))))
 ((.seq ((.seq (.reg [⟨[], [], .nop⟩] [none, some 1, none, none, none, none, none, none, none, none, none, some 0, none, none, none, none, none, none, none, none, none, none, none, none, none])
 (.block 0 ((.seq (.reg [⟨[], [], .bi .eql (.e 11) (.c (.s [112, 97, 116, 104]))⟩, ⟨[], [], .nop⟩] [none, some 1, none, none, none, none, none, none, none, none, none, some 11, some 25, none, none, none, none, none, none, none, none, none, none, none, none])
  (.cond 12 ((.seq (.reg [⟨[], [], .nop⟩, ⟨[], [], .nop⟩, ⟨[], [], .cs .v (.b true)⟩] [none, none, some 1, some 25, none, none, none, none, none, none, none, none, none, none, none, none, none, none, none, none, none, none, none, none, none])
   (.ret))) ((.seq (.reg [⟨[], [], .bi .eql (.e 11) (.c (.s [98, 114, 97, 99, 107, 101, 116, 115]))⟩, ⟨[], [], .nop⟩] [none, some 1, none, none, none, none, none, none, none, none, none, some 11, none, some 25, none, none, none, none, none, none, none, none, none, none, none])
   (.cond 13 ((.seq (.reg [⟨[], [], .nop⟩, ⟨[], [], .ca 508 [(.e 1)] 2⟩, ⟨[], [], .nop⟩, ⟨[], [], .nop⟩, ⟨[], [], .nop⟩, ⟨[], [], .nop⟩] [none, none, some 25, some 26, none, none, none, none, none, none, none, none, none, none, none, none, none, none, none, none, none, none, none, none, none])
    (.ret))) ((.seq (.reg [⟨[], [], .bi .eql (.e 11) (.c (.s [112, 108, 97, 110, 101]))⟩, ⟨[], [], .nop⟩] [none, some 1, none, none, none, none, none, none, none, none, none, some 11, none, none, some 25, none, none, none, none, none, none, none, none, none, none])
    (.cond 14 ((.seq (.reg [⟨[], [], .nop⟩, ⟨[], [], .ca 510 [(.e 1)] 2⟩, ⟨[], [], .nop⟩, ⟨[], [], .nop⟩, ⟨[], [], .nop⟩, ⟨[], [], .nop⟩, ⟨[], [], .nop⟩] [none, none, none, none, some 25, none, none, none, none, none, none, none, none, none, none, none, none, none, none, none, none, none, none, none, none])
     ((.seq (.reg [⟨[], [], .nop⟩, ⟨[], [], .ca 534 [(.e 4)] 1⟩, ⟨[], [], .nop⟩, ⟨[], [], .cs .v (.b true)⟩] [none, none, some 25, some 26, none, none, none, none, none, none, none, none, none, none, none, none, none, none, none, none, none, none, none, none, none])
     (.ret))))) ((.seq (.reg [⟨[], [], .bi .eql (.e 11) (.c (.s [98, 105, 110, 97, 114, 121]))⟩, ⟨[], [], .nop⟩] [none, some 1, none, none, none, none, none, none, none, none, none, some 11, none, none, none, some 25, none, none, none, none, none, none, none, none, none])
     (.cond 15 ((.seq (.reg [⟨[], [], .nop⟩, ⟨[], [], .ca 535 [(.e 1)] 2⟩, ⟨[], [], .nop⟩, ⟨[], [], .nop⟩, ⟨[], [], .nop⟩, ⟨[], [], .nop⟩] [none, none, some 25, some 26, none, none, none, none, none, none, none, none, none, none, none, none, none, none, none, none, none, none, none, none, none])
      (.ret))) ((.seq (.reg [⟨[], [], .bi .eql (.e 11) (.c (.s [100, 105, 97, 103, 111, 110, 97, 108, 115]))⟩, ⟨[], [], .nop⟩] [none, some 1, none, none, none, none, none, none, none, none, none, some 11, none, none, none, none, some 25, none, none, none, none, none, none, none, none])
      (.cond 16 ((.seq (.reg [⟨[], [], .nop⟩, ⟨[], [], .ca 514 [(.e 1)] 1⟩, ⟨[], [], .ca 196 [(.e 25)] 1⟩, ⟨[], [], .ca 536 [(.e 26)] 2⟩, ⟨[], [], .nop⟩, ⟨[], [], .nop⟩, ⟨[], [], .nop⟩, ⟨[], [], .nop⟩, ⟨[], [], .nop⟩] [none, some 1, none, none, none, some 27, none, none, none, none, none, none, none, none, none, none, none, none, none, none, none, none, none, none, none])
       ((.seq (.reg [⟨[], [], .nop⟩, ⟨[], [], .sn (.e 1)⟩, ⟨[], [], .bi .quo (.e 25) (.c (.n 2))⟩, ⟨[], [], .bi .add (.e 26) (.c (.n 2))⟩, ⟨[], [], .ca 143 [(.e 27)] 1⟩, ⟨[], [], .bi .add (.e 28) (.c (.s [58, 32]))⟩, ⟨[], [], .nop⟩, ⟨[], [], .ca 354 [(.e 5)] 1⟩, ⟨[], [], .bi .add (.e 29) (.e 30)⟩, ⟨[], [], .nop⟩, ⟨[], [], .cs .v (.b true)⟩] [none, none, some 31, some 32, none, none, none, none, none, none, none, none, none, none, none, none, none, none, none, none, none, none, none, none, none])
       (.ret))))) ((.seq (.reg [⟨[], [], .bi .eql (.e 11) (.c (.s [112, 97, 114, 116, 105, 116, 105, 111, 110]))⟩, ⟨[], [], .nop⟩] [none, some 1, none, none, none, none, none, none, none, none, none, some 11, none, none, none, none, none, some 25, none, none, none, none, none, none, none])
       (.cond 17 ((.seq (.reg [⟨[], [], .nop⟩, ⟨[], [], .ca 503 [(.e 1)] 2⟩, ⟨[], [], .nop⟩, ⟨[], [], .nop⟩, ⟨[], [], .nop⟩, ⟨[], [], .nop⟩, ⟨[], [], .nop⟩] [none, none, none, none, none, none, some 25, none, none, none, none, none, none, none, none, none, none, none, none, none, none, none, none, none, none])
        ((.seq (.reg [⟨[], [], .nop⟩, ⟨[], [], .ca 537 [(.e 6)] 1⟩, ⟨[], [], .nop⟩, ⟨[], [], .cs .v (.b true)⟩] [none, none, some 25, some 26, none, none, none, none, none, none, none, none, none, none, none, none, none, none, none, none, none, none, none, none, none])
        (.ret))))) ((.seq (.reg [⟨[], [], .bi .eql (.e 11) (.c (.s [109, 97, 116, 99, 104, 105, 110, 103]))⟩, ⟨[], [], .nop⟩] [none, some 1, none, none, none, none, none, none, none, none, none, some 11, none, none, none, none, none, none, some 25, none, none, none, none, none, none])
        (.cond 18 ((.seq (.reg [⟨[], [], .nop⟩, ⟨[], [], .ca 373 [(.e 1)] 1⟩, ⟨[], [], .ca 538 [(.e 25)] 1⟩, ⟨[], [], .nop⟩, ⟨[], [], .cs .v (.b true)⟩] [none, none, some 26, some 27, none, none, none, none, none, none, none, none, none, none, none, none, none, none, none, none, none, none, none, none, none])
         (.ret))) ((.seq (.reg [⟨[], [], .bi .eql (.e 11) (.c (.s [112, 101, 114, 109, 117, 116, 97, 116, 105, 111, 110]))⟩, ⟨[], [], .nop⟩] [none, some 1, none, none, none, none, none, none, none, none, none, some 11, none, none, none, none, none, none, none, some 25, none, none, none, none, none])
         (.cond 19 ((.seq (.reg [⟨[], [], .nop⟩, ⟨[], [], .ca 539 [(.e 1)] 2⟩, ⟨[], [], .nop⟩, ⟨[], [], .nop⟩, ⟨[], [], .nop⟩, ⟨[], [], .nop⟩, ⟨[], [], .nop⟩] [none, none, none, none, none, none, none, some 25, none, none, none, none, none, none, none, none, none, none, none, none, none, none, none, none, none])
          ((.seq (.reg [⟨[], [], .cs .v (.s [])⟩] [none, none, none, none, none, none, none, some 7, some 25, none, none, none, none, none, none, none, none, none, none, none, none, none, none, none, none])
          ((.seq ((.seq (.reg [⟨[], [], .nop⟩, ⟨[], [], .ln (.e 7) []⟩, ⟨[], [], .cs .v (.n 0)⟩] [none, none, none, none, none, none, none, none, some 8, none, none, none, none, none, none, none, none, none, none, none, some 7, some 25, some 26, none, none])
          (.block 1 (.loop ((.seq (.reg [⟨[], [], .bi .lss (.e 22) (.e 21)⟩] [none, none, none, none, none, none, none, none, some 8, none, none, none, none, none, none, none, none, none, none, none, some 20, some 21, some 22, some 25, none])
            ((.seq (.cond 23 (.skip) (.exit 1))
            ((.seq (.block 2 ((.seq (.reg [⟨[], [], .ix (.e 20) [] (.e 22)⟩, ⟨[], [], .nop⟩, ⟨[], [], .nop⟩] [none, none, none, none, none, none, none, none, some 8, some 25, none, none, none, none, none, none, none, none, none, none, some 20, some 21, some 22, none, none])
             (.reg [⟨[], [], .nop⟩, ⟨[], [], .nop⟩, ⟨[], [], .bi .add (.e 9) (.c (.n 1))⟩, ⟨[], [], .ca 143 [(.e 25)] 1⟩, ⟨[], [], .bi .add (.e 8) (.e 26)⟩, ⟨[], [], .nop⟩] [none, none, none, none, none, none, none, none, some 27, none, none, none, none, none, none, none, none, none, none, none, some 20, some 21, some 22, none, none]))))
            (.reg [⟨[], [], .bi .add (.e 22) (.c (.n 1))⟩, ⟨[], [], .nop⟩] [none, none, none, none, none, none, none, none, some 8, none, none, none, none, none, none, none, none, none, none, none, some 20, some 21, some 25, none, none])))))))))))
          ((.seq (.reg [⟨[], [], .nop⟩, ⟨[], [], .nop⟩, ⟨[], [], .cs .v (.b true)⟩] [none, none, some 8, some 25, none, none, none, none, none, none, none, none, none, none, none, none, none, none, none, none, none, none, none, none, none])
          (.ret))))))))) ((.seq (.reg [⟨[], [], .bi .eql (.e 11) (.c (.s [114, 97, 110, 107]))⟩, ⟨[], [], .nop⟩] [none, some 1, none, none, none, none, none, none, none, none, none, none, none, none, none, none, none, none, none, none, none, none, none, none, some 25])
          (.cond 24 ((.seq (.reg [⟨[], [], .nop⟩, ⟨[], [], .sn (.e 1)⟩, ⟨[], [], .bi .quo (.e 25) (.c (.n 2))⟩, ⟨[], [], .ca 143 [(.e 26)] 1⟩, ⟨[], [], .bi .add (.e 27) (.c (.s [58]))⟩, ⟨[], [], .nop⟩, ⟨[], [], .ca 273 [(.e 1)] 1⟩, ⟨[], [], .ca 143 [(.e 29)] 1⟩, ⟨[], [], .bi .add (.e 28) (.e 30)⟩, ⟨[], [], .nop⟩, ⟨[], [], .cs .v (.b true)⟩] [none, none, some 31, some 32, none, none, none, none, none, none, none, none, none, none, none, none, none, none, none, none, none, none, none, none, none])
           (.ret))) (.skip)))))))))))))))))))))))))))))))
 ((.seq (.reg [⟨[], [], .cs .v (.s [])⟩, ⟨[], [], .cs .v (.b false)⟩] [none, none, some 25, some 26, none, none, none, none, none, none, none, none, none, none, none, none, none, none, none, none, none, none, none, none, none])
 (.ret))))))))⟩

end Go.Cat

namespace Go.Cat
/-- loop.example/g03401/laws.FnExactListOf -/
def ir_laws_FnExactListOf : IF := ⟨[], 2, 18, [2],
 (.seq (.reg [⟨[], [], .cs .v (.b false)⟩] [some 0, some 1, none, none, none, none, none, none, none, none, none, none, none, none, none, none, none, none])
 ((.seq ((.seq (.reg [⟨[], [], .nop⟩, ⟨[], [], .sn (.e 0)⟩, ⟨[], [], .bi .gtr (.e 18) (.c (.n 1048576))⟩] [some 0, some 1, none, none, none, none, none, none, none, none, none, some 19, none, none, none, none, none, none])
 (.cond 11 ((.seq (.reg [⟨[], [], .cs .v (.b true)⟩] [none, none, some 18, none, none, none, none, none, none, none, none, none, none, none, none, none, none, none])
  (.ret))) (.skip))))
 ((.seq (.reg [⟨[], [], .nop⟩, ⟨[], [], .nop⟩, ⟨[], [], .ca 527 [(.e 0), (.e 1)] 2⟩, ⟨[], [], .nop⟩, ⟨[], [], .nop⟩, ⟨[], [], .nop⟩, ⟨[], [], .nop⟩, ⟨[], [], .nop⟩] [some 0, some 1, none, some 18, some 19, none, none, none, none, none, none, none, none, none, none, none, none, none])
 ((.seq (.reg [⟨[], [], .nop⟩, ⟨[], [], .nop⟩, ⟨[], [], .ca 528 [(.e 0), (.e 1)] 2⟩, ⟨[], [], .nop⟩, ⟨[], [], .nop⟩, ⟨[], [], .nop⟩, ⟨[], [], .nop⟩, ⟨[], [], .nop⟩] [some 0, some 1, none, some 3, some 4, some 18, some 19, none, none, none, none, none, none, none, none, none, none, none])
 ((.seq ((.seq (.reg [⟨[], [], .nop⟩, ⟨[], [], .nop⟩, ⟨[], [], .ca 15 [(.e 5), (.e 3)] 1⟩, ⟨[], [], .un .not (.e 18)⟩, ⟨[], [], .nop⟩, ⟨[], [(19, false)], .cy (.e 6)⟩, ⟨[], [(19, false)], .cy (.e 4)⟩, ⟨[], [(19, false)], .bb .neq (.e 20) (.e 21)⟩, ⟨[], [], .pk (.e 19) (.c (.b true)) (.e 22)⟩] [some 0, some 1, none, some 3, some 4, some 5, none, none, none, none, none, none, some 23, none, none, none, none, none])
 (.cond 12 ((.seq (.reg [⟨[], [], .cs .v (.b false)⟩] [none, none, some 18, none, none, none, none, none, none, none, none, none, none, none, none, none, none, none])
  (.ret))) (.skip))))
 ((.seq (.reg [⟨[], [], .cs .v (.n 1)⟩] [some 0, some 1, none, some 3, some 4, some 5, none, some 18, none, none, none, none, none, none, none, none, none, none])
 ((.seq (.reg [⟨[], [], .nop⟩, ⟨[], [], .nop⟩, ⟨[], [], .ca 16 [(.e 5), (.e 7)] 2⟩, ⟨[], [], .nop⟩] [some 0, some 1, none, some 3, some 4, some 19, none, some 18, none, none, none, none, none, none, none, none, none, none])
 ((.seq (.reg [⟨[], [], .cs .v (.n 1)⟩] [some 0, some 1, none, some 3, some 4, some 5, none, some 7, some 18, none, none, none, none, none, none, none, none, none])
 ((.seq (.reg [⟨[], [], .nop⟩, ⟨[], [], .nop⟩, ⟨[], [], .ca 17 [(.e 5), (.e 8)] 1⟩, ⟨[], [], .nop⟩] [some 0, some 1, none, some 3, some 4, some 5, none, some 7, some 18, none, none, none, none, none, none, none, none, none])
 ((.seq ((.seq (.reg [⟨[], [], .nop⟩, ⟨[], [], .bi .lss (.e 8) (.c (.n 0))⟩] [some 0, some 1, none, some 3, some 4, some 5, none, some 7, some 8, none, none, none, none, some 18, none, none, none, none])
 (.cond 13 ((.seq (.reg [⟨[], [], .cs .v (.b false)⟩] [none, none, some 18, none, none, none, none, none, none, none, none, none, none, none, none, none, none, none])
  (.ret))) (.skip))))
 ((.seq ((.seq (.reg [⟨[], [], .nop⟩, ⟨[], [], .nop⟩, ⟨[], [], .bi .neq (.e 8) (.e 7)⟩] [some 0, some 1, none, some 3, some 4, some 5, none, some 7, none, none, none, none, none, none, some 18, none, none, none])
 (.cond 14 ((.seq (.reg [⟨[], [], .cs .v (.b false)⟩] [none, none, some 18, none, none, none, none, none, none, none, none, none, none, none, none, none, none, none])
  (.ret))) (.skip))))
 ((.seq (.reg [⟨[], [], .nop⟩, ⟨[], [], .nop⟩, ⟨[], [], .ca 528 [(.e 0), (.e 1)] 2⟩, ⟨[], [], .nop⟩, ⟨[], [], .nop⟩, ⟨[], [], .nop⟩, ⟨[], [], .nop⟩, ⟨[], [], .nop⟩] [none, none, none, some 3, some 4, some 5, none, some 7, none, some 18, some 19, none, none, none, none, none, none, none])
 ((.seq ((.seq (.reg [⟨[], [], .nop⟩, ⟨[], [], .nop⟩, ⟨[], [], .ca 15 [(.e 9), (.e 3)] 1⟩, ⟨[], [], .un .not (.e 18)⟩, ⟨[], [], .nop⟩, ⟨[], [(19, false)], .cy (.e 10)⟩, ⟨[], [(19, false)], .cy (.e 4)⟩, ⟨[], [(19, false)], .bb .neq (.e 20) (.e 21)⟩, ⟨[], [], .pk (.e 19) (.c (.b true)) (.e 22)⟩] [none, none, none, none, none, some 5, none, some 7, none, none, none, none, none, none, none, some 23, none, none])
 (.cond 15 ((.seq (.reg [⟨[], [], .cs .v (.b false)⟩] [none, none, some 18, none, none, none, none, none, none, none, none, none, none, none, none, none, none, none])
  (.ret))) (.skip))))
 ((.seq (.reg [⟨[], [], .cs .v (.n 1)⟩] [none, none, none, none, none, some 5, none, some 7, some 18, none, none, none, none, none, none, none, none, none])
 ((.seq (.reg [⟨[], [], .nop⟩, ⟨[], [], .nop⟩, ⟨[], [], .ca 17 [(.e 5), (.e 8)] 1⟩, ⟨[], [], .nop⟩] [none, none, none, none, none, none, none, some 7, some 18, none, none, none, none, none, none, none, none, none])
 ((.seq ((.seq (.reg [⟨[], [], .nop⟩, ⟨[], [], .bi .lss (.e 8) (.c (.n 0))⟩] [none, none, none, none, none, none, none, some 7, some 8, none, none, none, none, none, none, none, some 18, none])
 (.cond 16 ((.seq (.reg [⟨[], [], .cs .v (.b false)⟩] [none, none, some 18, none, none, none, none, none, none, none, none, none, none, none, none, none, none, none])
  (.ret))) (.skip))))
 ((.seq ((.seq (.reg [⟨[], [], .nop⟩, ⟨[], [], .nop⟩, ⟨[], [], .bi .neq (.e 8) (.e 7)⟩] [none, none, none, none, none, none, none, none, none, none, none, none, none, none, none, none, none, some 18])
 (.cond 17 ((.seq (.reg [⟨[], [], .cs .v (.b false)⟩] [none, none, some 18, none, none, none, none, none, none, none, none, none, none, none, none, none, none, none])
  (.ret))) (.skip))))
 ((.seq (.reg [⟨[], [], .cs .v (.b true)⟩] [none, none, some 18, none, none, none, none, none, none, none, none, none, none, none, none, none, none, none])
 (.ret))))))))))))))))))))))))))))))))))))⟩

end Go.Cat

namespace Go.Cat
/-- loop.example/g03401/spec.FormatInt -/
def ir_spec_FormatInt : IF := ⟨[], 1, 9, [1],
 (.seq (.reg [⟨[], [], .cs .v (.s [])⟩] [some 0, none, none, none, none, none, none, none, none])
 ((.seq ((.seq (.reg [⟨[], [], .nop⟩, ⟨[], [], .bi .eql (.e 0) (.c (.n 0))⟩] [some 0, none, none, none, none, some 9, none, none, none])
 (.cond 5 ((.seq (.reg [⟨[], [], .cs .v (.s [48])⟩] [none, some 9, none, none, none, none, none, none, none])
  (.ret))) (.skip))))
 ((.seq (.reg [⟨[], [], .cs .v (.s [])⟩] [some 0, none, some 9, none, none, none, none, none, none])
 ((.seq (.reg [⟨[], [], .nop⟩, ⟨[], [], .bi .lss (.e 0) (.c (.n 0))⟩, ⟨[], [], .nop⟩] [some 0, none, some 2, some 9, none, none, none, none, none])
 ((.seq (.block 0 (.loop ((.seq ((.seq (.reg [⟨[], [], .nop⟩, ⟨[], [], .bi .neq (.e 0) (.c (.n 0))⟩] [some 0, none, some 2, some 3, none, none, some 9, none, none])
   (.cond 6 (.skip) (.exit 0))))
   (.block 1 ((.seq (.reg [⟨[], [], .nop⟩, ⟨[], [], .bi .rem (.e 0) (.c (.n 10))⟩, ⟨[], [], .nop⟩] [some 0, none, some 2, some 3, some 9, none, none, none, none])
    ((.seq ((.seq (.reg [⟨[], [], .nop⟩, ⟨[], [], .bi .lss (.e 4) (.c (.n 0))⟩] [some 0, none, some 2, some 3, some 4, none, none, some 9, none])
    (.cond 7 (.reg [⟨[], [], .nop⟩, ⟨[], [], .un .neg (.e 4)⟩, ⟨[], [], .nop⟩] [some 0, none, some 2, some 3, some 9, none, none, none, none]) (.skip))))
    ((.seq (.reg [⟨[], [], .nop⟩, ⟨[], [], .bi .add (.c (.n 48)) (.e 4)⟩, ⟨[], [], .cv .u8 (.e 9)⟩, ⟨[], [], .li (.o .v) [(.e 10)]⟩, ⟨[], [], .bs (.e 11)⟩, ⟨[], [], .nop⟩, ⟨[], [], .bi .add (.e 12) (.e 2)⟩, ⟨[], [], .nop⟩] [some 0, none, some 13, some 3, none, none, none, none, none])
    (.reg [⟨[], [], .nop⟩, ⟨[], [], .bi .quo (.e 0) (.c (.n 10))⟩, ⟨[], [], .nop⟩] [some 9, none, some 2, some 3, none, none, none, none, none]))))))))))))
 ((.seq ((.seq (.reg [⟨[], [], .nop⟩] [none, none, some 2, none, none, none, none, none, some 3])
 (.cond 8 ((.seq (.reg [⟨[], [], .nop⟩, ⟨[], [], .bi .add (.c (.s [45])) (.e 2)⟩, ⟨[], [], .nop⟩] [none, some 9, none, none, none, none, none, none, none])
  (.ret))) (.skip))))
 ((.seq (.reg [⟨[], [], .nop⟩, ⟨[], [], .nop⟩] [none, some 2, none, none, none, none, none, none, none])
 (.ret))))))))))))))⟩

/-- loop.example/g03401/spec.l1In -/
def ir_spec_l1In : IF := ⟨[], 3, 4, [3],
 (.seq (.reg [⟨[], [], .cs .v (.b false)⟩] [some 0, some 1, some 2, none])
 ((.seq (.reg [⟨[], [], .nop⟩, ⟨[], [], .nop⟩, ⟨[], [], .bi .geq (.e 0) (.e 1)⟩, ⟨[], [], .nop⟩, ⟨[], [(4, true)], .cy (.e 0)⟩, ⟨[], [(4, true)], .cy (.e 2)⟩, ⟨[], [(4, true)], .bi .leq (.e 5) (.e 6)⟩, ⟨[], [], .pk (.e 4) (.e 7) (.c (.b false))⟩, ⟨[], [], .nop⟩] [none, none, none, some 8])
 (.ret))))⟩

end Go.Cat

namespace Go.Cat
/-- loop.example/g03401/spec.IsDyck -/
def ir_spec_IsDyck : IF := ⟨[], 1, 9, [1],
 (.seq (.reg [⟨[], [], .cs .v (.b false)⟩] [some 0, none, none, none, none, none, none, none, none])
 ((.seq (.reg [⟨[], [], .cs .v (.n 0)⟩] [some 0, none, some 9, none, none, none, none, none, none])
 ((.seq ((.seq (.reg [⟨[], [], .cs .v (.n 0)⟩] [some 0, none, some 2, some 9, none, none, none, none, none])
 (.block 0 (.loop ((.seq ((.seq (.reg [⟨[], [], .nop⟩, ⟨[], [], .nop⟩, ⟨[], [], .sn (.e 0)⟩, ⟨[], [], .bi .lss (.e 3) (.e 9)⟩] [some 0, none, some 2, some 3, some 10, none, none, none, none])
   (.cond 4 (.skip) (.exit 0))))
   ((.seq (.block 1 ((.seq ((.seq (.reg [⟨[], [], .nop⟩, ⟨[], [], .nop⟩, ⟨[], [], .sx (.e 0) (.e 3)⟩] [some 0, none, some 2, some 3, none, some 9, none, none, none])
    (.block 2 ((.seq (.reg [⟨[], [], .bi .eql (.e 5) (.c (.y 117))⟩, ⟨[], [], .nop⟩] [some 0, none, some 2, some 3, none, some 5, some 9, none, none])
     (.cond 6 (.reg [⟨[], [], .nop⟩, ⟨[], [], .bi .add (.e 2) (.c (.n 1))⟩, ⟨[], [], .nop⟩] [some 0, none, some 9, some 3, none, none, none, none, none]) ((.seq (.reg [⟨[], [], .bi .eql (.e 5) (.c (.y 100))⟩, ⟨[], [], .nop⟩] [some 0, none, some 2, some 3, none, none, none, some 9, none])
      (.cond 7 (.reg [⟨[], [], .nop⟩, ⟨[], [], .bi .sub (.e 2) (.c (.n 1))⟩, ⟨[], [], .nop⟩] [some 0, none, some 9, some 3, none, none, none, none, none]) ((.seq (.reg [⟨[], [], .cs .v (.b false)⟩] [none, some 9, none, none, none, none, none, none, none])
       (.ret))))))))))))
    ((.seq (.reg [⟨[], [], .nop⟩, ⟨[], [], .bi .lss (.e 2) (.c (.n 0))⟩] [some 0, none, some 2, some 3, none, none, none, none, some 9])
    (.cond 8 ((.seq (.reg [⟨[], [], .cs .v (.b false)⟩] [none, some 9, none, none, none, none, none, none, none])
     (.ret))) (.skip)))))))
   (.reg [⟨[], [], .nop⟩, ⟨[], [], .bi .add (.e 3) (.c (.n 1))⟩, ⟨[], [], .nop⟩] [some 0, none, some 2, some 9, none, none, none, none, none])))))))))
 ((.seq (.reg [⟨[], [], .nop⟩, ⟨[], [], .bi .eql (.e 2) (.c (.n 0))⟩, ⟨[], [], .nop⟩, ⟨[], [(9, true)], .cy (.e 0)⟩, ⟨[], [(9, true)], .sn (.e 10)⟩, ⟨[], [(9, true)], .bi .leq (.e 11) (.c (.n 16))⟩, ⟨[], [], .pk (.e 9) (.e 12) (.c (.b false))⟩, ⟨[], [], .nop⟩] [none, some 13, none, none, none, none, none, none, none])
 (.ret))))))))⟩

/-- loop.example/g03401/spec.l2Cut -/
def ir_spec_l2Cut : IF := ⟨[], 1, 7, [1],
 (.seq (.reg [⟨[], [], .cs .v (.n 0)⟩] [some 0, none, none, none, none, none, none])
 ((.seq (.reg [⟨[], [], .cs .v (.n 0)⟩] [some 0, none, some 7, none, none, none, none])
 ((.seq ((.seq (.reg [⟨[], [], .cs .v (.n 0)⟩] [some 0, none, some 2, some 7, none, none, none])
 (.block 0 (.loop ((.seq ((.seq (.reg [⟨[], [], .nop⟩, ⟨[], [], .nop⟩, ⟨[], [], .sn (.e 0)⟩, ⟨[], [], .bi .lss (.e 3) (.e 7)⟩] [some 0, none, some 2, some 3, some 8, none, none])
   (.cond 4 (.skip) (.exit 0))))
   ((.seq (.block 1 ((.seq ((.seq (.reg [⟨[], [], .nop⟩, ⟨[], [], .nop⟩, ⟨[], [], .sx (.e 0) (.e 3)⟩, ⟨[], [], .bi .eql (.e 7) (.c (.y 117))⟩] [some 0, none, some 2, some 3, none, some 8, none])
    (.cond 5 (.reg [⟨[], [], .nop⟩, ⟨[], [], .bi .add (.e 2) (.c (.n 1))⟩, ⟨[], [], .nop⟩] [some 0, none, some 7, some 3, none, none, none]) (.reg [⟨[], [], .nop⟩, ⟨[], [], .bi .sub (.e 2) (.c (.n 1))⟩, ⟨[], [], .nop⟩] [some 0, none, some 7, some 3, none, none, none]))))
    ((.seq (.reg [⟨[], [], .nop⟩, ⟨[], [], .bi .eql (.e 2) (.c (.n 0))⟩] [some 0, none, some 2, some 3, none, none, some 7])
    (.cond 6 ((.seq (.reg [⟨[], [], .nop⟩, ⟨[], [], .nop⟩] [none, some 3, none, none, none, none, none])
     (.ret))) (.skip)))))))
   (.reg [⟨[], [], .nop⟩, ⟨[], [], .bi .add (.e 3) (.c (.n 1))⟩, ⟨[], [], .nop⟩] [some 0, none, some 2, some 7, none, none, none])))))))))
 ((.seq (.reg [⟨[], [], .cs .v (.n (-1))⟩] [none, some 7, none, none, none, none, none])
 (.ret))))))))⟩

end Go.Cat

namespace Go.Cat
/-- loop.example/g03401/spec.PathsOf -/
def ir_spec_PathsOf : IF := ⟨[], 1, 3, [1],
 (.seq (.reg [⟨[], [], .cs (.o .v) (.l [])⟩] [some 0, none, none])
 ((.seq ((.seq (.reg [⟨[], [], .nop⟩, ⟨[], [], .ca 22 [(.e 0), (.c (.n 0)), (.c (.n 6))] 1⟩, ⟨[], [], .un .not (.e 3)⟩] [some 0, none, some 4])
 (.cond 2 ((.seq (.reg [⟨[], [], .li (.o .v) []⟩, ⟨[], [], .nop⟩] [none, some 3, none])
  (.ret))) (.skip))))
 ((.seq (.reg [⟨[], [], .nop⟩, ⟨[], [], .nop⟩, ⟨[], [], .ca 292 [(.c (.s [])), (.e 0), (.e 0)] 1⟩, ⟨[], [], .nop⟩] [none, some 3, none])
 (.ret))))))⟩

/-- loop.example/g03401/spec.RankPath -/
def ir_spec_RankPath : IF := ⟨[], 1, 10, [1],
 (.seq (.reg [⟨[], [], .cs .v (.n 0)⟩] [some 0, none, none, none, none, none, none, none, none, none])
 ((.seq ((.seq (.reg [⟨[], [], .nop⟩, ⟨[], [], .ca 64 [(.e 0)] 1⟩, ⟨[], [], .un .not (.e 10)⟩] [some 0, none, none, none, none, none, some 11, none, none, none])
 (.cond 6 ((.seq (.reg [⟨[], [], .cs .v (.n (-1))⟩] [none, some 10, none, none, none, none, none, none, none, none])
  (.ret))) (.skip))))
 ((.seq (.reg [⟨[], [], .nop⟩, ⟨[], [], .sn (.e 0)⟩, ⟨[], [], .bi .quo (.e 10) (.c (.n 2))⟩, ⟨[], [], .nop⟩] [some 0, none, some 11, none, none, none, none, none, none, none])
 ((.seq (.reg [⟨[], [], .nop⟩, ⟨[], [], .nop⟩] [some 0, none, some 2, some 2, none, none, none, none, none, none])
 ((.seq (.reg [⟨[], [], .cs .v (.n 0)⟩] [some 0, none, some 2, some 3, some 10, none, none, none, none, none])
 ((.seq ((.seq (.reg [⟨[], [], .cs .v (.n 0)⟩] [some 0, none, some 2, some 3, some 4, some 10, none, none, none, none])
 (.block 0 (.loop ((.seq ((.seq (.reg [⟨[], [], .nop⟩, ⟨[], [], .nop⟩, ⟨[], [], .sn (.e 0)⟩, ⟨[], [], .bi .lss (.e 5) (.e 10)⟩] [some 0, none, some 2, some 3, some 4, some 5, none, some 11, none, none])
   (.cond 7 (.skip) (.exit 0))))
   ((.seq (.block 1 ((.seq ((.seq (.reg [⟨[], [], .nop⟩, ⟨[], [], .nop⟩, ⟨[], [], .sx (.e 0) (.e 5)⟩, ⟨[], [], .bi .eql (.e 10) (.c (.y 117))⟩] [some 0, none, some 2, some 3, some 4, some 5, none, none, some 11, none])
    (.cond 8 ((.seq (.reg [⟨[], [], .nop⟩, ⟨[], [], .bi .sub (.e 2) (.c (.n 1))⟩, ⟨[], [], .nop⟩] [some 0, none, some 10, some 3, some 4, some 5, none, none, none, none])
     (.exit 1))) (.skip))))
    ((.seq ((.seq (.reg [⟨[], [], .nop⟩, ⟨[], [], .bi .gtr (.e 2) (.c (.n 0))⟩] [some 0, none, some 2, some 3, some 4, some 5, none, none, none, some 10])
    (.cond 9 (.reg [⟨[], [], .nop⟩, ⟨[], [], .nop⟩, ⟨[], [], .bi .sub (.e 2) (.c (.n 1))⟩, ⟨[], [], .nop⟩, ⟨[], [], .ca 84 [(.e 10), (.e 3)] 1⟩, ⟨[], [], .bi .add (.e 4) (.e 11)⟩, ⟨[], [], .nop⟩] [some 0, none, some 2, some 3, some 12, some 5, none, none, none, none]) (.skip))))
    (.reg [⟨[], [], .nop⟩, ⟨[], [], .bi .sub (.e 3) (.c (.n 1))⟩, ⟨[], [], .nop⟩] [some 0, none, some 2, some 10, some 4, some 5, none, none, none, none]))))))
   (.reg [⟨[], [], .nop⟩, ⟨[], [], .bi .add (.e 5) (.c (.n 1))⟩, ⟨[], [], .nop⟩] [some 0, none, some 2, some 3, some 4, some 10, none, none, none, none])))))))))
 ((.seq (.reg [⟨[], [], .nop⟩, ⟨[], [], .nop⟩] [none, some 4, none, none, none, none, none, none, none, none])
 (.ret))))))))))))))⟩

/-- loop.example/g03401/spec.l3All -/
def ir_spec_l3All : IF := ⟨[], 3, 8, [3],
 (.seq (.reg [⟨[], [], .cs (.o .v) (.l [])⟩] [some 0, some 1, some 2, none, none, none, none, none])
 ((.seq ((.seq (.reg [⟨[], [], .nop⟩, ⟨[], [], .bi .eql (.e 2) (.c (.n 0))⟩] [some 0, some 1, some 2, none, none, some 8, none, none])
 (.cond 5 ((.seq (.reg [⟨[], [], .nop⟩, ⟨[], [], .li (.o .v) [(.e 0)]⟩, ⟨[], [], .nop⟩] [none, none, none, some 8, none, none, none, none])
  (.ret))) (.skip))))
 ((.seq (.reg [⟨[], [], .li (.o .v) []⟩, ⟨[], [], .nop⟩] [some 0, some 1, some 2, none, some 8, none, none, none])
 ((.seq ((.seq (.reg [⟨[], [], .nop⟩, ⟨[], [], .bi .gtr (.e 1) (.c (.n 0))⟩] [some 0, some 1, some 2, none, some 4, none, some 8, none])
 (.cond 6 (.reg [⟨[], [], .nop⟩, ⟨[], [], .nop⟩, ⟨[], [], .bi .add (.e 0) (.c (.s [117]))⟩, ⟨[], [], .nop⟩, ⟨[], [], .bi .sub (.e 1) (.c (.n 1))⟩, ⟨[], [], .nop⟩, ⟨[], [], .ca 292 [(.e 8), (.e 9), (.e 2)] 1⟩, ⟨[], [], .ap false (.e 4) (.e 10)⟩, ⟨[], [], .nop⟩] [some 0, some 1, some 2, none, some 11, none, none, none]) (.skip))))
 ((.seq ((.seq (.reg [⟨[], [], .nop⟩, ⟨[], [], .nop⟩, ⟨[], [], .bi .gtr (.e 2) (.e 1)⟩] [some 0, some 1, some 2, none, some 4, none, none, some 8])
 (.cond 7 (.reg [⟨[], [], .nop⟩, ⟨[], [], .nop⟩, ⟨[], [], .bi .add (.e 0) (.c (.s [100]))⟩, ⟨[], [], .nop⟩, ⟨[], [], .nop⟩, ⟨[], [], .bi .sub (.e 2) (.c (.n 1))⟩, ⟨[], [], .ca 292 [(.e 8), (.e 1), (.e 9)] 1⟩, ⟨[], [], .ap false (.e 4) (.e 10)⟩, ⟨[], [], .nop⟩] [none, none, none, none, some 11, none, none, none]) (.skip))))
 ((.seq (.reg [⟨[], [], .nop⟩, ⟨[], [], .nop⟩] [none, none, none, some 4, none, none, none, none])
 (.ret))))))))))))⟩

/-- loop.example/g03401/spec.l3Ways -/
def ir_spec_l3Ways : IF := ⟨[], 2, 10, [2],
 (.seq (.reg [⟨[], [], .cs .v (.n 0)⟩] [some 0, some 1, none, none, none, none, none, none, none, none])
 ((.seq (.reg [⟨[], [], .li (.o (.o .v)) []⟩, ⟨[], [], .nop⟩] [some 0, some 1, none, some 10, none, none, none, none, none, none])
 ((.seq ((.seq (.reg [⟨[], [], .cs .v (.n 0)⟩] [some 0, some 1, none, some 3, some 10, none, none, none, none, none])
 (.block 0 (.loop ((.seq ((.seq (.reg [⟨[], [], .nop⟩, ⟨[], [], .nop⟩, ⟨[], [], .bi .leq (.e 4) (.e 0)⟩] [some 0, some 1, none, some 3, some 4, none, some 10, none, none, none])
   (.cond 6 (.skip) (.exit 0))))
   ((.seq (.block 1 ((.seq (.reg [⟨[], [], .nop⟩, ⟨[], [], .nop⟩, ⟨[], [], .bi .add (.e 1) (.c (.n 1))⟩, ⟨[], [], .mk (.n 0) (.e 10) (.e 10)⟩, ⟨[], [], .li (.o (.o .v)) [(.e 11)]⟩, ⟨[], [], .ap false (.e 3) (.e 12)⟩, ⟨[], [], .nop⟩] [some 0, some 1, none, some 13, some 4, none, none, none, none, none])
    ((.seq (.reg [⟨[], [], .nop⟩, ⟨[], [], .nop⟩] [some 0, some 1, none, some 3, some 4, some 4, none, none, none, none])
    (.block 2 (.loop ((.seq ((.seq (.reg [⟨[], [], .nop⟩, ⟨[], [], .nop⟩, ⟨[], [], .bi .leq (.e 5) (.e 1)⟩] [some 0, some 1, none, some 3, some 4, some 5, none, some 10, none, none])
      (.cond 7 (.skip) (.exit 2))))
      ((.seq (.block 3 (.block 4 ((.seq (.reg [⟨[], [], .nop⟩, ⟨[], [], .bi .eql (.e 4) (.c (.n 0))⟩, ⟨[], [], .nop⟩] [some 0, some 1, none, some 3, some 4, some 5, none, none, some 10, none])
        (.cond 8 (.reg [⟨[], [], .nop⟩, ⟨[], [], .nop⟩, ⟨[], [], .ix (.e 3) [] (.e 4)⟩, ⟨[], [], .nop⟩, ⟨[], [], .nop⟩, ⟨[], [], .ix (.e 3) [.e 4] (.e 5)⟩, ⟨[], [], .up 3 [.e 4, .e 5] (.c (.n 1))⟩] [some 0, some 1, none, some 12, some 4, some 5, none, none, none, none]) ((.seq (.reg [⟨[], [], .nop⟩, ⟨[], [], .nop⟩, ⟨[], [], .bi .eql (.e 5) (.e 4)⟩, ⟨[], [], .nop⟩] [some 0, some 1, none, some 3, some 4, some 5, none, none, none, some 10])
         (.cond 9 (.reg [⟨[], [], .nop⟩, ⟨[], [], .nop⟩, ⟨[], [], .ix (.e 3) [] (.e 4)⟩, ⟨[], [], .nop⟩, ⟨[], [], .nop⟩, ⟨[], [], .nop⟩, ⟨[], [], .nop⟩, ⟨[], [], .bi .sub (.e 4) (.c (.n 1))⟩, ⟨[], [], .ix (.e 3) [] (.e 11)⟩, ⟨[], [], .nop⟩, ⟨[], [], .nop⟩, ⟨[], [], .ix (.e 3) [.e 11] (.e 5)⟩, ⟨[], [], .nop⟩, ⟨[], [], .ix (.e 3) [.e 4] (.e 5)⟩, ⟨[], [], .up 3 [.e 4, .e 5] (.e 13)⟩] [some 0, some 1, none, some 15, some 4, some 5, none, none, none, none]) (.reg [⟨[], [], .nop⟩, ⟨[], [], .nop⟩, ⟨[], [], .ix (.e 3) [] (.e 4)⟩, ⟨[], [], .nop⟩, ⟨[], [], .nop⟩, ⟨[], [], .nop⟩, ⟨[], [], .nop⟩, ⟨[], [], .bi .sub (.e 4) (.c (.n 1))⟩, ⟨[], [], .ix (.e 3) [] (.e 11)⟩, ⟨[], [], .nop⟩, ⟨[], [], .nop⟩, ⟨[], [], .ix (.e 3) [.e 11] (.e 5)⟩, ⟨[], [], .nop⟩, ⟨[], [], .nop⟩, ⟨[], [], .nop⟩, ⟨[], [], .ix (.e 3) [] (.e 4)⟩, ⟨[], [], .nop⟩, ⟨[], [], .nop⟩, ⟨[], [], .bi .sub (.e 5) (.c (.n 1))⟩, ⟨[], [], .ix (.e 3) [.e 4] (.e 15)⟩, ⟨[], [], .nop⟩, ⟨[], [], .bi .add (.e 13) (.e 16)⟩, ⟨[], [], .ix (.e 3) [.e 4] (.e 5)⟩, ⟨[], [], .up 3 [.e 4, .e 5] (.e 17)⟩] [some 0, some 1, none, some 19, some 4, some 5, none, none, none, none])))))))))
      (.reg [⟨[], [], .nop⟩, ⟨[], [], .bi .add (.e 5) (.c (.n 1))⟩, ⟨[], [], .nop⟩] [some 0, some 1, none, some 3, some 4, some 10, none, none, none, none]))))))))))))
   (.reg [⟨[], [], .nop⟩, ⟨[], [], .bi .add (.e 4) (.c (.n 1))⟩, ⟨[], [], .nop⟩] [some 0, some 1, none, some 3, some 10, none, none, none, none, none])))))))))
 ((.seq (.reg [⟨[], [], .nop⟩, ⟨[], [], .nop⟩, ⟨[], [], .ix (.e 3) [] (.e 0)⟩, ⟨[], [], .nop⟩, ⟨[], [], .nop⟩, ⟨[], [], .ix (.e 3) [.e 0] (.e 1)⟩, ⟨[], [], .nop⟩, ⟨[], [], .nop⟩] [none, none, some 11, none, none, none, none, none, none, none])
 (.ret))))))))⟩

end Go.Cat

namespace Go.Cat
/-- loop.example/g03401/spec.BracketsOf -/
def ir_spec_BracketsOf : IF := ⟨[], 1, 7, [1, 2],
 (.seq (.reg [⟨[], [], .cs .v (.s [])⟩, ⟨[], [], .cs .v (.b false)⟩] [some 0, none, none, none, none, none, none])
 ((.seq (.reg [⟨[], [], .cs .v (.s [])⟩] [some 0, none, none, some 7, none, none, none])
 ((.seq ((.seq (.reg [⟨[], [], .cs .v (.n 0)⟩] [some 0, none, none, some 3, some 7, none, none])
 (.block 0 (.loop ((.seq ((.seq (.reg [⟨[], [], .nop⟩, ⟨[], [], .nop⟩, ⟨[], [], .sn (.e 0)⟩, ⟨[], [], .bi .lss (.e 4) (.e 7)⟩, ⟨[], [], .nop⟩, ⟨[], [(8, true)], .cy (.e 0)⟩, ⟨[], [(8, true)], .ca 64 [(.e 9)] 1⟩, ⟨[], [], .pk (.e 8) (.e 10) (.c (.b false))⟩] [some 0, none, none, some 3, some 4, some 11, none])
   (.cond 5 (.skip) (.exit 0))))
   ((.seq (.block 1 ((.seq (.reg [⟨[], [], .nop⟩, ⟨[], [], .nop⟩, ⟨[], [], .sx (.e 0) (.e 4)⟩, ⟨[], [], .bi .eql (.e 7) (.c (.y 117))⟩] [some 0, none, none, some 3, some 4, none, some 8])
    (.cond 6 (.reg [⟨[], [], .nop⟩, ⟨[], [], .bi .add (.e 3) (.c (.s [40]))⟩, ⟨[], [], .nop⟩] [some 0, none, none, some 7, some 4, none, none]) (.reg [⟨[], [], .nop⟩, ⟨[], [], .bi .add (.e 3) (.c (.s [41]))⟩, ⟨[], [], .nop⟩] [some 0, none, none, some 7, some 4, none, none])))))
   (.reg [⟨[], [], .nop⟩, ⟨[], [], .bi .add (.e 4) (.c (.n 1))⟩, ⟨[], [], .nop⟩] [some 0, none, none, some 3, some 7, none, none])))))))))
 ((.seq (.reg [⟨[], [], .nop⟩, ⟨[], [], .nop⟩, ⟨[], [], .ca 64 [(.e 0)] 1⟩, ⟨[], [], .nop⟩, ⟨[], [], .nop⟩] [none, some 3, some 7, none, none, none, none])
 (.ret))))))))⟩

/-- loop.example/g03401/spec.l4Partner -/
def ir_spec_l4Partner : IF := ⟨[], 2, 13, [2],
 (.seq (.reg [⟨[], [], .cs .v (.n 0)⟩] [some 0, some 1, none, none, none, none, none, none, none, none, none, none, none])
 ((.seq (.reg [⟨[], [], .cs .v (.n 0)⟩] [some 0, some 1, none, some 13, none, none, none, none, none, none, none, none, none])
 ((.seq ((.seq (.reg [⟨[], [], .nop⟩, ⟨[], [], .nop⟩, ⟨[], [], .sx (.e 0) (.e 1)⟩, ⟨[], [], .bi .eql (.e 13) (.c (.y 117))⟩] [some 0, some 1, none, some 3, none, none, some 14, none, none, none, none, none, none])
 (.cond 6 ((.seq (.reg [⟨[], [], .nop⟩, ⟨[], [], .nop⟩] [some 0, some 1, none, some 3, some 1, none, none, none, none, none, none, none, none])
  (.block 0 (.loop ((.seq ((.seq (.reg [⟨[], [], .nop⟩, ⟨[], [], .nop⟩, ⟨[], [], .sn (.e 0)⟩, ⟨[], [], .bi .lss (.e 4) (.e 13)⟩] [some 0, some 1, none, some 3, some 4, none, none, some 14, none, none, none, none, none])
    (.cond 7 (.skip) (.exit 0))))
    ((.seq (.block 1 ((.seq ((.seq (.reg [⟨[], [], .nop⟩, ⟨[], [], .nop⟩, ⟨[], [], .sx (.e 0) (.e 4)⟩, ⟨[], [], .bi .eql (.e 13) (.c (.y 117))⟩] [some 0, some 1, none, some 3, some 4, none, none, none, some 14, none, none, none, none])
     (.cond 8 (.reg [⟨[], [], .nop⟩, ⟨[], [], .bi .add (.e 3) (.c (.n 1))⟩, ⟨[], [], .nop⟩] [some 0, some 1, none, some 13, some 4, none, none, none, none, none, none, none, none]) (.reg [⟨[], [], .nop⟩, ⟨[], [], .bi .sub (.e 3) (.c (.n 1))⟩, ⟨[], [], .nop⟩] [some 0, some 1, none, some 13, some 4, none, none, none, none, none, none, none, none]))))
     ((.seq (.reg [⟨[], [], .nop⟩, ⟨[], [], .bi .eql (.e 3) (.c (.n 0))⟩] [some 0, some 1, none, some 3, some 4, none, none, none, none, some 13, none, none, none])
     (.cond 9 ((.seq (.reg [⟨[], [], .nop⟩, ⟨[], [], .nop⟩] [none, none, some 4, none, none, none, none, none, none, none, none, none, none])
      (.ret))) (.skip)))))))
    (.reg [⟨[], [], .nop⟩, ⟨[], [], .bi .add (.e 4) (.c (.n 1))⟩, ⟨[], [], .nop⟩] [some 0, some 1, none, some 3, some 13, none, none, none, none, none, none, none, none]))))))))) (.skip))))
 ((.seq ((.seq (.reg [⟨[], [], .nop⟩, ⟨[], [], .nop⟩] [some 0, none, none, some 3, none, some 1, none, none, none, none, none, none, none])
 (.block 2 (.loop ((.seq ((.seq (.reg [⟨[], [], .nop⟩, ⟨[], [], .bi .geq (.e 5) (.c (.n 0))⟩] [some 0, none, none, some 3, none, some 5, none, none, none, none, some 13, none, none])
   (.cond 10 (.skip) (.exit 2))))
   ((.seq (.block 3 ((.seq ((.seq (.reg [⟨[], [], .nop⟩, ⟨[], [], .nop⟩, ⟨[], [], .sx (.e 0) (.e 5)⟩, ⟨[], [], .bi .eql (.e 13) (.c (.y 100))⟩] [some 0, none, none, some 3, none, some 5, none, none, none, none, none, some 14, none])
    (.cond 11 (.reg [⟨[], [], .nop⟩, ⟨[], [], .bi .add (.e 3) (.c (.n 1))⟩, ⟨[], [], .nop⟩] [some 0, none, none, some 13, none, some 5, none, none, none, none, none, none, none]) (.reg [⟨[], [], .nop⟩, ⟨[], [], .bi .sub (.e 3) (.c (.n 1))⟩, ⟨[], [], .nop⟩] [some 0, none, none, some 13, none, some 5, none, none, none, none, none, none, none]))))
    ((.seq (.reg [⟨[], [], .nop⟩, ⟨[], [], .bi .eql (.e 3) (.c (.n 0))⟩] [some 0, none, none, some 3, none, some 5, none, none, none, none, none, none, some 13])
    (.cond 12 ((.seq (.reg [⟨[], [], .nop⟩, ⟨[], [], .nop⟩] [none, none, some 5, none, none, none, none, none, none, none, none, none, none])
     (.ret))) (.skip)))))))
   (.reg [⟨[], [], .nop⟩, ⟨[], [], .bi .sub (.e 5) (.c (.n 1))⟩, ⟨[], [], .nop⟩] [some 0, none, none, some 3, none, some 13, none, none, none, none, none, none, none])))))))))
 ((.seq (.reg [⟨[], [], .cs .v (.n (-1))⟩] [none, none, some 13, none, none, none, none, none, none, none, none, none, none])
 (.ret))))))))))⟩

end Go.Cat

namespace Go.Cat
/-- loop.example/g03401/spec.FormatPlane -/
def ir_spec_FormatPlane : IF := ⟨[], 1, 6, [1],
 (.seq (.reg [⟨[], [], .cs .v (.s [])⟩] [some 0, none, none, none, none, none])
 ((.seq (.reg [⟨[], [], .cs .v (.s [])⟩] [some 0, none, some 6, none, none, none])
 ((.seq ((.seq (.reg [⟨[], [], .cs .v (.n 0)⟩] [some 0, none, some 2, some 6, none, none])
 (.block 0 (.loop ((.seq ((.seq (.reg [⟨[], [], .nop⟩, ⟨[], [], .nop⟩, ⟨[], [], .ln (.e 0) []⟩, ⟨[], [], .bi .lss (.e 3) (.e 6)⟩, ⟨[], [], .nop⟩, ⟨[], [(7, true)], .nop⟩, ⟨[], [(7, true)], .ca 321 [(.e 0)] 1⟩, ⟨[], [], .pk (.e 7) (.e 8) (.c (.b false))⟩] [some 0, none, some 2, some 3, some 9, none])
   (.cond 4 (.skip) (.exit 0))))
   ((.seq (.block 1 ((.seq ((.seq (.reg [⟨[], [], .nop⟩, ⟨[], [], .bi .gtr (.e 3) (.c (.n 0))⟩] [some 0, none, some 2, some 3, none, some 6])
    (.cond 5 (.reg [⟨[], [], .nop⟩, ⟨[], [], .bi .add (.e 2) (.c (.s [44]))⟩, ⟨[], [], .nop⟩] [some 0, none, some 6, some 3, none, none]) (.skip))))
    (.reg [⟨[], [], .nop⟩, ⟨[], [], .nop⟩, ⟨[], [], .nop⟩, ⟨[], [], .iy (.e 0) (.e 3)⟩, ⟨[], [], .nop⟩, ⟨[], [], .ca 138 [(.e 6)] 1⟩, ⟨[], [], .bi .add (.e 2) (.e 7)⟩, ⟨[], [], .nop⟩] [some 0, none, some 8, some 3, none, none]))))
   (.reg [⟨[], [], .nop⟩, ⟨[], [], .bi .add (.e 3) (.c (.n 1))⟩, ⟨[], [], .nop⟩] [some 0, none, some 2, some 6, none, none])))))))))
 ((.seq (.reg [⟨[], [], .nop⟩, ⟨[], [], .nop⟩] [none, some 2, none, none, none, none])
 (.ret))))))))⟩

/-- loop.example/g03401/spec.IsPlane -/
def ir_spec_IsPlane : IF := ⟨[], 1, 9, [1],
 (.seq (.reg [⟨[], [], .cs .v (.b false)⟩] [some 0, none, none, none, none, none, none, none, none])
 ((.seq ((.seq (.reg [⟨[], [], .cs .v (.n 0)⟩] [some 0, none, some 9, none, none, none, none, none, none])
 (.block 0 (.loop ((.seq ((.seq (.reg [⟨[], [], .nop⟩, ⟨[], [], .nop⟩, ⟨[], [], .ln (.e 0) []⟩, ⟨[], [], .bi .lss (.e 2) (.e 9)⟩] [some 0, none, some 2, none, none, some 10, none, none, none])
   (.cond 5 (.skip) (.exit 0))))
   ((.seq (.block 1 ((.seq ((.seq (.reg [⟨[], [], .nop⟩, ⟨[], [], .bi .eql (.e 2) (.c (.n 0))⟩, ⟨[], [], .nop⟩, ⟨[], [(9, true)], .nop⟩, ⟨[], [(9, true)], .iy (.e 0) (.c (.n 0))⟩, ⟨[], [(9, true)], .nop⟩, ⟨[], [(9, true)], .bi .neq (.e 10) (.c (.n (-1)))⟩, ⟨[], [], .pk (.e 9) (.e 11) (.c (.b false))⟩, ⟨[], [], .nop⟩, ⟨[], [(12, false)], .cy (.e 2)⟩, ⟨[], [(12, false)], .bi .gtr (.e 13) (.c (.n 0))⟩, ⟨[], [(12, false)], .cy (.e 14)⟩, ⟨[], [(12, false), (15, true)], .nop⟩, ⟨[], [(12, false), (15, true)], .cy (.e 2)⟩, ⟨[], [(12, false), (15, true)], .iy (.e 0) (.e 16)⟩, ⟨[], [(12, false), (15, true)], .nop⟩, ⟨[], [(12, false), (15, true)], .cy (.e 2)⟩, ⟨[], [(12, false), (15, true)], .bi .sub (.e 18) (.c (.n 1))⟩, ⟨[], [(12, false), (15, true)], .ca 22 [(.e 17), (.c (.n 0)), (.e 19)] 1⟩, ⟨[], [(12, false), (15, true)], .un .not (.e 20)⟩, ⟨[], [(12, false)], .pk (.e 15) (.e 21) (.c (.b false))⟩, ⟨[], [], .pk (.e 12) (.c (.b true)) (.e 22)⟩] [some 0, none, some 2, none, none, none, some 23, none, none])
    (.cond 6 ((.seq (.reg [⟨[], [], .cs .v (.b false)⟩] [none, some 9, none, none, none, none, none, none, none])
     (.ret))) (.skip))))
    ((.seq (.reg [⟨[], [], .nop⟩, ⟨[], [], .bi .eql (.e 2) (.c (.n 0))⟩, ⟨[], [], .nop⟩] [some 0, none, some 2, some 9, none, none, none, none, none])
    ((.seq ((.seq (.reg [⟨[], [], .nop⟩, ⟨[], [], .bi .sub (.e 2) (.c (.n 1))⟩, ⟨[], [], .nop⟩] [some 0, none, some 2, some 3, some 9, none, none, none, none])
    (.block 2 (.loop ((.seq ((.seq (.reg [⟨[], [], .nop⟩, ⟨[], [], .bi .geq (.e 4) (.c (.n 0))⟩, ⟨[], [], .nop⟩, ⟨[], [(9, true)], .cy (.e 2)⟩, ⟨[], [(9, true)], .bi .gtr (.e 10) (.c (.n 0))⟩, ⟨[], [], .pk (.e 9) (.e 11) (.c (.b false))⟩] [some 0, none, some 2, some 3, some 4, none, none, some 12, none])
      (.cond 7 (.skip) (.exit 2))))
      ((.seq (.block 3 (.reg [⟨[], [], .nop⟩, ⟨[], [], .nop⟩, ⟨[], [(3, false)], .cy (.e 4)⟩, ⟨[], [(3, false)], .nop⟩, ⟨[], [(3, false)], .cy (.e 2)⟩, ⟨[], [(3, false)], .iy (.e 0) (.e 10)⟩, ⟨[], [(3, false)], .nop⟩, ⟨[], [(3, false)], .bi .eql (.e 9) (.e 11)⟩, ⟨[], [], .pk (.e 3) (.c (.b true)) (.e 12)⟩, ⟨[], [], .nop⟩] [some 0, none, some 2, some 13, some 4, none, none, none, none]))
      (.reg [⟨[], [], .nop⟩, ⟨[], [], .nop⟩, ⟨[], [], .iy (.e 0) (.e 4)⟩, ⟨[], [], .nop⟩, ⟨[], [], .nop⟩] [some 0, none, some 2, some 3, some 9, none, none, none, none])))))))))
    ((.seq (.reg [⟨[], [], .nop⟩, ⟨[], [], .un .not (.e 3)⟩] [some 0, none, some 2, none, none, none, none, none, some 9])
    (.cond 8 ((.seq (.reg [⟨[], [], .cs .v (.b false)⟩] [none, some 9, none, none, none, none, none, none, none])
     (.ret))) (.skip)))))))))))
   (.reg [⟨[], [], .nop⟩, ⟨[], [], .bi .add (.e 2) (.c (.n 1))⟩, ⟨[], [], .nop⟩] [some 0, none, some 9, none, none, none, none, none, none])))))))))
 ((.seq (.reg [⟨[], [], .nop⟩, ⟨[], [], .ln (.e 0) []⟩, ⟨[], [], .ca 22 [(.e 9), (.c (.n 1)), (.c (.n 9))] 1⟩, ⟨[], [], .nop⟩] [none, some 10, none, none, none, none, none, none, none])
 (.ret))))))⟩

/-- loop.example/g03401/spec.PlaneOf -/
def ir_spec_PlaneOf : IF := ⟨[], 1, 9, [1, 2],
 (.seq (.reg [⟨[], [], .cs (.o .v) (.l [])⟩, ⟨[], [], .cs .v (.b false)⟩] [some 0, none, none, none, none, none, none, none, none])
 ((.seq (.reg [⟨[], [], .li (.o .v) [(.c (.n (-1)))]⟩, ⟨[], [], .nop⟩] [some 0, none, none, some 9, none, none, none, none, none])
 ((.seq (.reg [⟨[], [], .cs .v (.n 0)⟩] [some 0, none, none, some 3, some 9, none, none, none, none])
 ((.seq ((.seq (.reg [⟨[], [], .cs .v (.n 0)⟩] [some 0, none, none, some 3, some 4, some 9, none, none, none])
 (.block 0 (.loop ((.seq ((.seq (.reg [⟨[], [], .nop⟩, ⟨[], [], .nop⟩, ⟨[], [], .sn (.e 0)⟩, ⟨[], [], .bi .lss (.e 5) (.e 9)⟩, ⟨[], [], .nop⟩, ⟨[], [(10, true)], .cy (.e 0)⟩, ⟨[], [(10, true)], .ca 64 [(.e 11)] 1⟩, ⟨[], [], .pk (.e 10) (.e 12) (.c (.b false))⟩] [some 0, none, none, some 3, some 4, some 5, some 13, none, none])
   (.cond 6 (.skip) (.exit 0))))
   ((.seq (.block 1 ((.seq (.reg [⟨[], [], .nop⟩, ⟨[], [], .nop⟩, ⟨[], [], .sx (.e 0) (.e 5)⟩, ⟨[], [], .bi .eql (.e 9) (.c (.y 117))⟩] [some 0, none, none, some 3, some 4, some 5, none, some 10, none])
    (.cond 7 ((.seq (.reg [⟨[], [], .nop⟩, ⟨[], [], .nop⟩, ⟨[], [], .li (.o .v) [(.e 4)]⟩, ⟨[], [], .ap false (.e 3) (.e 9)⟩, ⟨[], [], .nop⟩] [some 0, none, none, some 10, none, some 5, none, none, none])
     (.reg [⟨[], [], .nop⟩, ⟨[], [], .ln (.e 3) []⟩, ⟨[], [], .bi .sub (.e 9) (.c (.n 1))⟩, ⟨[], [], .nop⟩] [some 0, none, none, some 3, some 10, some 5, none, none, none]))) (.reg [⟨[], [], .nop⟩, ⟨[], [], .nop⟩, ⟨[], [], .ix (.e 3) [] (.e 4)⟩, ⟨[], [], .nop⟩, ⟨[], [], .nop⟩] [some 0, none, none, some 3, some 9, some 5, none, none, none])))))
   (.reg [⟨[], [], .nop⟩, ⟨[], [], .bi .add (.e 5) (.c (.n 1))⟩, ⟨[], [], .nop⟩] [some 0, none, none, some 3, some 4, some 9, none, none, none])))))))))
 ((.seq ((.seq (.reg [⟨[], [], .nop⟩, ⟨[], [], .ca 64 [(.e 0)] 1⟩, ⟨[], [], .un .not (.e 9)⟩] [none, none, none, some 3, none, none, none, none, some 10])
 (.cond 8 ((.seq (.reg [⟨[], [], .li (.o .v) []⟩, ⟨[], [], .nop⟩, ⟨[], [], .cs .v (.b false)⟩] [none, some 9, some 10, none, none, none, none, none, none])
  (.ret))) (.skip))))
 ((.seq (.reg [⟨[], [], .nop⟩, ⟨[], [], .nop⟩, ⟨[], [], .cs .v (.b true)⟩] [none, some 3, some 9, none, none, none, none, none, none])
 (.ret))))))))))))⟩

end Go.Cat

namespace Go.Cat
/-- loop.example/g03401/spec.BinaryOf -/
def ir_spec_BinaryOf : IF := ⟨[], 1, 4, [1, 2],
 (.seq (.reg [⟨[], [], .cs .v (.s [])⟩, ⟨[], [], .cs .v (.b false)⟩] [some 0, none, none, none])
 ((.seq ((.seq (.reg [⟨[], [], .nop⟩, ⟨[], [], .ca 64 [(.e 0)] 1⟩, ⟨[], [], .un .not (.e 4)⟩] [some 0, none, none, some 5])
 (.cond 3 ((.seq (.reg [⟨[], [], .cs .v (.s [])⟩, ⟨[], [], .cs .v (.b false)⟩] [none, some 4, some 5, none])
  (.ret))) (.skip))))
 ((.seq (.reg [⟨[], [], .nop⟩, ⟨[], [], .ca 513 [(.e 0)] 1⟩, ⟨[], [], .nop⟩, ⟨[], [], .cs .v (.b true)⟩] [none, some 4, some 5, none])
 (.ret))))))⟩

/-- loop.example/g03401/spec.IsBinary -/
def ir_spec_IsBinary : IF := ⟨[], 1, 2, [1],
 (.seq (.reg [⟨[], [], .cs .v (.b false)⟩] [some 0, none])
 ((.seq (.reg [⟨[], [], .nop⟩, ⟨[], [], .sn (.e 0)⟩, ⟨[], [], .bi .leq (.e 2) (.c (.n 25))⟩, ⟨[], [], .nop⟩, ⟨[], [(3, true)], .cy (.e 0)⟩, ⟨[], [(3, true)], .ca 188 [(.e 4), (.c (.n 0))] 1⟩, ⟨[], [(3, true)], .cy (.e 0)⟩, ⟨[], [(3, true)], .sn (.e 6)⟩, ⟨[], [(3, true)], .bi .eql (.e 5) (.e 7)⟩, ⟨[], [], .pk (.e 3) (.e 8) (.c (.b false))⟩, ⟨[], [], .nop⟩, ⟨[], [(9, true)], .cy (.e 0)⟩, ⟨[], [(9, true)], .bi .neq (.e 10) (.c (.s []))⟩, ⟨[], [], .pk (.e 9) (.e 11) (.c (.b false))⟩, ⟨[], [], .nop⟩] [none, some 12])
 (.ret))))⟩

/-- loop.example/g03401/spec.NodesOf -/
def ir_spec_NodesOf : IF := ⟨[], 1, 3, [1],
 (.seq (.reg [⟨[], [], .cs .v (.n 0)⟩] [some 0, none, none])
 ((.seq ((.seq (.reg [⟨[], [], .nop⟩, ⟨[], [], .ca 160 [(.e 0)] 1⟩, ⟨[], [], .un .not (.e 3)⟩] [some 0, none, some 4])
 (.cond 2 ((.seq (.reg [⟨[], [], .cs .v (.n (-1))⟩] [none, some 3, none])
  (.ret))) (.skip))))
 ((.seq (.reg [⟨[], [], .nop⟩, ⟨[], [], .sn (.e 0)⟩, ⟨[], [], .bi .sub (.e 3) (.c (.n 1))⟩, ⟨[], [], .bi .quo (.e 4) (.c (.n 3))⟩, ⟨[], [], .nop⟩] [none, some 5, none])
 (.ret))))))⟩

/-- loop.example/g03401/spec.l6Binary -/
def ir_spec_l6Binary : IF := ⟨[], 1, 4, [1],
 (.seq (.reg [⟨[], [], .cs .v (.s [])⟩] [some 0, none, none, none])
 ((.seq ((.seq (.reg [⟨[], [], .nop⟩, ⟨[], [], .bi .eql (.e 0) (.c (.s []))⟩] [some 0, none, none, some 4])
 (.cond 3 ((.seq (.reg [⟨[], [], .cs .v (.s [46])⟩] [none, some 4, none, none])
  (.ret))) (.skip))))
 ((.seq (.reg [⟨[], [], .nop⟩, ⟨[], [], .ca 518 [(.e 0)] 1⟩, ⟨[], [], .nop⟩] [some 0, none, some 4, none])
 ((.seq (.reg [⟨[], [], .nop⟩, ⟨[], [], .nop⟩, ⟨[], [], .ss (.e 0) (some (.c (.n 1))) (some (.e 2))⟩, ⟨[], [], .ca 513 [(.e 4)] 1⟩, ⟨[], [], .bi .add (.c (.s [40])) (.e 5)⟩, ⟨[], [], .nop⟩, ⟨[], [], .nop⟩, ⟨[], [], .bi .add (.e 2) (.c (.n 1))⟩, ⟨[], [], .ss (.e 0) (some (.e 7)) none⟩, ⟨[], [], .ca 513 [(.e 8)] 1⟩, ⟨[], [], .bi .add (.e 6) (.e 9)⟩, ⟨[], [], .bi .add (.e 10) (.c (.s [41]))⟩, ⟨[], [], .nop⟩] [none, some 11, none, none])
 (.ret))))))))⟩

/-- loop.example/g03401/spec.l6End -/
def ir_spec_l6End : IF := ⟨[], 2, 10, [2],
 (.seq (.reg [⟨[], [], .cs .v (.n 0)⟩] [some 0, some 1, none, none, none, none, none, none, none, none])
 ((.seq ((.seq (.reg [⟨[], [], .nop⟩, ⟨[], [], .nop⟩, ⟨[], [], .sn (.e 0)⟩, ⟨[], [], .bi .geq (.e 1) (.e 10)⟩] [some 0, some 1, none, none, none, some 11, none, none, none, none])
 (.cond 5 ((.seq (.reg [⟨[], [], .cs .v (.n (-1))⟩] [none, none, some 10, none, none, none, none, none, none, none])
  (.ret))) (.skip))))
 ((.seq ((.seq (.reg [⟨[], [], .nop⟩, ⟨[], [], .nop⟩, ⟨[], [], .sx (.e 0) (.e 1)⟩, ⟨[], [], .bi .eql (.e 10) (.c (.y 46))⟩] [some 0, some 1, none, none, none, none, some 11, none, none, none])
 (.cond 6 ((.seq (.reg [⟨[], [], .nop⟩, ⟨[], [], .bi .add (.e 1) (.c (.n 1))⟩, ⟨[], [], .nop⟩] [none, none, some 10, none, none, none, none, none, none, none])
  (.ret))) (.skip))))
 ((.seq ((.seq (.reg [⟨[], [], .nop⟩, ⟨[], [], .nop⟩, ⟨[], [], .sx (.e 0) (.e 1)⟩, ⟨[], [], .bi .neq (.e 10) (.c (.y 40))⟩] [some 0, some 1, none, none, none, none, none, some 11, none, none])
 (.cond 7 ((.seq (.reg [⟨[], [], .cs .v (.n (-1))⟩] [none, none, some 10, none, none, none, none, none, none, none])
  (.ret))) (.skip))))
 ((.seq (.reg [⟨[], [], .nop⟩, ⟨[], [], .nop⟩, ⟨[], [], .bi .add (.e 1) (.c (.n 1))⟩, ⟨[], [], .ca 188 [(.e 0), (.e 10)] 1⟩, ⟨[], [], .nop⟩] [some 0, none, none, some 11, none, none, none, none, none, none])
 ((.seq ((.seq (.reg [⟨[], [], .nop⟩, ⟨[], [], .bi .lss (.e 3) (.c (.n 0))⟩] [some 0, none, none, some 3, none, none, none, none, some 10, none])
 (.cond 8 ((.seq (.reg [⟨[], [], .cs .v (.n (-1))⟩] [none, none, some 10, none, none, none, none, none, none, none])
  (.ret))) (.skip))))
 ((.seq (.reg [⟨[], [], .nop⟩, ⟨[], [], .nop⟩, ⟨[], [], .ca 188 [(.e 0), (.e 3)] 1⟩, ⟨[], [], .nop⟩] [some 0, none, none, none, some 10, none, none, none, none, none])
 ((.seq ((.seq (.reg [⟨[], [], .nop⟩, ⟨[], [], .bi .lss (.e 4) (.c (.n 0))⟩, ⟨[], [], .nop⟩, ⟨[], [(10, false)], .cy (.e 4)⟩, ⟨[], [(10, false)], .cy (.e 0)⟩, ⟨[], [(10, false)], .sn (.e 12)⟩, ⟨[], [(10, false)], .bi .geq (.e 11) (.e 13)⟩, ⟨[], [], .pk (.e 10) (.c (.b true)) (.e 14)⟩, ⟨[], [], .nop⟩, ⟨[], [(15, false)], .cy (.e 0)⟩, ⟨[], [(15, false)], .cy (.e 4)⟩, ⟨[], [(15, false)], .sx (.e 16) (.e 17)⟩, ⟨[], [(15, false)], .bi .neq (.e 18) (.c (.y 41))⟩, ⟨[], [], .pk (.e 15) (.c (.b true)) (.e 19)⟩] [none, none, none, none, some 4, none, none, none, none, some 20])
 (.cond 9 ((.seq (.reg [⟨[], [], .cs .v (.n (-1))⟩] [none, none, some 10, none, none, none, none, none, none, none])
  (.ret))) (.skip))))
 ((.seq (.reg [⟨[], [], .nop⟩, ⟨[], [], .bi .add (.e 4) (.c (.n 1))⟩, ⟨[], [], .nop⟩] [none, none, some 10, none, none, none, none, none, none, none])
 (.ret))))))))))))))))))⟩

end Go.Cat

namespace Go.Cat
/-- loop.example/g03401/spec.FormatDiagonals -/
def ir_spec_FormatDiagonals : IF := ⟨[], 1, 8, [1],
 (.seq (.reg [⟨[], [], .cs .v (.s [])⟩] [some 0, none, none, none, none, none, none, none])
 ((.seq (.reg [⟨[], [], .cs .v (.s [])⟩] [some 0, none, some 8, none, none, none, none, none])
 ((.seq ((.seq (.reg [⟨[], [], .cs .v (.n 0)⟩] [some 0, none, some 2, some 8, none, none, none, none])
 (.block 0 (.loop ((.seq ((.seq (.reg [⟨[], [], .nop⟩, ⟨[], [], .nop⟩, ⟨[], [], .ln (.e 0) []⟩, ⟨[], [], .bi .lss (.e 3) (.e 8)⟩] [some 0, none, some 2, some 3, some 9, none, none, none])
   (.cond 4 (.skip) (.exit 0))))
   ((.seq (.block 1 ((.seq ((.seq (.reg [⟨[], [], .nop⟩, ⟨[], [], .nop⟩, ⟨[], [], .ix (.e 0) [] (.e 3)⟩, ⟨[], [], .nop⟩, ⟨[], [], .ln (.e 8) []⟩, ⟨[], [], .bi .neq (.e 9) (.c (.n 2))⟩, ⟨[], [], .nop⟩, ⟨[], [(10, false)], .nop⟩, ⟨[], [(10, false)], .cy (.e 3)⟩, ⟨[], [(10, false)], .ix (.e 0) [] (.e 11)⟩, ⟨[], [(10, false)], .nop⟩, ⟨[], [(10, false)], .iy (.e 12) (.c (.n 0))⟩, ⟨[], [(10, false)], .nop⟩, ⟨[], [(10, false)], .ca 22 [(.e 13), (.c (.n 0)), (.c (.n 9))] 1⟩, ⟨[], [(10, false)], .un .not (.e 14)⟩, ⟨[], [], .pk (.e 10) (.c (.b true)) (.e 15)⟩, ⟨[], [], .nop⟩, ⟨[], [(16, false)], .nop⟩, ⟨[], [(16, false)], .cy (.e 3)⟩, ⟨[], [(16, false)], .ix (.e 0) [] (.e 17)⟩, ⟨[], [(16, false)], .nop⟩, ⟨[], [(16, false)], .iy (.e 18) (.c (.n 1))⟩, ⟨[], [(16, false)], .nop⟩, ⟨[], [(16, false)], .ca 22 [(.e 19), (.c (.n 0)), (.c (.n 9))] 1⟩, ⟨[], [(16, false)], .un .not (.e 20)⟩, ⟨[], [], .pk (.e 16) (.c (.b true)) (.e 21)⟩, ⟨[], [], .nop⟩, ⟨[], [(22, false)], .nop⟩, ⟨[], [(22, false)], .ln (.e 0) []⟩, ⟨[], [(22, false)], .bi .gtr (.e 23) (.c (.n 20))⟩, ⟨[], [], .pk (.e 22) (.c (.b true)) (.e 24)⟩] [some 0, none, some 2, some 3, none, some 25, none, none])
    (.cond 5 ((.seq (.reg [⟨[], [], .cs .v (.s [])⟩] [none, some 8, none, none, none, none, none, none])
     (.ret))) (.skip))))
    ((.seq ((.seq (.reg [⟨[], [], .nop⟩, ⟨[], [], .bi .gtr (.e 3) (.c (.n 0))⟩] [some 0, none, some 2, some 3, none, none, some 8, none])
    (.cond 6 (.reg [⟨[], [], .nop⟩, ⟨[], [], .bi .add (.e 2) (.c (.s [32]))⟩, ⟨[], [], .nop⟩] [some 0, none, some 8, some 3, none, none, none, none]) (.skip))))
    (.reg [⟨[], [], .nop⟩, ⟨[], [], .nop⟩, ⟨[], [], .nop⟩, ⟨[], [], .ix (.e 0) [] (.e 3)⟩, ⟨[], [], .nop⟩, ⟨[], [], .iy (.e 8) (.c (.n 0))⟩, ⟨[], [], .nop⟩, ⟨[], [], .ca 138 [(.e 9)] 1⟩, ⟨[], [], .bi .add (.e 2) (.e 10)⟩, ⟨[], [], .nop⟩, ⟨[], [], .nop⟩, ⟨[], [], .ix (.e 0) [] (.e 3)⟩, ⟨[], [], .nop⟩, ⟨[], [], .iy (.e 12) (.c (.n 1))⟩, ⟨[], [], .nop⟩, ⟨[], [], .ca 138 [(.e 13)] 1⟩, ⟨[], [], .bi .add (.e 11) (.e 14)⟩, ⟨[], [], .nop⟩] [some 0, none, some 15, some 3, none, none, none, none]))))))
   (.reg [⟨[], [], .nop⟩, ⟨[], [], .bi .add (.e 3) (.c (.n 1))⟩, ⟨[], [], .nop⟩] [some 0, none, some 2, some 8, none, none, none, none])))))))))
 ((.seq ((.seq (.reg [⟨[], [], .nop⟩, ⟨[], [], .bi .eql (.e 2) (.c (.s []))⟩] [none, none, some 2, none, none, none, none, some 8])
 (.cond 7 ((.seq (.reg [⟨[], [], .cs .v (.s [110, 111, 110, 101])⟩] [none, some 8, none, none, none, none, none, none])
  (.ret))) (.skip))))
 ((.seq (.reg [⟨[], [], .nop⟩, ⟨[], [], .nop⟩] [none, some 2, none, none, none, none, none, none])
 (.ret))))))))))⟩

/-- loop.example/g03401/spec.TriangulationOf -/
def ir_spec_TriangulationOf : IF := ⟨[], 1, 5, [1, 2],
 (.seq (.reg [⟨[], [], .cs (.o .v) (.l [])⟩, ⟨[], [], .cs .v (.b false)⟩] [some 0, none, none, none, none])
 ((.seq ((.seq (.reg [⟨[], [], .nop⟩, ⟨[], [], .ca 160 [(.e 0)] 1⟩, ⟨[], [], .un .not (.e 5)⟩] [some 0, none, none, none, some 6])
 (.cond 4 ((.seq (.reg [⟨[], [], .li (.o .v) []⟩, ⟨[], [], .nop⟩, ⟨[], [], .cs .v (.b false)⟩] [none, some 5, some 6, none, none])
  (.ret))) (.skip))))
 ((.seq (.reg [⟨[], [], .nop⟩, ⟨[], [], .ca 162 [(.e 0)] 1⟩, ⟨[], [], .bi .add (.e 5) (.c (.n 2))⟩, ⟨[], [], .nop⟩] [some 0, none, none, some 6, none])
 ((.seq (.reg [⟨[], [], .nop⟩, ⟨[], [], .nop⟩, ⟨[], [], .bi .sub (.e 3) (.c (.n 1))⟩, ⟨[], [], .li (.o .v) []⟩, ⟨[], [], .nop⟩, ⟨[], [], .ca 540 [(.e 0), (.c (.n 0)), (.e 5), (.e 6), (.e 3)] 1⟩, ⟨[], [], .nop⟩, ⟨[], [], .cs .v (.b true)⟩] [none, some 7, some 8, none, none])
 (.ret))))))))⟩

/-- loop.example/g03401/spec.l7Before -/
def ir_spec_l7Before : IF := ⟨[], 2, 3, [2],
 (.seq (.reg [⟨[], [], .cs .v (.b false)⟩] [some 0, some 1, none])
 ((.seq (.reg [⟨[], [], .nop⟩, ⟨[], [], .iy (.e 0) (.c (.n 0))⟩, ⟨[], [], .nop⟩, ⟨[], [], .nop⟩, ⟨[], [], .iy (.e 1) (.c (.n 0))⟩, ⟨[], [], .nop⟩, ⟨[], [], .bi .lss (.e 3) (.e 4)⟩, ⟨[], [], .nop⟩, ⟨[], [(5, false)], .nop⟩, ⟨[], [(5, false)], .iy (.e 0) (.c (.n 0))⟩, ⟨[], [(5, false)], .nop⟩, ⟨[], [(5, false)], .nop⟩, ⟨[], [(5, false)], .iy (.e 1) (.c (.n 0))⟩, ⟨[], [(5, false)], .nop⟩, ⟨[], [(5, false)], .bi .eql (.e 6) (.e 7)⟩, ⟨[], [(5, false)], .cy (.e 8)⟩, ⟨[], [(5, false), (9, true)], .nop⟩, ⟨[], [(5, false), (9, true)], .iy (.e 0) (.c (.n 1))⟩, ⟨[], [(5, false), (9, true)], .nop⟩, ⟨[], [(5, false), (9, true)], .nop⟩, ⟨[], [(5, false), (9, true)], .iy (.e 1) (.c (.n 1))⟩, ⟨[], [(5, false), (9, true)], .nop⟩, ⟨[], [(5, false), (9, true)], .bi .lss (.e 10) (.e 11)⟩, ⟨[], [(5, false)], .pk (.e 9) (.e 12) (.c (.b false))⟩, ⟨[], [], .pk (.e 5) (.c (.b true)) (.e 13)⟩, ⟨[], [], .nop⟩] [none, none, some 14])
 (.ret))))⟩

/-- loop.example/g03401/spec.l7Cut -/
def ir_spec_l7Cut : IF := ⟨[], 5, 10, [5],
 (.seq (.reg [⟨[], [], .cs (.o .v) (.l [])⟩] [some 0, some 1, some 2, some 3, some 4, none, none, none, none, none])
 ((.seq ((.seq (.reg [⟨[], [], .nop⟩, ⟨[], [], .bi .eql (.e 0) (.c (.s [46]))⟩] [some 0, some 1, some 2, some 3, some 4, none, none, none, some 10, none])
 (.cond 8 ((.seq (.reg [⟨[], [], .nop⟩, ⟨[], [], .nop⟩] [none, none, none, none, none, some 3, none, none, none, none])
  (.ret))) (.skip))))
 ((.seq ((.seq (.reg [⟨[], [], .nop⟩, ⟨[], [], .nop⟩, ⟨[], [], .bi .sub (.e 2) (.e 1)⟩, ⟨[], [], .bi .gtr (.e 10) (.c (.n 1))⟩, ⟨[], [], .nop⟩, ⟨[], [(11, true)], .cy (.e 1)⟩, ⟨[], [(11, true)], .bi .eql (.e 12) (.c (.n 0))⟩, ⟨[], [(11, true)], .cy (.e 13)⟩, ⟨[], [(11, true), (14, true)], .cy (.e 2)⟩, ⟨[], [(11, true), (14, true)], .cy (.e 4)⟩, ⟨[], [(11, true), (14, true)], .bi .sub (.e 16) (.c (.n 1))⟩, ⟨[], [(11, true), (14, true)], .bi .eql (.e 15) (.e 17)⟩, ⟨[], [(11, true)], .pk (.e 14) (.e 18) (.c (.b false))⟩, ⟨[], [(11, true)], .un .not (.e 19)⟩, ⟨[], [], .pk (.e 11) (.e 20) (.c (.b false))⟩] [some 0, some 1, some 2, some 3, some 4, none, none, none, none, some 21])
 (.cond 9 (.reg [⟨[], [], .cy (.e 3)⟩, ⟨[], [], .nop⟩, ⟨[], [], .nop⟩, ⟨[], [], .li (.o .v) [(.e 1), (.e 2)]⟩, ⟨[], [], .ca 362 [(.e 10), (.e 11)] 1⟩, ⟨[], [], .nop⟩] [some 0, some 1, some 2, some 12, some 4, none, none, none, none, none]) (.skip))))
 ((.seq (.reg [⟨[], [], .nop⟩, ⟨[], [], .ca 188 [(.e 0), (.c (.n 1))] 1⟩, ⟨[], [], .nop⟩] [some 0, some 1, some 2, some 3, some 4, none, some 10, none, none, none])
 ((.seq (.reg [⟨[], [], .nop⟩, ⟨[], [], .bi .add (.e 1) (.c (.n 1))⟩, ⟨[], [], .nop⟩, ⟨[], [], .nop⟩, ⟨[], [], .ss (.e 0) (some (.c (.n 1))) (some (.e 6))⟩, ⟨[], [], .ca 162 [(.e 11)] 1⟩, ⟨[], [], .bi .add (.e 10) (.e 12)⟩, ⟨[], [], .nop⟩] [some 0, some 1, some 2, some 3, some 4, none, some 6, some 13, none, none])
 ((.seq (.reg [⟨[], [], .nop⟩, ⟨[], [], .nop⟩, ⟨[], [], .ss (.e 0) (some (.c (.n 1))) (some (.e 6))⟩, ⟨[], [], .nop⟩, ⟨[], [], .nop⟩, ⟨[], [], .nop⟩, ⟨[], [], .nop⟩, ⟨[], [], .ca 540 [(.e 10), (.e 1), (.e 7), (.e 3), (.e 4)] 1⟩, ⟨[], [], .nop⟩] [some 0, none, some 2, some 11, some 4, none, some 6, some 7, none, none])
 ((.seq (.reg [⟨[], [], .nop⟩, ⟨[], [], .nop⟩, ⟨[], [], .nop⟩, ⟨[], [], .sn (.e 0)⟩, ⟨[], [], .bi .sub (.e 10) (.c (.n 1))⟩, ⟨[], [], .ss (.e 0) (some (.e 6)) (some (.e 11))⟩, ⟨[], [], .nop⟩, ⟨[], [], .nop⟩, ⟨[], [], .nop⟩, ⟨[], [], .nop⟩, ⟨[], [], .ca 540 [(.e 12), (.e 7), (.e 2), (.e 3), (.e 4)] 1⟩, ⟨[], [], .nop⟩] [none, none, none, none, none, some 13, none, none, none, none])
 (.ret))))))))))))))⟩

/-- loop.example/g03401/spec.l7Put -/
def ir_spec_l7Put : IF := ⟨[], 2, 5, [2],
 (.seq (.reg [⟨[], [], .cs (.o .v) (.l [])⟩] [some 0, some 1, none, none, none])
 ((.seq (.reg [⟨[], [], .nop⟩, ⟨[], [], .ln (.e 0) []⟩, ⟨[], [], .nop⟩] [some 0, some 1, none, some 5, none])
 ((.seq (.block 0 (.loop ((.seq ((.seq (.reg [⟨[], [], .nop⟩, ⟨[], [], .bi .gtr (.e 3) (.c (.n 0))⟩, ⟨[], [], .nop⟩, ⟨[], [(5, true)], .cy (.e 1)⟩, ⟨[], [(5, true)], .cy (.e 0)⟩, ⟨[], [(5, true)], .cy (.e 3)⟩, ⟨[], [(5, true)], .bi .sub (.e 8) (.c (.n 1))⟩, ⟨[], [(5, true)], .ix (.e 7) [] (.e 9)⟩, ⟨[], [(5, true)], .nop⟩, ⟨[], [(5, true)], .ca 374 [(.e 6), (.e 10)] 1⟩, ⟨[], [], .pk (.e 5) (.e 11) (.c (.b false))⟩] [some 0, some 1, none, some 3, some 12])
   (.cond 4 (.skip) (.exit 0))))
   (.block 1 (.reg [⟨[], [], .nop⟩, ⟨[], [], .bi .sub (.e 3) (.c (.n 1))⟩, ⟨[], [], .nop⟩] [some 0, some 1, none, some 5, none]))))))
 ((.seq (.reg [⟨[], [], .li (.o .v) []⟩, ⟨[], [], .nop⟩, ⟨[], [], .nop⟩, ⟨[], [], .sb false (.e 0) none (some (.e 3))⟩, ⟨[], [], .ap false (.e 5) (.e 6)⟩, ⟨[], [], .nop⟩, ⟨[], [], .li (.o .v) [(.e 1)]⟩, ⟨[], [], .ap false (.e 7) (.e 8)⟩, ⟨[], [], .nop⟩, ⟨[], [], .nop⟩, ⟨[], [], .sb false (.e 0) (some (.e 3)) none⟩, ⟨[], [], .ap false (.e 9) (.e 10)⟩, ⟨[], [], .nop⟩] [none, none, some 11, none, none])
 (.ret))))))))⟩

end Go.Cat

namespace Go.Cat
/-- loop.example/g03401/spec.BlocksOf -/
def ir_spec_BlocksOf : IF := ⟨[], 1, 6, [1],
 (.seq (.reg [⟨[], [], .cs .v (.l [])⟩] [some 0, none, none, none, none, none])
 ((.seq (.reg [⟨[], [], .li (.o (.o .v)) []⟩, ⟨[], [], .nop⟩] [some 0, none, some 6, none, none, none])
 ((.seq ((.seq (.reg [⟨[], [], .cs .v (.n 0)⟩] [some 0, none, some 2, some 6, none, none])
 (.block 0 (.loop ((.seq ((.seq (.reg [⟨[], [], .nop⟩, ⟨[], [], .nop⟩, ⟨[], [], .ln (.e 0) []⟩, ⟨[], [], .bi .lss (.e 3) (.e 6)⟩, ⟨[], [], .nop⟩, ⟨[], [(7, true)], .nop⟩, ⟨[], [(7, true)], .ca 324 [(.e 0)] 1⟩, ⟨[], [], .pk (.e 7) (.e 8) (.c (.b false))⟩] [some 0, none, some 2, some 3, some 9, none])
   (.cond 4 (.skip) (.exit 0))))
   ((.seq (.block 1 ((.seq ((.seq (.reg [⟨[], [], .nop⟩, ⟨[], [], .nop⟩, ⟨[], [], .iy (.e 0) (.e 3)⟩, ⟨[], [], .nop⟩, ⟨[], [], .nop⟩, ⟨[], [], .ln (.e 2) []⟩, ⟨[], [], .bi .eql (.e 6) (.e 7)⟩] [some 0, none, some 2, some 3, none, some 8])
    (.cond 5 (.reg [⟨[], [], .nop⟩, ⟨[], [], .li (.o .v) []⟩, ⟨[], [], .li (.o (.o .v)) [(.e 6)]⟩, ⟨[], [], .ap false (.e 2) (.e 7)⟩, ⟨[], [], .nop⟩] [some 0, none, some 8, some 3, none, none]) (.skip))))
    (.reg [⟨[], [], .ln (.e 2) []⟩, ⟨[], [], .nop⟩, ⟨[], [], .nop⟩, ⟨[], [], .nop⟩, ⟨[], [], .iy (.e 0) (.e 3)⟩, ⟨[], [], .nop⟩, ⟨[], [], .nop⟩, ⟨[], [], .nop⟩, ⟨[], [], .nop⟩, ⟨[], [], .iy (.e 0) (.e 3)⟩, ⟨[], [], .nop⟩, ⟨[], [], .ix (.e 2) [] (.e 8)⟩, ⟨[], [], .sp 2 [.e 8] 1⟩, ⟨[], [], .nop⟩, ⟨[], [], .li (.o .v) [(.e 3)]⟩, ⟨[], [], .ap false (.e 10) (.e 12)⟩, ⟨[], [], .ix (.e 2) [] (.e 7)⟩, ⟨[], [], .up 11 [.e 7] (.e 13)⟩] [some 0, none, some 15, some 3, none, none]))))
   (.reg [⟨[], [], .nop⟩, ⟨[], [], .bi .add (.e 3) (.c (.n 1))⟩, ⟨[], [], .nop⟩] [some 0, none, some 2, some 6, none, none])))))))))
 ((.seq (.reg [⟨[], [], .nop⟩, ⟨[], [], .nop⟩] [none, some 2, none, none, none, none])
 (.ret))))))))⟩

/-- loop.example/g03401/spec.FormatPartition -/
def ir_spec_FormatPartition : IF := ⟨[], 1, 9, [1],
 (.seq (.reg [⟨[], [], .cs .v (.s [])⟩] [some 0, none, none, none, none, none, none, none, none])
 ((.seq (.reg [⟨[], [], .nop⟩, ⟨[], [], .ca 302 [(.e 0)] 1⟩, ⟨[], [], .nop⟩] [none, none, some 9, none, none, none, none, none, none])
 ((.seq (.reg [⟨[], [], .cs .v (.s [])⟩] [none, none, some 2, some 9, none, none, none, none, none])
 ((.seq ((.seq (.reg [⟨[], [], .cs .v (.n 0)⟩] [none, none, some 2, some 3, some 9, none, none, none, none])
 (.block 0 (.loop ((.seq ((.seq (.reg [⟨[], [], .nop⟩, ⟨[], [], .nop⟩, ⟨[], [], .ln (.e 2) []⟩, ⟨[], [], .bi .lss (.e 4) (.e 9)⟩] [none, none, some 2, some 3, some 4, none, some 10, none, none])
   (.cond 6 (.skip) (.exit 0))))
   ((.seq (.block 1 ((.seq ((.seq (.reg [⟨[], [], .nop⟩, ⟨[], [], .bi .gtr (.e 4) (.c (.n 0))⟩] [none, none, some 2, some 3, some 4, none, none, some 9, none])
    (.cond 7 (.reg [⟨[], [], .nop⟩, ⟨[], [], .bi .add (.e 3) (.c (.s [124]))⟩, ⟨[], [], .nop⟩] [none, none, some 2, some 9, some 4, none, none, none, none]) (.skip))))
    ((.seq (.reg [⟨[], [], .cs .v (.n 0)⟩] [none, none, some 2, some 3, some 4, some 9, none, none, none])
    (.block 2 (.loop ((.seq ((.seq (.reg [⟨[], [], .nop⟩, ⟨[], [], .nop⟩, ⟨[], [], .nop⟩, ⟨[], [], .ix (.e 2) [] (.e 4)⟩, ⟨[], [], .nop⟩, ⟨[], [], .ln (.e 9) []⟩, ⟨[], [], .bi .lss (.e 5) (.e 10)⟩] [none, none, some 2, some 3, some 4, some 5, none, none, some 11])
      (.cond 8 (.skip) (.exit 2))))
      ((.seq (.block 3 (.reg [⟨[], [], .nop⟩, ⟨[], [], .nop⟩, ⟨[], [], .nop⟩, ⟨[], [], .ix (.e 2) [] (.e 4)⟩, ⟨[], [], .nop⟩, ⟨[], [], .nop⟩, ⟨[], [], .ix (.e 9) [] (.e 5)⟩, ⟨[], [], .nop⟩, ⟨[], [], .bi .add (.e 10) (.c (.n 1))⟩, ⟨[], [], .ca 138 [(.e 11)] 1⟩, ⟨[], [], .bi .add (.e 3) (.e 12)⟩, ⟨[], [], .nop⟩] [none, none, some 2, some 13, some 4, some 5, none, none, none]))
      (.reg [⟨[], [], .nop⟩, ⟨[], [], .bi .add (.e 5) (.c (.n 1))⟩, ⟨[], [], .nop⟩] [none, none, some 2, some 3, some 4, some 9, none, none, none]))))))))))))
   (.reg [⟨[], [], .nop⟩, ⟨[], [], .bi .add (.e 4) (.c (.n 1))⟩, ⟨[], [], .nop⟩] [none, none, some 2, some 3, some 9, none, none, none, none])))))))))
 ((.seq (.reg [⟨[], [], .nop⟩, ⟨[], [], .nop⟩] [none, some 3, none, none, none, none, none, none, none])
 (.ret))))))))))⟩

/-- loop.example/g03401/spec.IsPartition -/
def ir_spec_IsPartition : IF := ⟨[], 1, 7, [1],
 (.seq (.reg [⟨[], [], .cs .v (.b false)⟩] [some 0, none, none, none, none, none, none])
 ((.seq (.reg [⟨[], [], .cs .v (.n 0)⟩] [some 0, none, some 7, none, none, none, none])
 ((.seq ((.seq (.reg [⟨[], [], .cs .v (.n 0)⟩] [some 0, none, some 2, some 7, none, none, none])
 (.block 0 (.loop ((.seq ((.seq (.reg [⟨[], [], .nop⟩, ⟨[], [], .nop⟩, ⟨[], [], .ln (.e 0) []⟩, ⟨[], [], .bi .lss (.e 3) (.e 7)⟩] [some 0, none, some 2, some 3, some 8, none, none])
   (.cond 4 (.skip) (.exit 0))))
   ((.seq (.block 1 ((.seq ((.seq (.reg [⟨[], [], .nop⟩, ⟨[], [], .nop⟩, ⟨[], [], .iy (.e 0) (.e 3)⟩, ⟨[], [], .nop⟩, ⟨[], [], .nop⟩, ⟨[], [], .ca 22 [(.e 7), (.c (.n 0)), (.e 2)] 1⟩, ⟨[], [], .un .not (.e 8)⟩] [some 0, none, some 2, some 3, none, some 9, none])
    (.cond 5 ((.seq (.reg [⟨[], [], .cs .v (.b false)⟩] [none, some 7, none, none, none, none, none])
     (.ret))) (.skip))))
    ((.seq (.reg [⟨[], [], .nop⟩, ⟨[], [], .nop⟩, ⟨[], [], .iy (.e 0) (.e 3)⟩, ⟨[], [], .nop⟩, ⟨[], [], .nop⟩, ⟨[], [], .bi .eql (.e 7) (.e 2)⟩] [some 0, none, some 2, some 3, none, none, some 8])
    (.cond 6 (.reg [⟨[], [], .nop⟩, ⟨[], [], .bi .add (.e 2) (.c (.n 1))⟩, ⟨[], [], .nop⟩] [some 0, none, some 7, some 3, none, none, none]) (.skip)))))))
   (.reg [⟨[], [], .nop⟩, ⟨[], [], .bi .add (.e 3) (.c (.n 1))⟩, ⟨[], [], .nop⟩] [some 0, none, some 2, some 7, none, none, none])))))))))
 ((.seq (.reg [⟨[], [], .nop⟩, ⟨[], [], .ln (.e 0) []⟩, ⟨[], [], .bi .leq (.e 7) (.c (.n 8))⟩, ⟨[], [], .nop⟩] [none, some 8, none, none, none, none, none])
 (.ret))))))))⟩

/-- loop.example/g03401/spec.PartitionOf -/
def ir_spec_PartitionOf : IF := ⟨[], 1, 12, [1, 2],
 (.seq (.reg [⟨[], [], .cs (.o .v) (.l [])⟩, ⟨[], [], .cs .v (.b false)⟩] [some 0, none, none, none, none, none, none, none, none, none, none, none])
 ((.seq ((.seq (.reg [⟨[], [], .nop⟩, ⟨[], [], .ca 64 [(.e 0)] 1⟩, ⟨[], [], .un .not (.e 12)⟩] [some 0, none, none, none, none, none, none, none, some 13, none, none, none])
 (.cond 8 ((.seq (.reg [⟨[], [], .li (.o .v) []⟩, ⟨[], [], .nop⟩, ⟨[], [], .cs .v (.b false)⟩] [none, some 12, some 13, none, none, none, none, none, none, none, none, none])
  (.ret))) (.skip))))
 ((.seq (.reg [⟨[], [], .nop⟩, ⟨[], [], .sn (.e 0)⟩, ⟨[], [], .bi .quo (.e 12) (.c (.n 2))⟩, ⟨[], [], .mk (.n 0) (.e 13) (.e 13)⟩, ⟨[], [], .nop⟩] [some 0, none, none, some 14, none, none, none, none, none, none, none, none])
 ((.seq (.reg [⟨[], [], .li (.o .v) []⟩, ⟨[], [], .nop⟩] [some 0, none, none, some 3, some 12, none, none, none, none, none, none, none])
 ((.seq (.reg [⟨[], [], .cs .v (.n 0)⟩] [some 0, none, none, some 3, some 4, some 12, none, none, none, none, none, none])
 ((.seq (.reg [⟨[], [], .cs .v (.n 0)⟩] [some 0, none, none, some 3, some 4, some 5, some 12, none, none, none, none, none])
 ((.seq ((.seq (.reg [⟨[], [], .cs .v (.n 0)⟩] [some 0, none, none, some 3, some 4, some 5, some 6, some 12, none, none, none, none])
 (.block 0 (.loop ((.seq ((.seq (.reg [⟨[], [], .nop⟩, ⟨[], [], .nop⟩, ⟨[], [], .sn (.e 0)⟩, ⟨[], [], .bi .lss (.e 7) (.e 12)⟩] [some 0, none, none, some 3, some 4, some 5, some 6, some 7, none, some 13, none, none])
   (.cond 9 (.skip) (.exit 0))))
   ((.seq (.block 1 ((.seq ((.seq (.reg [⟨[], [], .nop⟩, ⟨[], [], .nop⟩, ⟨[], [], .sx (.e 0) (.e 7)⟩, ⟨[], [], .bi .eql (.e 12) (.c (.y 117))⟩] [some 0, none, none, some 3, some 4, some 5, some 6, some 7, none, none, some 13, none])
    (.cond 10 ((.seq (.reg [⟨[], [], .nop⟩, ⟨[], [], .nop⟩, ⟨[], [], .li (.o .v) [(.e 5)]⟩, ⟨[], [], .ap false (.e 4) (.e 12)⟩, ⟨[], [], .nop⟩] [some 0, none, none, some 3, some 13, some 5, some 6, some 7, none, none, none, none])
     ((.seq (.reg [⟨[], [], .nop⟩, ⟨[], [], .bi .add (.e 5) (.c (.n 1))⟩, ⟨[], [], .nop⟩] [some 0, none, none, some 3, some 4, some 12, some 6, some 7, none, none, none, none])
     (.exit 1))))) (.skip))))
    ((.seq (.reg [⟨[], [], .nop⟩, ⟨[], [], .nop⟩, ⟨[], [], .nop⟩, ⟨[], [], .ln (.e 4) []⟩, ⟨[], [], .bi .sub (.e 12) (.c (.n 1))⟩, ⟨[], [], .ix (.e 4) [] (.e 13)⟩, ⟨[], [], .nop⟩, ⟨[], [], .nop⟩, ⟨[], [], .ix (.e 3) [] (.e 14)⟩, ⟨[], [], .up 3 [.e 14] (.e 6)⟩] [some 0, none, none, some 16, some 4, some 5, some 6, some 7, none, none, none, none])
    ((.seq (.reg [⟨[], [], .nop⟩, ⟨[], [], .nop⟩, ⟨[], [], .ln (.e 4) []⟩, ⟨[], [], .bi .sub (.e 12) (.c (.n 1))⟩, ⟨[], [], .sb true (.e 4) none (some (.e 13))⟩, ⟨[], [], .nop⟩] [some 0, none, none, some 3, some 14, some 5, some 6, some 7, none, none, none, none])
    ((.seq (.reg [⟨[], [], .nop⟩, ⟨[], [], .bi .add (.e 7) (.c (.n 1))⟩, ⟨[], [], .nop⟩, ⟨[], [], .sn (.e 0)⟩, ⟨[], [], .bi .eql (.e 12) (.e 13)⟩, ⟨[], [], .nop⟩, ⟨[], [(14, false)], .cy (.e 0)⟩, ⟨[], [(14, false)], .cy (.e 7)⟩, ⟨[], [(14, false)], .bi .add (.e 16) (.c (.n 1))⟩, ⟨[], [(14, false)], .sx (.e 15) (.e 17)⟩, ⟨[], [(14, false)], .bi .eql (.e 18) (.c (.y 117))⟩, ⟨[], [], .pk (.e 14) (.c (.b true)) (.e 19)⟩] [some 0, none, none, some 3, some 4, some 5, some 6, some 7, none, none, none, some 20])
    (.cond 11 (.reg [⟨[], [], .nop⟩, ⟨[], [], .bi .add (.e 6) (.c (.n 1))⟩, ⟨[], [], .nop⟩] [some 0, none, none, some 3, some 4, some 5, some 12, some 7, none, none, none, none]) (.skip)))))))))))
   (.reg [⟨[], [], .nop⟩, ⟨[], [], .bi .add (.e 7) (.c (.n 1))⟩, ⟨[], [], .nop⟩] [some 0, none, none, some 3, some 4, some 5, some 6, some 12, none, none, none, none])))))))))
 ((.seq (.reg [⟨[], [], .nop⟩, ⟨[], [], .ca 323 [(.e 3)] 1⟩, ⟨[], [], .nop⟩, ⟨[], [], .cs .v (.b true)⟩] [none, some 12, some 13, none, none, none, none, none, none, none, none, none])
 (.ret))))))))))))))))⟩

/-- loop.example/g03401/spec.l8Renumber -/
def ir_spec_l8Renumber : IF := ⟨[], 1, 11, [1],
 (.seq (.reg [⟨[], [], .cs (.o .v) (.l [])⟩] [some 0, none, none, none, none, none, none, none, none, none, none])
 ((.seq (.reg [⟨[], [], .li (.o .v) []⟩, ⟨[], [], .nop⟩] [some 0, none, some 11, none, none, none, none, none, none, none, none])
 ((.seq (.reg [⟨[], [], .li (.o .v) []⟩, ⟨[], [], .nop⟩] [some 0, none, some 2, some 11, none, none, none, none, none, none, none])
 ((.seq ((.seq (.reg [⟨[], [], .cs .v (.n 0)⟩] [some 0, none, some 2, some 3, some 11, none, none, none, none, none, none])
 (.block 0 (.loop ((.seq ((.seq (.reg [⟨[], [], .nop⟩, ⟨[], [], .nop⟩, ⟨[], [], .ln (.e 0) []⟩, ⟨[], [], .bi .lss (.e 4) (.e 11)⟩] [some 0, none, some 2, some 3, some 4, none, none, some 12, none, none, none])
   (.cond 7 (.skip) (.exit 0))))
   ((.seq (.block 1 ((.seq (.reg [⟨[], [], .cs .v (.n (-1))⟩] [some 0, none, some 2, some 3, some 4, some 11, none, none, none, none, none])
    ((.seq ((.seq (.reg [⟨[], [], .cs .v (.n 0)⟩] [some 0, none, some 2, some 3, some 4, some 5, some 11, none, none, none, none])
    (.block 2 (.loop ((.seq ((.seq (.reg [⟨[], [], .nop⟩, ⟨[], [], .nop⟩, ⟨[], [], .ln (.e 3) []⟩, ⟨[], [], .bi .lss (.e 6) (.e 11)⟩] [some 0, none, some 2, some 3, some 4, some 5, some 6, none, some 12, none, none])
      (.cond 8 (.skip) (.exit 2))))
      ((.seq (.block 3 ((.seq (.reg [⟨[], [], .nop⟩, ⟨[], [], .nop⟩, ⟨[], [], .ix (.e 3) [] (.e 6)⟩, ⟨[], [], .nop⟩, ⟨[], [], .nop⟩, ⟨[], [], .nop⟩, ⟨[], [], .iy (.e 0) (.e 4)⟩, ⟨[], [], .nop⟩, ⟨[], [], .bi .eql (.e 11) (.e 12)⟩] [some 0, none, some 2, some 3, some 4, some 5, some 6, none, none, some 13, none])
       (.cond 9 (.reg [⟨[], [], .nop⟩, ⟨[], [], .nop⟩] [some 0, none, some 2, some 3, some 4, some 6, some 6, none, none, none, none]) (.skip)))))
      (.reg [⟨[], [], .nop⟩, ⟨[], [], .bi .add (.e 6) (.c (.n 1))⟩, ⟨[], [], .nop⟩] [some 0, none, some 2, some 3, some 4, some 5, some 11, none, none, none, none])))))))))
    ((.seq ((.seq (.reg [⟨[], [], .nop⟩, ⟨[], [], .bi .lss (.e 5) (.c (.n 0))⟩] [some 0, none, some 2, some 3, some 4, some 5, none, none, none, none, some 11])
    (.cond 10 ((.seq (.reg [⟨[], [], .nop⟩, ⟨[], [], .ln (.e 3) []⟩, ⟨[], [], .nop⟩] [some 0, none, some 2, some 3, some 4, some 11, none, none, none, none, none])
     (.reg [⟨[], [], .nop⟩, ⟨[], [], .nop⟩, ⟨[], [], .nop⟩, ⟨[], [], .iy (.e 0) (.e 4)⟩, ⟨[], [], .nop⟩, ⟨[], [], .li (.o .v) [(.e 11)]⟩, ⟨[], [], .ap false (.e 3) (.e 12)⟩, ⟨[], [], .nop⟩] [some 0, none, some 2, some 13, some 4, some 5, none, none, none, none, none]))) (.skip))))
    (.reg [⟨[], [], .nop⟩, ⟨[], [], .nop⟩, ⟨[], [], .li (.o .v) [(.e 5)]⟩, ⟨[], [], .ap false (.e 2) (.e 11)⟩, ⟨[], [], .nop⟩] [some 0, none, some 12, some 3, some 4, none, none, none, none, none, none]))))))))
   (.reg [⟨[], [], .nop⟩, ⟨[], [], .bi .add (.e 4) (.c (.n 1))⟩, ⟨[], [], .nop⟩] [some 0, none, some 2, some 3, some 11, none, none, none, none, none, none])))))))))
 ((.seq (.reg [⟨[], [], .nop⟩, ⟨[], [], .nop⟩] [none, some 2, none, none, none, none, none, none, none, none, none])
 (.ret))))))))))⟩

end Go.Cat

namespace Go.Cat
/-- loop.example/g03401/spec.FormatMatching -/
def ir_spec_FormatMatching : IF := ⟨[], 1, 8, [1],
 (.seq (.reg [⟨[], [], .cs .v (.s [])⟩] [some 0, none, none, none, none, none, none, none])
 ((.seq (.reg [⟨[], [], .cs .v (.s [])⟩] [some 0, none, some 8, none, none, none, none, none])
 ((.seq ((.seq (.reg [⟨[], [], .cs .v (.n 0)⟩] [some 0, none, some 2, some 8, none, none, none, none])
 (.block 0 (.loop ((.seq ((.seq (.reg [⟨[], [], .nop⟩, ⟨[], [], .nop⟩, ⟨[], [], .ln (.e 0) []⟩, ⟨[], [], .bi .lss (.e 3) (.e 8)⟩, ⟨[], [], .nop⟩, ⟨[], [(9, true)], .nop⟩, ⟨[], [(9, true)], .ca 379 [(.e 0)] 1⟩, ⟨[], [], .pk (.e 9) (.e 10) (.c (.b false))⟩] [some 0, none, some 2, some 3, some 11, none, none, none])
   (.cond 4 (.skip) (.exit 0))))
   ((.seq (.block 1 ((.seq (.reg [⟨[], [], .nop⟩, ⟨[], [], .nop⟩, ⟨[], [], .iy (.e 0) (.e 3)⟩, ⟨[], [], .nop⟩, ⟨[], [], .nop⟩, ⟨[], [], .bi .gtr (.e 8) (.e 3)⟩] [some 0, none, some 2, some 3, none, some 9, none, none])
    (.cond 5 ((.seq ((.seq (.reg [⟨[], [], .nop⟩, ⟨[], [], .bi .neq (.e 2) (.c (.s []))⟩] [some 0, none, some 2, some 3, none, none, some 8, none])
     (.cond 6 (.reg [⟨[], [], .nop⟩, ⟨[], [], .bi .add (.e 2) (.c (.s [32]))⟩, ⟨[], [], .nop⟩] [some 0, none, some 8, some 3, none, none, none, none]) (.skip))))
     (.reg [⟨[], [], .nop⟩, ⟨[], [], .nop⟩, ⟨[], [], .ca 138 [(.e 3)] 1⟩, ⟨[], [], .bi .add (.e 2) (.e 8)⟩, ⟨[], [], .bi .add (.e 9) (.c (.s [45]))⟩, ⟨[], [], .nop⟩, ⟨[], [], .nop⟩, ⟨[], [], .iy (.e 0) (.e 3)⟩, ⟨[], [], .nop⟩, ⟨[], [], .ca 138 [(.e 11)] 1⟩, ⟨[], [], .bi .add (.e 10) (.e 12)⟩, ⟨[], [], .nop⟩] [some 0, none, some 13, some 3, none, none, none, none]))) (.skip)))))
   (.reg [⟨[], [], .nop⟩, ⟨[], [], .bi .add (.e 3) (.c (.n 1))⟩, ⟨[], [], .nop⟩] [some 0, none, some 2, some 8, none, none, none, none])))))))))
 ((.seq ((.seq (.reg [⟨[], [], .nop⟩, ⟨[], [], .bi .eql (.e 2) (.c (.s []))⟩, ⟨[], [], .nop⟩, ⟨[], [(8, true)], .nop⟩, ⟨[], [(8, true)], .ln (.e 0) []⟩, ⟨[], [(8, true)], .bi .eql (.e 9) (.c (.n 0))⟩, ⟨[], [], .pk (.e 8) (.e 10) (.c (.b false))⟩] [none, none, some 2, none, none, none, none, some 11])
 (.cond 7 ((.seq (.reg [⟨[], [], .cs .v (.s [110, 111, 110, 101])⟩] [none, some 8, none, none, none, none, none, none])
  (.ret))) (.skip))))
 ((.seq (.reg [⟨[], [], .nop⟩, ⟨[], [], .nop⟩] [none, some 2, none, none, none, none, none, none])
 (.ret))))))))))⟩

/-- loop.example/g03401/spec.IsMatching -/
def ir_spec_IsMatching : IF := ⟨[], 1, 5, [1],
 (.seq (.reg [⟨[], [], .cs .v (.b false)⟩] [some 0, none, none, none, none])
 ((.seq ((.seq (.reg [⟨[], [], .cs .v (.n 0)⟩] [some 0, none, some 5, none, none])
 (.block 0 (.loop ((.seq ((.seq (.reg [⟨[], [], .nop⟩, ⟨[], [], .nop⟩, ⟨[], [], .ln (.e 0) []⟩, ⟨[], [], .bi .lss (.e 2) (.e 5)⟩] [some 0, none, some 2, some 6, none])
   (.cond 3 (.skip) (.exit 0))))
   ((.seq (.block 1 ((.seq (.reg [⟨[], [], .nop⟩, ⟨[], [], .nop⟩, ⟨[], [], .iy (.e 0) (.e 2)⟩, ⟨[], [], .nop⟩, ⟨[], [], .nop⟩, ⟨[], [], .ln (.e 0) []⟩, ⟨[], [], .bi .sub (.e 6) (.c (.n 1))⟩, ⟨[], [], .ca 22 [(.e 5), (.c (.n 0)), (.e 7)] 1⟩, ⟨[], [], .un .not (.e 8)⟩, ⟨[], [], .nop⟩, ⟨[], [(9, false)], .nop⟩, ⟨[], [(9, false)], .cy (.e 2)⟩, ⟨[], [(9, false)], .iy (.e 0) (.e 10)⟩, ⟨[], [(9, false)], .nop⟩, ⟨[], [(9, false)], .cy (.e 2)⟩, ⟨[], [(9, false)], .bi .eql (.e 11) (.e 12)⟩, ⟨[], [], .pk (.e 9) (.c (.b true)) (.e 13)⟩, ⟨[], [], .nop⟩, ⟨[], [(14, false)], .nop⟩, ⟨[], [(14, false)], .nop⟩, ⟨[], [(14, false)], .cy (.e 2)⟩, ⟨[], [(14, false)], .iy (.e 0) (.e 15)⟩, ⟨[], [(14, false)], .nop⟩, ⟨[], [(14, false)], .iy (.e 0) (.e 16)⟩, ⟨[], [(14, false)], .nop⟩, ⟨[], [(14, false)], .cy (.e 2)⟩, ⟨[], [(14, false)], .bi .neq (.e 17) (.e 18)⟩, ⟨[], [], .pk (.e 14) (.c (.b true)) (.e 19)⟩] [some 0, none, some 2, none, some 20])
    (.cond 4 ((.seq (.reg [⟨[], [], .cs .v (.b false)⟩] [none, some 5, none, none, none])
     (.ret))) (.skip)))))
   (.reg [⟨[], [], .nop⟩, ⟨[], [], .bi .add (.e 2) (.c (.n 1))⟩, ⟨[], [], .nop⟩] [some 0, none, some 5, none, none])))))))))
 ((.seq (.reg [⟨[], [], .nop⟩, ⟨[], [], .ln (.e 0) []⟩, ⟨[], [], .bi .leq (.e 5) (.c (.n 16))⟩, ⟨[], [], .nop⟩] [none, some 6, none, none, none])
 (.ret))))))⟩

/-- loop.example/g03401/spec.MatchingOf -/
def ir_spec_MatchingOf : IF := ⟨[], 1, 6, [1, 2],
 (.seq (.reg [⟨[], [], .cs (.o .v) (.l [])⟩, ⟨[], [], .cs .v (.b false)⟩] [some 0, none, none, none, none, none])
 ((.seq (.reg [⟨[], [], .li (.o .v) []⟩, ⟨[], [], .nop⟩] [some 0, none, none, some 6, none, none])
 ((.seq ((.seq (.reg [⟨[], [], .cs .v (.n 0)⟩] [some 0, none, none, some 3, some 6, none])
 (.block 0 (.loop ((.seq ((.seq (.reg [⟨[], [], .nop⟩, ⟨[], [], .nop⟩, ⟨[], [], .sn (.e 0)⟩, ⟨[], [], .bi .lss (.e 4) (.e 6)⟩, ⟨[], [], .nop⟩, ⟨[], [(7, true)], .cy (.e 0)⟩, ⟨[], [(7, true)], .ca 64 [(.e 8)] 1⟩, ⟨[], [], .pk (.e 7) (.e 9) (.c (.b false))⟩] [some 0, none, none, some 3, some 4, some 10])
   (.cond 5 (.skip) (.exit 0))))
   ((.seq (.block 1 (.reg [⟨[], [], .nop⟩, ⟨[], [], .nop⟩, ⟨[], [], .nop⟩, ⟨[], [], .ca 370 [(.e 0), (.e 4)] 1⟩, ⟨[], [], .li (.o .v) [(.e 6)]⟩, ⟨[], [], .ap false (.e 3) (.e 7)⟩, ⟨[], [], .nop⟩] [some 0, none, none, some 8, some 4, none]))
   (.reg [⟨[], [], .nop⟩, ⟨[], [], .bi .add (.e 4) (.c (.n 1))⟩, ⟨[], [], .nop⟩] [some 0, none, none, some 3, some 6, none])))))))))
 ((.seq (.reg [⟨[], [], .nop⟩, ⟨[], [], .nop⟩, ⟨[], [], .ca 64 [(.e 0)] 1⟩, ⟨[], [], .nop⟩, ⟨[], [], .nop⟩] [none, some 3, some 6, none, none, none])
 (.ret))))))))⟩

end Go.Cat

namespace Go.Cat
/-- loop.example/g03401/spec.PermutationOf -/
def ir_spec_PermutationOf : IF := ⟨[], 1, 11, [1, 2],
 (.seq (.reg [⟨[], [], .cs (.o .v) (.l [])⟩, ⟨[], [], .cs .v (.b false)⟩] [some 0, none, none, none, none, none, none, none, none, none, none])
 ((.seq ((.seq (.reg [⟨[], [], .nop⟩, ⟨[], [], .ca 64 [(.e 0)] 1⟩, ⟨[], [], .un .not (.e 11)⟩] [some 0, none, none, none, none, none, none, none, some 12, none, none])
 (.cond 8 ((.seq (.reg [⟨[], [], .li (.o .v) []⟩, ⟨[], [], .nop⟩, ⟨[], [], .cs .v (.b false)⟩] [none, some 11, some 12, none, none, none, none, none, none, none, none])
  (.ret))) (.skip))))
 ((.seq (.reg [⟨[], [], .nop⟩, ⟨[], [], .sn (.e 0)⟩, ⟨[], [], .bi .quo (.e 11) (.c (.n 2))⟩, ⟨[], [], .mk (.n 0) (.e 12) (.e 12)⟩, ⟨[], [], .nop⟩] [some 0, none, none, some 13, none, none, none, none, none, none, none])
 ((.seq (.reg [⟨[], [], .li (.o .v) []⟩, ⟨[], [], .nop⟩] [some 0, none, none, some 3, some 11, none, none, none, none, none, none])
 ((.seq (.reg [⟨[], [], .cs .v (.n 0)⟩] [some 0, none, none, some 3, some 4, some 11, none, none, none, none, none])
 ((.seq (.reg [⟨[], [], .cs .v (.n 0)⟩] [some 0, none, none, some 3, some 4, some 5, some 11, none, none, none, none])
 ((.seq ((.seq (.reg [⟨[], [], .cs .v (.n 0)⟩] [some 0, none, none, some 3, some 4, some 5, some 6, some 11, none, none, none])
 (.block 0 (.loop ((.seq ((.seq (.reg [⟨[], [], .nop⟩, ⟨[], [], .nop⟩, ⟨[], [], .sn (.e 0)⟩, ⟨[], [], .bi .lss (.e 7) (.e 11)⟩] [some 0, none, none, some 3, some 4, some 5, some 6, some 7, none, some 12, none])
   (.cond 9 (.skip) (.exit 0))))
   ((.seq (.block 1 ((.seq ((.seq (.reg [⟨[], [], .nop⟩, ⟨[], [], .nop⟩, ⟨[], [], .sx (.e 0) (.e 7)⟩, ⟨[], [], .bi .eql (.e 11) (.c (.y 117))⟩] [some 0, none, none, some 3, some 4, some 5, some 6, some 7, none, none, some 12])
    (.cond 10 ((.seq (.reg [⟨[], [], .nop⟩, ⟨[], [], .nop⟩, ⟨[], [], .li (.o .v) [(.e 5)]⟩, ⟨[], [], .ap false (.e 4) (.e 11)⟩, ⟨[], [], .nop⟩] [some 0, none, none, some 3, some 12, some 5, some 6, some 7, none, none, none])
     ((.seq (.reg [⟨[], [], .nop⟩, ⟨[], [], .bi .add (.e 5) (.c (.n 1))⟩, ⟨[], [], .nop⟩] [some 0, none, none, some 3, some 4, some 11, some 6, some 7, none, none, none])
     (.exit 1))))) (.skip))))
    ((.seq (.reg [⟨[], [], .nop⟩, ⟨[], [], .nop⟩, ⟨[], [], .nop⟩, ⟨[], [], .ln (.e 4) []⟩, ⟨[], [], .bi .sub (.e 11) (.c (.n 1))⟩, ⟨[], [], .ix (.e 4) [] (.e 12)⟩, ⟨[], [], .nop⟩, ⟨[], [], .nop⟩, ⟨[], [], .ix (.e 3) [] (.e 13)⟩, ⟨[], [], .up 3 [.e 13] (.e 6)⟩] [some 0, none, none, some 15, some 4, some 5, some 6, some 7, none, none, none])
    ((.seq (.reg [⟨[], [], .nop⟩, ⟨[], [], .nop⟩, ⟨[], [], .ln (.e 4) []⟩, ⟨[], [], .bi .sub (.e 11) (.c (.n 1))⟩, ⟨[], [], .sb true (.e 4) none (some (.e 12))⟩, ⟨[], [], .nop⟩] [some 0, none, none, some 3, some 13, some 5, some 6, some 7, none, none, none])
    (.reg [⟨[], [], .nop⟩, ⟨[], [], .bi .add (.e 6) (.c (.n 1))⟩, ⟨[], [], .nop⟩] [some 0, none, none, some 3, some 4, some 5, some 11, some 7, none, none, none]))))))))
   (.reg [⟨[], [], .nop⟩, ⟨[], [], .bi .add (.e 7) (.c (.n 1))⟩, ⟨[], [], .nop⟩] [some 0, none, none, some 3, some 4, some 5, some 6, some 11, none, none, none])))))))))
 ((.seq (.reg [⟨[], [], .nop⟩, ⟨[], [], .nop⟩, ⟨[], [], .cs .v (.b true)⟩] [none, some 3, some 11, none, none, none, none, none, none, none, none])
 (.ret))))))))))))))))⟩

end Go.Cat

namespace Go.Cat
/-- loop.example/g03401/spec.l15Has -/
def ir_spec_l15Has : IF := ⟨[], 2, 6, [2],
 (.seq (.reg [⟨[], [], .cs .v (.b false)⟩] [some 0, some 1, none, none, none, none])
 ((.seq ((.seq (.reg [⟨[], [], .cs .v (.n 0)⟩] [some 0, some 1, none, some 6, none, none])
 (.block 0 (.loop ((.seq ((.seq (.reg [⟨[], [], .nop⟩, ⟨[], [], .nop⟩, ⟨[], [], .ln (.e 0) []⟩, ⟨[], [], .bi .lss (.e 3) (.e 6)⟩] [some 0, some 1, none, some 3, some 7, none])
   (.cond 4 (.skip) (.exit 0))))
   ((.seq (.block 1 ((.seq (.reg [⟨[], [], .nop⟩, ⟨[], [], .nop⟩, ⟨[], [], .iy (.e 0) (.e 3)⟩, ⟨[], [], .nop⟩, ⟨[], [], .nop⟩, ⟨[], [], .bi .eql (.e 6) (.e 1)⟩] [some 0, some 1, none, some 3, none, some 7])
    (.cond 5 ((.seq (.reg [⟨[], [], .cs .v (.b true)⟩] [none, none, some 6, none, none, none])
     (.ret))) (.skip)))))
   (.reg [⟨[], [], .nop⟩, ⟨[], [], .bi .add (.e 3) (.c (.n 1))⟩, ⟨[], [], .nop⟩] [some 0, some 1, none, some 6, none, none])))))))))
 ((.seq (.reg [⟨[], [], .cs .v (.b false)⟩] [none, none, some 6, none, none, none])
 (.ret))))))⟩

end Go.Cat

namespace Go.Cat
/-- loop.example/g03401/spec.KindNames -/
def ir_spec_KindNames : IF := ⟨[], 0, 1, [0],
 (.seq (.reg [⟨[], [], .cs (.o .v) (.l [])⟩] [none])
 ((.seq (.reg [⟨[], [], .li (.o .v) [(.c (.s [112, 97, 116, 104])), (.c (.s [98, 114, 97, 99, 107, 101, 116, 115])), (.c (.s [112, 108, 97, 110, 101])), (.c (.s [98, 105, 110, 97, 114, 121])), (.c (.s [100, 105, 97, 103, 111, 110, 97, 108, 115])), (.c (.s [112, 97, 114, 116, 105, 116, 105, 111, 110])), (.c (.s [109, 97, 116, 99, 104, 105, 110, 103])), (.c (.s [112, 101, 114, 109, 117, 116, 97, 116, 105, 111, 110])), (.c (.s [114, 97, 110, 107]))]⟩, ⟨[], [], .nop⟩] [some 1])
 (.ret))))⟩

/-- loop.example/g03401/spec.ListOf -/
def ir_spec_ListOf : IF := ⟨[], 2, 10, [2, 3],
 (.seq (.reg [⟨[], [], .cs (.o .v) (.l [])⟩, ⟨[], [], .cs .v (.b false)⟩] [some 0, some 1, none, none, none, none, none, none, none, none])
 ((.seq (.reg [⟨[], [], .li (.o .v) []⟩, ⟨[], [], .nop⟩] [some 0, some 1, none, none, some 10, none, none, none, none, none])
 ((.seq (.reg [⟨[], [], .nop⟩, ⟨[], [], .ca 234 [(.e 1)] 1⟩, ⟨[], [], .nop⟩] [some 0, none, none, none, some 4, some 10, none, none, none, none])
 ((.seq ((.seq (.reg [⟨[], [], .nop⟩, ⟨[], [], .ln (.e 5) []⟩, ⟨[], [], .bi .eql (.e 10) (.c (.n 0))⟩, ⟨[], [], .nop⟩, ⟨[], [(11, false)], .ca 13 [] 1⟩, ⟨[], [(11, false)], .cy (.e 0)⟩, ⟨[], [(11, false)], .ca 378 [(.e 12), (.e 13)] 1⟩, ⟨[], [(11, false)], .un .not (.e 14)⟩, ⟨[], [], .pk (.e 11) (.c (.b true)) (.e 15)⟩] [some 0, none, none, none, some 4, some 5, none, none, some 16, none])
 (.cond 8 ((.seq (.reg [⟨[], [], .nop⟩, ⟨[], [], .nop⟩, ⟨[], [], .cs .v (.b false)⟩] [none, none, some 4, some 10, none, none, none, none, none, none])
  (.ret))) (.skip))))
 ((.seq ((.seq (.reg [⟨[], [], .cs .v (.n 0)⟩] [some 0, none, none, none, some 4, some 5, some 10, none, none, none])
 (.block 0 (.loop ((.seq ((.seq (.reg [⟨[], [], .nop⟩, ⟨[], [], .nop⟩, ⟨[], [], .ln (.e 5) []⟩, ⟨[], [], .bi .lss (.e 6) (.e 10)⟩] [some 0, none, none, none, some 4, some 5, some 6, none, none, some 11])
   (.cond 9 (.skip) (.exit 0))))
   ((.seq (.block 1 ((.seq (.reg [⟨[], [], .nop⟩, ⟨[], [], .nop⟩, ⟨[], [], .nop⟩, ⟨[], [], .ix (.e 5) [] (.e 6)⟩, ⟨[], [], .nop⟩, ⟨[], [], .ca 523 [(.e 0), (.e 10)] 2⟩, ⟨[], [], .nop⟩, ⟨[], [], .nop⟩, ⟨[], [], .nop⟩, ⟨[], [], .nop⟩, ⟨[], [], .nop⟩] [some 0, none, none, none, some 4, some 5, some 6, some 11, none, none])
    (.reg [⟨[], [], .nop⟩, ⟨[], [], .nop⟩, ⟨[], [], .li (.o .v) [(.e 7)]⟩, ⟨[], [], .ap false (.e 4) (.e 10)⟩, ⟨[], [], .nop⟩] [some 0, none, none, none, some 11, some 5, some 6, none, none, none]))))
   (.reg [⟨[], [], .nop⟩, ⟨[], [], .bi .add (.e 6) (.c (.n 1))⟩, ⟨[], [], .nop⟩] [some 0, none, none, none, some 4, some 5, some 10, none, none, none])))))))))
 ((.seq (.reg [⟨[], [], .nop⟩, ⟨[], [], .nop⟩, ⟨[], [], .cs .v (.b true)⟩] [none, none, some 4, some 10, none, none, none, none, none, none])
 (.ret))))))))))))⟩

/-- loop.example/g03401/spec.WriteAs -/
def ir_spec_WriteAs : IF := ⟨[], 2, 25, [2, 3],
 (.seq (.reg [⟨[], [], .cs .v (.s [])⟩, ⟨[], [], .cs .v (.b false)⟩] [some 0, some 1, none, none, none, none, none, none, none, none, none, none, none, none, none, none, none, none, none, none, none, none, none, none, none])
 ((.seq ((.seq (.reg [⟨[], [], .nop⟩, ⟨[], [], .ca 64 [(.e 1)] 1⟩, ⟨[], [], .un .not (.e 25)⟩] [some 0, some 1, none, none, none, none, none, none, none, none, none, none, none, some 26, none, none, none, none, none, none, none, none, none, none, none])
 (.cond 13 ((.seq (.reg [⟨[], [], .cs .v (.s [])⟩, ⟨[], [], .cs .v (.b false)⟩] [none, none, some 25, some 26, none, none, none, none, none, none, none, none, none, none, none, none, none, none, none, none, none, none, none, none, none])
  (.ret))) (.skip))))
 ((.seq ((.seq (.reg [⟨[], [], .nop⟩] [none, some 1, none, none, none, none, none, none, none, none, none, none, none, none, some 0, none, none, none, none, none, none, none, none, none, none])
 (.block 0 ((.seq (.reg [⟨[], [], .bi .eql (.e 14) (.c (.s [112, 97, 116, 104]))⟩, ⟨[], [], .nop⟩] [none, some 1, none, none, none, none, none, none, none, none, none, none, none, none, some 14, some 25, none, none, none, none, none, none, none, none, none])
  (.cond 15 ((.seq (.reg [⟨[], [], .nop⟩, ⟨[], [], .nop⟩, ⟨[], [], .cs .v (.b true)⟩] [none, none, some 1, some 25, none, none, none, none, none, none, none, none, none, none, none, none, none, none, none, none, none, none, none, none, none])
   (.ret))) ((.seq (.reg [⟨[], [], .bi .eql (.e 14) (.c (.s [98, 114, 97, 99, 107, 101, 116, 115]))⟩, ⟨[], [], .nop⟩] [none, some 1, none, none, none, none, none, none, none, none, none, none, none, none, some 14, none, some 25, none, none, none, none, none, none, none, none])
   (.cond 16 ((.seq (.reg [⟨[], [], .nop⟩, ⟨[], [], .ca 297 [(.e 1)] 2⟩, ⟨[], [], .nop⟩, ⟨[], [], .nop⟩, ⟨[], [], .nop⟩, ⟨[], [], .nop⟩, ⟨[], [], .nop⟩] [none, none, none, none, some 25, none, none, none, none, none, none, none, none, none, none, none, none, none, none, none, none, none, none, none, none])
    ((.seq (.reg [⟨[], [], .nop⟩, ⟨[], [], .nop⟩, ⟨[], [], .cs .v (.b true)⟩] [none, none, some 4, some 25, none, none, none, none, none, none, none, none, none, none, none, none, none, none, none, none, none, none, none, none, none])
    (.ret))))) ((.seq (.reg [⟨[], [], .bi .eql (.e 14) (.c (.s [112, 108, 97, 110, 101]))⟩, ⟨[], [], .nop⟩] [none, some 1, none, none, none, none, none, none, none, none, none, none, none, none, some 14, none, none, some 25, none, none, none, none, none, none, none])
    (.cond 17 ((.seq (.reg [⟨[], [], .nop⟩, ⟨[], [], .ca 299 [(.e 1)] 2⟩, ⟨[], [], .nop⟩, ⟨[], [], .nop⟩, ⟨[], [], .nop⟩, ⟨[], [], .nop⟩, ⟨[], [], .nop⟩] [none, none, none, none, none, some 25, none, none, none, none, none, none, none, none, none, none, none, none, none, none, none, none, none, none, none])
     ((.seq (.reg [⟨[], [], .nop⟩, ⟨[], [], .ca 529 [(.e 5)] 1⟩, ⟨[], [], .nop⟩, ⟨[], [], .cs .v (.b true)⟩] [none, none, some 25, some 26, none, none, none, none, none, none, none, none, none, none, none, none, none, none, none, none, none, none, none, none, none])
     (.ret))))) ((.seq (.reg [⟨[], [], .bi .eql (.e 14) (.c (.s [98, 105, 110, 97, 114, 121]))⟩, ⟨[], [], .nop⟩] [none, some 1, none, none, none, none, none, none, none, none, none, none, none, none, some 14, none, none, none, some 25, none, none, none, none, none, none])
     (.cond 18 ((.seq (.reg [⟨[], [], .nop⟩, ⟨[], [], .ca 530 [(.e 1)] 2⟩, ⟨[], [], .nop⟩, ⟨[], [], .nop⟩, ⟨[], [], .nop⟩, ⟨[], [], .nop⟩, ⟨[], [], .nop⟩] [none, none, none, none, none, none, some 25, none, none, none, none, none, none, none, none, none, none, none, none, none, none, none, none, none, none])
      ((.seq (.reg [⟨[], [], .nop⟩, ⟨[], [], .nop⟩, ⟨[], [], .cs .v (.b true)⟩] [none, none, some 6, some 25, none, none, none, none, none, none, none, none, none, none, none, none, none, none, none, none, none, none, none, none, none])
      (.ret))))) ((.seq (.reg [⟨[], [], .bi .eql (.e 14) (.c (.s [100, 105, 97, 103, 111, 110, 97, 108, 115]))⟩, ⟨[], [], .nop⟩] [none, some 1, none, none, none, none, none, none, none, none, none, none, none, none, some 14, none, none, none, none, some 25, none, none, none, none, none])
      (.cond 19 ((.seq (.reg [⟨[], [], .nop⟩, ⟨[], [], .ca 513 [(.e 1)] 1⟩, ⟨[], [], .ca 531 [(.e 25)] 2⟩, ⟨[], [], .nop⟩, ⟨[], [], .nop⟩, ⟨[], [], .nop⟩, ⟨[], [], .nop⟩, ⟨[], [], .nop⟩] [none, some 1, none, none, none, none, none, some 26, none, none, none, none, none, none, none, none, none, none, none, none, none, none, none, none, none])
       ((.seq (.reg [⟨[], [], .nop⟩, ⟨[], [], .sn (.e 1)⟩, ⟨[], [], .bi .quo (.e 25) (.c (.n 2))⟩, ⟨[], [], .bi .add (.e 26) (.c (.n 2))⟩, ⟨[], [], .ca 138 [(.e 27)] 1⟩, ⟨[], [], .bi .add (.e 28) (.c (.s [58, 32]))⟩, ⟨[], [], .nop⟩, ⟨[], [], .ca 352 [(.e 7)] 1⟩, ⟨[], [], .bi .add (.e 29) (.e 30)⟩, ⟨[], [], .nop⟩, ⟨[], [], .cs .v (.b true)⟩] [none, none, some 31, some 32, none, none, none, none, none, none, none, none, none, none, none, none, none, none, none, none, none, none, none, none, none])
       (.ret))))) ((.seq (.reg [⟨[], [], .bi .eql (.e 14) (.c (.s [112, 97, 114, 116, 105, 116, 105, 111, 110]))⟩, ⟨[], [], .nop⟩] [none, some 1, none, none, none, none, none, none, none, none, none, none, none, none, some 14, none, none, none, none, none, some 25, none, none, none, none])
       (.cond 20 ((.seq (.reg [⟨[], [], .nop⟩, ⟨[], [], .ca 301 [(.e 1)] 2⟩, ⟨[], [], .nop⟩, ⟨[], [], .nop⟩, ⟨[], [], .nop⟩, ⟨[], [], .nop⟩, ⟨[], [], .nop⟩] [none, none, none, none, none, none, none, none, some 25, none, none, none, none, none, none, none, none, none, none, none, none, none, none, none, none])
        ((.seq (.reg [⟨[], [], .nop⟩, ⟨[], [], .ca 532 [(.e 8)] 1⟩, ⟨[], [], .nop⟩, ⟨[], [], .cs .v (.b true)⟩] [none, none, some 25, some 26, none, none, none, none, none, none, none, none, none, none, none, none, none, none, none, none, none, none, none, none, none])
        (.ret))))) ((.seq (.reg [⟨[], [], .bi .eql (.e 14) (.c (.s [109, 97, 116, 99, 104, 105, 110, 103]))⟩, ⟨[], [], .nop⟩] [none, some 1, none, none, none, none, none, none, none, none, none, none, none, none, some 14, none, none, none, none, none, none, some 25, none, none, none])
        (.cond 21 ((.seq (.reg [⟨[], [], .nop⟩, ⟨[], [], .ca 356 [(.e 1)] 2⟩, ⟨[], [], .nop⟩, ⟨[], [], .nop⟩, ⟨[], [], .nop⟩, ⟨[], [], .nop⟩, ⟨[], [], .nop⟩] [none, none, none, none, none, none, none, none, none, some 25, none, none, none, none, none, none, none, none, none, none, none, none, none, none, none])
         ((.seq (.reg [⟨[], [], .nop⟩, ⟨[], [], .ca 533 [(.e 9)] 1⟩, ⟨[], [], .nop⟩, ⟨[], [], .cs .v (.b true)⟩] [none, none, some 25, some 26, none, none, none, none, none, none, none, none, none, none, none, none, none, none, none, none, none, none, none, none, none])
         (.ret))))) ((.seq (.reg [⟨[], [], .bi .eql (.e 14) (.c (.s [112, 101, 114, 109, 117, 116, 97, 116, 105, 111, 110]))⟩, ⟨[], [], .nop⟩] [none, some 1, none, none, none, none, none, none, none, none, none, none, none, none, some 14, none, none, none, none, none, none, none, some 25, none, none])
         (.cond 22 ((.seq (.reg [⟨[], [], .nop⟩, ⟨[], [], .ca 325 [(.e 1)] 2⟩, ⟨[], [], .nop⟩, ⟨[], [], .nop⟩, ⟨[], [], .nop⟩, ⟨[], [], .nop⟩, ⟨[], [], .nop⟩] [none, none, none, none, none, none, none, none, none, none, some 25, none, none, none, none, none, none, none, none, none, none, none, none, none, none])
          ((.seq (.reg [⟨[], [], .cs .v (.s [])⟩] [none, none, none, none, none, none, none, none, none, none, some 10, some 25, none, none, none, none, none, none, none, none, none, none, none, none, none])
          ((.seq ((.seq (.reg [⟨[], [], .cs .v (.n 0)⟩] [none, none, none, none, none, none, none, none, none, none, some 10, some 11, some 25, none, none, none, none, none, none, none, none, none, none, none, none])
          (.block 1 (.loop ((.seq ((.seq (.reg [⟨[], [], .nop⟩, ⟨[], [], .nop⟩, ⟨[], [], .ln (.e 10) []⟩, ⟨[], [], .bi .lss (.e 12) (.e 25)⟩] [none, none, none, none, none, none, none, none, none, none, some 10, some 11, some 12, none, none, none, none, none, none, none, none, none, none, some 26, none])
            (.cond 23 (.skip) (.exit 1))))
            ((.seq (.block 2 (.reg [⟨[], [], .nop⟩, ⟨[], [], .nop⟩, ⟨[], [], .nop⟩, ⟨[], [], .ix (.e 10) [] (.e 12)⟩, ⟨[], [], .nop⟩, ⟨[], [], .bi .add (.e 25) (.c (.n 1))⟩, ⟨[], [], .ca 138 [(.e 26)] 1⟩, ⟨[], [], .bi .add (.e 11) (.e 27)⟩, ⟨[], [], .nop⟩] [none, none, none, none, none, none, none, none, none, none, some 10, some 28, some 12, none, none, none, none, none, none, none, none, none, none, none, none]))
            (.reg [⟨[], [], .nop⟩, ⟨[], [], .bi .add (.e 12) (.c (.n 1))⟩, ⟨[], [], .nop⟩] [none, none, none, none, none, none, none, none, none, none, some 10, some 11, some 25, none, none, none, none, none, none, none, none, none, none, none, none])))))))))
          ((.seq (.reg [⟨[], [], .nop⟩, ⟨[], [], .nop⟩, ⟨[], [], .cs .v (.b true)⟩] [none, none, some 11, some 25, none, none, none, none, none, none, none, none, none, none, none, none, none, none, none, none, none, none, none, none, none])
          (.ret))))))))) ((.seq (.reg [⟨[], [], .bi .eql (.e 14) (.c (.s [114, 97, 110, 107]))⟩, ⟨[], [], .nop⟩] [none, some 1, none, none, none, none, none, none, none, none, none, none, none, none, none, none, none, none, none, none, none, none, none, none, some 25])
          (.cond 24 ((.seq (.reg [⟨[], [], .nop⟩, ⟨[], [], .sn (.e 1)⟩, ⟨[], [], .bi .quo (.e 25) (.c (.n 2))⟩, ⟨[], [], .ca 138 [(.e 26)] 1⟩, ⟨[], [], .bi .add (.e 27) (.c (.s [58]))⟩, ⟨[], [], .nop⟩, ⟨[], [], .ca 276 [(.e 1)] 1⟩, ⟨[], [], .ca 138 [(.e 29)] 1⟩, ⟨[], [], .bi .add (.e 28) (.e 30)⟩, ⟨[], [], .nop⟩, ⟨[], [], .cs .v (.b true)⟩] [none, none, some 31, some 32, none, none, none, none, none, none, none, none, none, none, none, none, none, none, none, none, none, none, none, none, none])
           (.ret))) (.skip)))))))))))))))))))))))))))))))
 ((.seq (.reg [⟨[], [], .cs .v (.s [])⟩, ⟨[], [], .cs .v (.b false)⟩] [none, none, some 25, some 26, none, none, none, none, none, none, none, none, none, none, none, none, none, none, none, none, none, none, none, none, none])
 (.ret))))))))⟩

end Go.Cat

namespace Go.Cat
end Go.Cat

namespace Go.Cat
end Go.Cat

namespace Go.Cat
end Go.Cat

namespace Go.Cat
end Go.Cat

namespace Go.Cat
end Go.Cat

namespace Go.Cat
end Go.Cat

namespace Go.Cat
end Go.Cat

namespace Go.Cat
end Go.Cat

namespace Go.Cat
end Go.Cat

namespace Go.Cat
end Go.Cat

namespace Go.Cat
end Go.Cat

namespace Go.Cat
end Go.Cat

namespace Go.Cat
end Go.Cat

namespace Go.Cat
end Go.Cat

namespace Go.Cat
end Go.Cat

namespace Go.Cat
end Go.Cat

namespace Go.Cat
end Go.Cat

namespace Go.Cat
end Go.Cat

namespace Go.Cat
end Go.Cat

namespace Go.Cat
end Go.Cat

namespace Go.Cat
end Go.Cat

namespace Go.Cat
end Go.Cat

namespace Go.Cat
end Go.Cat

namespace Go.Cat
end Go.Cat

namespace Go.Cat
end Go.Cat

namespace Go.Cat
end Go.Cat

namespace Go.Cat
end Go.Cat

