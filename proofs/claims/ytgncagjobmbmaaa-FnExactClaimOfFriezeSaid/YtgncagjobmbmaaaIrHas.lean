/-
 Texts of the little language.
-/
import Derived.Test.YtgncagjobmbmaaaIrAllA
import Derived.Test.YtgncagjobmbmaaaCatThree
import Derived.Test.YtgncagjobmbmaaaCatFour
set_option linter.unusedSimpArgs false
set_option linter.unusedVariables false
namespace Go.Cat
class HA (K:Nat→List D→List D→Prop):Prop where
 h15:Has K 15 ir_laws_eqStringS
 h16:Has K 16 ir_laws_markStringS
 h17:Has K 17 ir_laws_heldStringS
 h22:Has K 22 ir_spec_l1In
 h23:Has K 23 ir_impl_within
 h26:Has K 26 ir_laws_markText
 h42:Has K 42 ir_laws_toIntS
 h44:Has K 44 ir_laws_eqIntS
 h45:Has K 45 ir_laws_markIntS
 h46:Has K 46 ir_laws_heldIntS
 h72:Has K 72 ir_impl_equalInts
 h75:Has K 75 ir_impl_copyInts
 h119:Has K 119 ir_laws_eqClaim
 h122:Has K 122 ir_laws_markClaim
 h123:Has K 123 ir_laws_heldClaim
 h155:Has K 155 ir_laws_eqIntSS
 h158:Has K 158 ir_laws_markIntSS
 h159:Has K 159 ir_laws_heldIntSS
 h179:Has K 179 ir_slices_Index___int_int_
 h180:Has K 180 ir_spec_l22Fine
 h204:Has K 204 ir_impl_cuts
 h211:Has K 211 ir_cmp_isNaN_int_
 h329:Has K 329 ir_laws_FnExactClaimOfFrieze
 h335:Has K 335 ir_spec_ClaimOfFrieze
 h336:Has K 336 ir_impl_ClaimOfFrieze
 h345:Has K 345 ir_spec_TriangulationOfQuiddity
 h346:Has K 346 ir_impl_TriangulationOfQuiddity
 h361:Has K 361 ir_spec_IsQuiddity
 h362:Has K 362 ir_spec_l7Put
 h364:Has K 364 ir_slices_Compare___int_int_
 h374:Has K 374 ir_spec_l7Before
 h375:Has K 375 ir_slices_pdqsortCmpFunc___int_
 h376:Has K 376 ir_math_bits_Len
 h377:Has K 377 ir_cmp_Compare_int_
 h382:Has K 382 ir_slices_insertionSortCmpFunc___int_
 h383:Has K 383 ir_slices_heapSortCmpFunc___int_
 h386:Has K 386 ir_slices_reverseRangeCmpFunc___int_
 h387:Has K 387 ir_slices_partialInsertionSortCmpFunc___int_
 h388:Has K 388 ir_slices_partitionEqualCmpFunc___int_
 h389:Has K 389 ir_slices_partitionCmpFunc___int_
 h390:Has K 390 ir_math_bits_Len32
 h391:Has K 391 ir_math_bits_Len64
 h392:Has K 392 ir_slices_siftDownCmpFunc___int_
section
variable {K:Nat→List D→List D→Prop} [h:HA K]
instance:Has K 15 ir_laws_eqStringS:=h.h15
instance:Has K 16 ir_laws_markStringS:=h.h16
instance:Has K 17 ir_laws_heldStringS:=h.h17
instance:Has K 22 ir_spec_l1In:=h.h22
instance:Has K 23 ir_impl_within:=h.h23
instance:Has K 26 ir_laws_markText:=h.h26
instance:Has K 42 ir_laws_toIntS:=h.h42
instance:Has K 44 ir_laws_eqIntS:=h.h44
instance:Has K 45 ir_laws_markIntS:=h.h45
instance:Has K 46 ir_laws_heldIntS:=h.h46
instance:Has K 72 ir_impl_equalInts:=h.h72
instance:Has K 75 ir_impl_copyInts:=h.h75
instance:Has K 119 ir_laws_eqClaim:=h.h119
instance:Has K 122 ir_laws_markClaim:=h.h122
instance:Has K 123 ir_laws_heldClaim:=h.h123
instance:Has K 155 ir_laws_eqIntSS:=h.h155
instance:Has K 158 ir_laws_markIntSS:=h.h158
instance:Has K 159 ir_laws_heldIntSS:=h.h159
instance:Has K 179 ir_slices_Index___int_int_:=h.h179
instance:Has K 180 ir_spec_l22Fine:=h.h180
instance:Has K 204 ir_impl_cuts:=h.h204
instance:Has K 211 ir_cmp_isNaN_int_:=h.h211
instance:Has K 329 ir_laws_FnExactClaimOfFrieze:=h.h329
instance:Has K 335 ir_spec_ClaimOfFrieze:=h.h335
instance:Has K 336 ir_impl_ClaimOfFrieze:=h.h336
instance:Has K 345 ir_spec_TriangulationOfQuiddity:=h.h345
instance:Has K 346 ir_impl_TriangulationOfQuiddity:=h.h346
instance:Has K 361 ir_spec_IsQuiddity:=h.h361
instance:Has K 362 ir_spec_l7Put:=h.h362
instance:Has K 364 ir_slices_Compare___int_int_:=h.h364
instance:Has K 374 ir_spec_l7Before:=h.h374
instance:Has K 375 ir_slices_pdqsortCmpFunc___int_:=h.h375
instance:Has K 376 ir_math_bits_Len:=h.h376
instance:Has K 377 ir_cmp_Compare_int_:=h.h377
instance:Has K 382 ir_slices_insertionSortCmpFunc___int_:=h.h382
instance:Has K 383 ir_slices_heapSortCmpFunc___int_:=h.h383
instance:Has K 386 ir_slices_reverseRangeCmpFunc___int_:=h.h386
instance:Has K 387 ir_slices_partialInsertionSortCmpFunc___int_:=h.h387
instance:Has K 388 ir_slices_partitionEqualCmpFunc___int_:=h.h388
instance:Has K 389 ir_slices_partitionCmpFunc___int_:=h.h389
instance:Has K 390 ir_math_bits_Len32:=h.h390
instance:Has K 391 ir_math_bits_Len64:=h.h391
instance:Has K 392 ir_slices_siftDownCmpFunc___int_:=h.h392
end
instance:HA (fun _ _ _=>True):=by constructor <;> exact ⟨fun _ _ _=>trivial⟩
end Go.Cat
