/-
  Texts of the little language.
-/
import Derived.Test.YthbpihoafdpicaaIrAllA
import Derived.Test.YthbpihoafdpicaaRows
import Derived.Test.YthbpihoafdpicaaCatThree
namespace Go.Proofs.Ythbpihoafdpicaa.fnExactCountSortable
open Go Go.Cat Go.Proofs
set_option maxRecDepth 100000
def tab : List Row := [⟨22, 49, ⟨[.v, .v, .v], [.v], [], none⟩⟩,
  ⟨23, 52, ⟨[.v, .v, .v], [.v], [], none⟩⟩,
  ⟨62, 59, ⟨[.y], [(.o .v), .v], [], none⟩⟩,
  ⟨73, 56, ⟨[.y], [.v], [], none⟩⟩,
  ⟨74, 64, ⟨[.y], [.v], [], none⟩⟩,
  ⟨75, 75, ⟨[.y], [(.o .v)], [], none⟩⟩,
  ⟨80, 58, ⟨[.y], [(.o .v)], [], none⟩⟩,
  ⟨81, 124, ⟨[(.o .v)], [], [0], none⟩⟩,
  ⟨92, 10, ⟨[.v, .v], [.v], [], none⟩⟩,
  ⟨105, 27, ⟨[.y], [.v], [], none⟩⟩,
  ⟨106, 28, ⟨[.y], [.v], [], none⟩⟩,
  ⟨111, 33, ⟨[.v, .v], [.v], [], none⟩⟩,
  ⟨112, 34, ⟨[.v, .v], [.v], [], none⟩⟩,
  ⟨130, 57, ⟨[.y], [.v], [], none⟩⟩,
  ⟨131, 60, ⟨[.y], [.v], [], none⟩⟩,
  ⟨133, 72, ⟨[.v, .v], [(.o .v)], [], none⟩⟩,
  ⟨134, 73, ⟨[.y, (.b .v), (.b .v), (.b .v), .v], [], [1, 2, 3], (some (4, 134, [1, 2, 3, 4]))⟩⟩,
  ⟨135, 74, ⟨[.y, .v], [.v], [], none⟩⟩,
  ⟨178, 125, ⟨[.y], [.v], [], none⟩⟩,
  ⟨179, 131, ⟨[.y, .v], [.v], [], none⟩⟩,
  ⟨203, 156, ⟨[.v, .v], [.v], [], none⟩⟩,
  ⟨211, 164, ⟨[.v], [.v], [], none⟩⟩]
theorem tabOk : tabOK Try.prog tab = true := by kernel_rfl
theorem mixed : Try.prog.follows .mixedOrders = true := Try.checked.mixed
abbrev K := KS Try.prog tab
theorem t22 : trF (cfOf Try.prog tab 15 [] none) (sgOf tab) [(0, .v), (1, .v), (2, .v), (6, .v)] [(7, []), (8, [])] Try.f49 ⟨[.v, .v, .v], [.v], [], none⟩ = some ir_spec_l1In := by kernel_rfl
instance : Has K 22 ir_spec_l1In := ⟨fun _ _ hb => KS.of_body tabOk mixed (r := ⟨22, 49, ⟨[.v, .v, .v], [.v], [], none⟩⟩) rfl t22 Try.func49 hb⟩
theorem t23 : trF (cfOf Try.prog tab 15 [] none) (sgOf tab) [(0, .v), (1, .v), (2, .v), (6, .v)] [(7, []), (8, [])] Try.f52 ⟨[.v, .v, .v], [.v], [], none⟩ = some ir_impl_within := by kernel_rfl
instance : Has K 23 ir_impl_within := ⟨fun _ _ hb => KS.of_body tabOk mixed (r := ⟨23, 52, ⟨[.v, .v, .v], [.v], [], none⟩⟩) rfl t23 Try.func52 hb⟩
theorem t62 : trF (cfOf Try.prog tab 57 [] none) (sgOf tab) [(0, .y), (2, (.o .v)), (3, .v), (4, (.o .v)), (5, (.o .v)), (7, .v), (11, .v), (14, .y), (15, .v), (16, .v), (17, .v), (32, .v)] [(1, [1, 0]), (9, [1, 0]), (73, []), (6, []), (25, [1, 0]), (920, []), (1944, []), (952, []), (3000, []), (952, []), (952, []), (920, []), (920, []), (24, []), (6, [])] Try.f59 ⟨[.y], [(.o .v), .v], [], none⟩ = some ir_impl_SortOnce := by kernel_rfl
instance : Has K 62 ir_impl_SortOnce := ⟨fun _ _ hb => KS.of_body tabOk mixed (r := ⟨62, 59, ⟨[.y], [(.o .v), .v], [], none⟩⟩) rfl t62 Try.func59 hb⟩
theorem t73 : trF (cfOf Try.prog tab 37 [] none) (sgOf tab) [(0, .y), (2, .v), (3, .v), (4, .v), (8, .v), (19, .v), (22, .v), (33, .v)] [(1, []), (5, []), (21, []), (37, []), (2, []), (13, []), (77, []), (141, []), (2, []), (13, []), (5, []), (2, [])] Try.f56 ⟨[.y], [.v], [], none⟩ = some ir_spec_IsPermutation := by kernel_rfl
instance : Has K 73 ir_spec_IsPermutation := ⟨fun _ _ hb => KS.of_body tabOk mixed (r := ⟨73, 56, ⟨[.y], [.v], [], none⟩⟩) rfl t73 Try.func56 hb⟩
theorem t74 : trF (cfOf Try.prog tab 34 [] none) (sgOf tab) [(0, .y), (2, .v), (3, (.o .v)), (5, .v), (8, .v), (12, .y), (13, .v), (14, .v), (15, .v), (29, .v)] [(1, []), (17, []), (2, []), (5, [0, 0, 1, 0]), (229, []), (485, []), (237, []), (749, []), (2, []), (229, []), (229, []), (2, [])] Try.f64 ⟨[.y], [.v], [], none⟩ = some ir_impl_IsPermutation := by kernel_rfl
instance : Has K 74 ir_impl_IsPermutation := ⟨fun _ _ hb => KS.of_body tabOk mixed (r := ⟨74, 64, ⟨[.y], [.v], [], none⟩⟩) rfl t74 Try.func64 hb⟩
theorem t75 : trF (cfOf Try.prog tab 6 [] none) (sgOf tab) [(0, .y), (2, (.o .v))] [(1, [1]), (2, [1, 0, 0, 0])] Try.f75 ⟨[.y], [(.o .v)], [], none⟩ = some ir_impl_copyInts := by kernel_rfl
instance : Has K 75 ir_impl_copyInts := ⟨fun _ _ hb => KS.of_body tabOk mixed (r := ⟨75, 75, ⟨[.y], [(.o .v)], [], none⟩⟩) rfl t75 Try.func75 hb⟩
theorem t80 : trF (cfOf Try.prog tab 69 [] none) (sgOf tab) [(0, .y), (2, (.o .v)), (3, (.o .v)), (4, (.o .v)), (5, .v), (11, .v), (29, .v), (53, .v)] [(1, [1]), (5, [1, 0]), (13, [1, 0]), (29, []), (61, []), (93, []), (29, []), (29, []), (29, []), (29, []), (140, []), (12, []), (12, []), (2, [])] Try.f58 ⟨[.y], [(.o .v)], [], none⟩ = some ir_spec_l31Sort := by kernel_rfl
instance : Has K 80 ir_spec_l31Sort := ⟨fun _ _ hb => KS.of_body tabOk mixed (r := ⟨80, 58, ⟨[.y], [(.o .v)], [], none⟩⟩) rfl t80 Try.func58 hb⟩
theorem t81 : trF (cfOf Try.prog tab 28 [0] none) (sgOf tab) [(0, (.o .v)), (2, .v), (3, .v), (9, .v)] [(7, []), (15, []), (7, [0, 0, 0, 0, 0, 0, 0, 0, 0, 0, 0, 0, 0, 2, 0, 2]), (7, [])] Try.f124 ⟨[(.o .v)], [], [0], none⟩ = some ir_slices_Reverse___int_int_ := by kernel_rfl
instance : Has K 81 ir_slices_Reverse___int_int_ := ⟨fun _ _ hb => KS.of_body tabOk mixed (r := ⟨81, 124, ⟨[(.o .v)], [], [0], none⟩⟩) rfl t81 Try.func124 hb⟩
theorem t92 : trF (cfOf Try.prog tab 16 [] none) (sgOf tab) [(0, .v), (1, .v), (4, .v), (5, .v), (6, .v), (15, .v)] [(3, []), (11, []), (24, []), (32, []), (4, []), (4, [])] Try.f10 ⟨[.v, .v], [.v], [], none⟩ = some ir_laws_FnExactCountSortable := by kernel_rfl
instance : Has K 92 ir_laws_FnExactCountSortable := ⟨fun _ _ hb => KS.of_body tabOk mixed (r := ⟨92, 10, ⟨[.v, .v], [.v], [], none⟩⟩) rfl t92 Try.func10 hb⟩
theorem t105 : trF (cfOf Try.prog tab 19 [] none) (sgOf tab) [(0, .y), (2, .v), (3, .v), (4, .v), (7, .v), (13, .v)] [(1, []), (17, []), (2, []), (4, [1, 0, 0, 0]), (12, []), (44, []), (12, []), (12, []), (2, [])] Try.f27 ⟨[.y], [.v], [], none⟩ = some ir_spec_PassesOf := by kernel_rfl
instance : Has K 105 ir_spec_PassesOf := ⟨fun _ _ hb => KS.of_body tabOk mixed (r := ⟨105, 27, ⟨[.y], [.v], [], none⟩⟩) rfl t105 Try.func27 hb⟩
theorem t106 : trF (cfOf Try.prog tab 18 [] none) (sgOf tab) [(0, .y), (2, .v), (3, .v), (6, .v), (9, .v)] [(1, []), (9, []), (2, []), (5, []), (21, []), (5, []), (5, []), (2, [])] Try.f28 ⟨[.y], [.v], [], none⟩ = some ir_impl_PassesOf := by kernel_rfl
instance : Has K 106 ir_impl_PassesOf := ⟨fun _ _ hb => KS.of_body tabOk mixed (r := ⟨106, 28, ⟨[.y], [.v], [], none⟩⟩) rfl t106 Try.func28 hb⟩
theorem t111 : trF (cfOf Try.prog tab 35 [] none) (sgOf tab) [(0, .v), (1, .v), (4, .v), (5, .v), (6, .v), (7, .v), (15, .v), (22, .v), (31, .v)] [(3, []), (67, []), (4, []), (10, [0, 1000, 0, 0]), (26, []), (58, []), (186, []), (314, []), (58, []), (58, []), (4, [])] Try.f33 ⟨[.v, .v], [.v], [], none⟩ = some ir_spec_CountSortable := by kernel_rfl
instance : Has K 111 ir_spec_CountSortable := ⟨fun _ _ hb => KS.of_body tabOk mixed (r := ⟨111, 33, ⟨[.v, .v], [.v], [], none⟩⟩) rfl t111 Try.func33 hb⟩
theorem t112 : trF (cfOf Try.prog tab 20 [] none) (sgOf tab) [(0, .v), (1, .v), (2, (.b .v)), (3, (.b .v)), (4, .v), (5, (.b .v)), (6, (.b .v)), (14, .v)] [(12, []), (140, []), (16, []), (44, []), (108, []), (96, [77777, 0, 0]), (32, [0, 0, 134]), (16, [])] Try.f34 ⟨[.v, .v], [.v], [], none⟩ = some ir_impl_CountSortable := by kernel_rfl
instance : Has K 112 ir_impl_CountSortable := ⟨fun _ _ hb => KS.of_body tabOk mixed (r := ⟨112, 34, ⟨[.v, .v], [.v], [], none⟩⟩) rfl t112 Try.func34 hb⟩
theorem t130 : trF (cfOf Try.prog tab 16 [] none) (sgOf tab) [(0, .y), (2, .v), (3, .v), (7, .v), (15, .v)] [(1, []), (5, []), (13, []), (21, []), (2, []), (5, []), (2, [])] Try.f57 ⟨[.y], [.v], [], none⟩ = some ir_spec_l31Sorted := by kernel_rfl
instance : Has K 130 ir_spec_l31Sorted := ⟨fun _ _ hb => KS.of_body tabOk mixed (r := ⟨130, 57, ⟨[.y], [.v], [], none⟩⟩) rfl t130 Try.func57 hb⟩
theorem t131 : trF (cfOf Try.prog tab 5 [] none) (sgOf tab) [(0, .y), (2, .v)] [(1, []), (2, [])] Try.f60 ⟨[.y], [.v], [], none⟩ = some ir_impl_ascends := by kernel_rfl
instance : Has K 131 ir_impl_ascends := ⟨fun _ _ hb => KS.of_body tabOk mixed (r := ⟨131, 60, ⟨[.y], [.v], [], none⟩⟩) rfl t131 Try.func60 hb⟩
theorem t133 : trF (cfOf Try.prog tab 49 [] none) (sgOf tab) [(0, .v), (1, .v), (4, (.o .v)), (5, (.o .v)), (6, .v), (7, .v), (8, .v), (12, .v), (18, .v), (24, .v), (37, .v)] [(3, [1]), (131, []), (4, [0, 1, 0]), (11, [1, 0]), (27, []), (283, []), (59, []), (123, []), (635, []), (123, []), (123, []), (1051, []), (27, [0, 0, 1, 0, 0, 0, 0, 1000, 0, 0, 0]), (27, []), (4, [])] Try.f72 ⟨[.v, .v], [(.o .v)], [], none⟩ = some ir_spec_l10All := by kernel_rfl
instance : Has K 133 ir_spec_l10All := ⟨fun _ _ hb => KS.of_body tabOk mixed (r := ⟨133, 72, ⟨[.v, .v], [(.o .v)], [], none⟩⟩) rfl t133 Try.func72 hb⟩
theorem t134 : trF (cfOf Try.prog tab 33 [1, 2, 3] (some (4, 134, [1, 2, 3, 4]))) (sgOf tab) [(0, .y), (1, (.b .v)), (2, (.b .v)), (3, (.b .v)), (4, .v), (6, .v), (10, .v), (14, .v), (17, .v), (18, .v), (19, .v), (24, .v)] [(95, []), (142, []), (14, []), (799, []), (1823, []), (831, []), (2879, []), (799, [0, 0, 0, 0, 0, 0, 134]), (799, [])] Try.f73 ⟨[.y, (.b .v), (.b .v), (.b .v), .v], [], [1, 2, 3], (some (4, 134, [1, 2, 3, 4]))⟩ = some ir_impl_CountSortable_f1 := by kernel_rfl
instance : Has K 134 ir_impl_CountSortable_f1 := ⟨fun _ _ hb => KS.of_body tabOk mixed (r := ⟨134, 73, ⟨[.y, (.b .v), (.b .v), (.b .v), .v], [], [1, 2, 3], (some (4, 134, [1, 2, 3, 4]))⟩⟩) rfl t134 Try.func73 hb⟩
theorem t135 : trF (cfOf Try.prog tab 9 [] none) (sgOf tab) [(0, .y), (1, .v), (4, .v)] [(3, []), (4, [])] Try.f74 ⟨[.y, .v], [.v], [], none⟩ = some ir_slices_Contains___int_int_ := by kernel_rfl
instance : Has K 135 ir_slices_Contains___int_int_ := ⟨fun _ _ hb => KS.of_body tabOk mixed (r := ⟨135, 74, ⟨[.y, .v], [.v], [], none⟩⟩) rfl t135 Try.func74 hb⟩
theorem t178 : trF (cfOf Try.prog tab 21 [] none) (sgOf tab) [(0, .y), (2, .v), (3, .v), (8, .v), (20, .v)] [(1, []), (5, []), (13, []), (21, []), (2, []), (5, []), (2, [])] Try.f125 ⟨[.y], [.v], [], none⟩ = some ir_slices_IsSorted___int_int_ := by kernel_rfl
instance : Has K 178 ir_slices_IsSorted___int_int_ := ⟨fun _ _ hb => KS.of_body tabOk mixed (r := ⟨178, 125, ⟨[.y], [.v], [], none⟩⟩) rfl t178 Try.func125 hb⟩
theorem t179 : trF (cfOf Try.prog tab 19 [] none) (sgOf tab) [(0, .y), (1, .v), (4, .v), (5, .v), (7, .v), (8, .v), (9, .v), (16, .v)] [(3, []), (51, []), (115, []), (59, []), (187, []), (4, []), (51, []), (4, [])] Try.f131 ⟨[.y, .v], [.v], [], none⟩ = some ir_slices_Index___int_int_ := by kernel_rfl
instance : Has K 179 ir_slices_Index___int_int_ := ⟨fun _ _ hb => KS.of_body tabOk mixed (r := ⟨179, 131, ⟨[.y, .v], [.v], [], none⟩⟩) rfl t179 Try.func131 hb⟩
theorem t203 : trF (cfOf Try.prog tab 17 [] none) (sgOf tab) [(0, .v), (1, .v), (4, .v)] [(3, []), (4, [])] Try.f156 ⟨[.v, .v], [.v], [], none⟩ = some ir_cmp_Less_int_ := by kernel_rfl
instance : Has K 203 ir_cmp_Less_int_ := ⟨fun _ _ hb => KS.of_body tabOk mixed (r := ⟨203, 156, ⟨[.v, .v], [.v], [], none⟩⟩) rfl t203 Try.func156 hb⟩
theorem t211 : trF (cfOf Try.prog tab 6 [] none) (sgOf tab) [(0, .v), (2, .v)] [(1, []), (2, [])] Try.f164 ⟨[.v], [.v], [], none⟩ = some ir_cmp_isNaN_int_ := by kernel_rfl
instance : Has K 211 ir_cmp_isNaN_int_ := ⟨fun _ _ hb => KS.of_body tabOk mixed (r := ⟨211, 164, ⟨[.v], [.v], [], none⟩⟩) rfl t211 Try.func164 hb⟩
end Go.Proofs.Ythbpihoafdpicaa.fnExactCountSortable

