/-
  Texts of the little language.
-/
import Derived.Test.YthbpihoafdpicaaIrAllA
import Derived.Test.YthbpihoafdpicaaRows
import Derived.Test.YthbpihoafdpicaaCatTwo
namespace Go.Proofs.Ythbpihoafdpicaa.fnExactIsSortable
open Go Go.Cat Go.Proofs
set_option maxRecDepth 100000
def tab : List Row := [⟨22, 49, ⟨[.v, .v, .v], [.v], []⟩⟩,
  ⟨23, 52, ⟨[.v, .v, .v], [.v], []⟩⟩,
  ⟨42, 16, ⟨[.y], [(.o .v)], []⟩⟩,
  ⟨44, 18, ⟨[.y, .y], [.v], []⟩⟩,
  ⟨62, 59, ⟨[.y], [(.o .v), .v], []⟩⟩,
  ⟨73, 56, ⟨[.y], [.v], []⟩⟩,
  ⟨74, 64, ⟨[.y], [.v], []⟩⟩,
  ⟨80, 58, ⟨[.y], [(.o .v)], []⟩⟩,
  ⟨81, 124, ⟨[(.o .v)], [], [0]⟩⟩,
  ⟨87, 5, ⟨[.y], [.v], []⟩⟩,
  ⟨101, 21, ⟨[.y], [.v], []⟩⟩,
  ⟨102, 22, ⟨[.y], [.v], []⟩⟩,
  ⟨130, 57, ⟨[.y], [.v], []⟩⟩,
  ⟨131, 60, ⟨[.y], [.v], []⟩⟩,
  ⟨178, 125, ⟨[.y], [.v], []⟩⟩,
  ⟨203, 156, ⟨[.v, .v], [.v], []⟩⟩,
  ⟨211, 164, ⟨[.v], [.v], []⟩⟩]
theorem tabOk : tabOK Try.prog tab = true := by kernel_rfl
theorem mixed : Try.prog.follows .mixedOrders = true := Try.checked.mixed
abbrev K := KS Try.prog tab
theorem t22 : trF (cfOf Try.prog tab 15 []) (sgOf tab) [(0, .v), (1, .v), (2, .v), (6, .v)] [(7, []), (8, [])] Try.f49 ⟨[.v, .v, .v], [.v], []⟩ = some ir_spec_l1In := by kernel_rfl
instance : Has K 22 ir_spec_l1In := ⟨fun _ _ hb => KS.of_body tabOk mixed (r := ⟨22, 49, ⟨[.v, .v, .v], [.v], []⟩⟩) rfl t22 Try.func49 hb⟩
theorem t23 : trF (cfOf Try.prog tab 15 []) (sgOf tab) [(0, .v), (1, .v), (2, .v), (6, .v)] [(7, []), (8, [])] Try.f52 ⟨[.v, .v, .v], [.v], []⟩ = some ir_impl_within := by kernel_rfl
instance : Has K 23 ir_impl_within := ⟨fun _ _ hb => KS.of_body tabOk mixed (r := ⟨23, 52, ⟨[.v, .v, .v], [.v], []⟩⟩) rfl t23 Try.func52 hb⟩
theorem t42 : trF (cfOf Try.prog tab 22 []) (sgOf tab) [(0, .y), (2, (.o .v)), (3, (.o .v)), (4, .v), (11, .v)] [(1, [1]), (5, [0, 0, 1, 0]), (13, []), (29, []), (13, []), (13, []), (2, [])] Try.f16 ⟨[.y], [(.o .v)], []⟩ = some ir_laws_toIntS := by kernel_rfl
instance : Has K 42 ir_laws_toIntS := ⟨fun _ _ hb => KS.of_body tabOk mixed (r := ⟨42, 16, ⟨[.y], [(.o .v)], []⟩⟩) rfl t42 Try.func16 hb⟩
theorem t44 : trF (cfOf Try.prog tab 26 []) (sgOf tab) [(0, .y), (1, .y), (4, .v), (5, .v), (10, .v), (14, .v), (25, .v)] [(3, []), (19, []), (4, []), (11, []), (43, []), (75, []), (4, []), (11, []), (4, [])] Try.f18 ⟨[.y, .y], [.v], []⟩ = some ir_laws_eqIntS := by kernel_rfl
instance : Has K 44 ir_laws_eqIntS := ⟨fun _ _ hb => KS.of_body tabOk mixed (r := ⟨44, 18, ⟨[.y, .y], [.v], []⟩⟩) rfl t44 Try.func18 hb⟩
theorem t62 : trF (cfOf Try.prog tab 57 []) (sgOf tab) [(0, .y), (2, (.o .v)), (3, .v), (4, (.o .v)), (5, (.o .v)), (7, .v), (11, .v), (14, .y), (15, .v), (16, .v), (17, .v), (32, .v)] [(1, [1, 0]), (9, [1, 0]), (73, []), (6, []), (25, [1, 0]), (920, []), (1944, []), (952, []), (3000, []), (952, []), (952, []), (920, []), (920, []), (24, []), (6, [])] Try.f59 ⟨[.y], [(.o .v), .v], []⟩ = some ir_impl_SortOnce := by kernel_rfl
instance : Has K 62 ir_impl_SortOnce := ⟨fun _ _ hb => KS.of_body tabOk mixed (r := ⟨62, 59, ⟨[.y], [(.o .v), .v], []⟩⟩) rfl t62 Try.func59 hb⟩
theorem t73 : trF (cfOf Try.prog tab 37 []) (sgOf tab) [(0, .y), (2, .v), (3, .v), (4, .v), (8, .v), (19, .v), (22, .v), (33, .v)] [(1, []), (5, []), (21, []), (37, []), (2, []), (13, []), (77, []), (141, []), (2, []), (13, []), (5, []), (2, [])] Try.f56 ⟨[.y], [.v], []⟩ = some ir_spec_IsPermutation := by kernel_rfl
instance : Has K 73 ir_spec_IsPermutation := ⟨fun _ _ hb => KS.of_body tabOk mixed (r := ⟨73, 56, ⟨[.y], [.v], []⟩⟩) rfl t73 Try.func56 hb⟩
theorem t74 : trF (cfOf Try.prog tab 34 []) (sgOf tab) [(0, .y), (2, .v), (3, (.o .v)), (5, .v), (8, .v), (12, .y), (13, .v), (14, .v), (15, .v), (29, .v)] [(1, []), (17, []), (2, []), (5, [0, 0, 1, 0]), (229, []), (485, []), (237, []), (749, []), (2, []), (229, []), (229, []), (2, [])] Try.f64 ⟨[.y], [.v], []⟩ = some ir_impl_IsPermutation := by kernel_rfl
instance : Has K 74 ir_impl_IsPermutation := ⟨fun _ _ hb => KS.of_body tabOk mixed (r := ⟨74, 64, ⟨[.y], [.v], []⟩⟩) rfl t74 Try.func64 hb⟩
theorem t80 : trF (cfOf Try.prog tab 69 []) (sgOf tab) [(0, .y), (2, (.o .v)), (3, (.o .v)), (4, (.o .v)), (5, .v), (11, .v), (29, .v), (53, .v)] [(1, [1]), (5, [1, 0]), (13, [1, 0]), (29, []), (61, []), (93, []), (29, []), (29, []), (29, []), (29, []), (140, []), (12, []), (12, []), (2, [])] Try.f58 ⟨[.y], [(.o .v)], []⟩ = some ir_spec_l31Sort := by kernel_rfl
instance : Has K 80 ir_spec_l31Sort := ⟨fun _ _ hb => KS.of_body tabOk mixed (r := ⟨80, 58, ⟨[.y], [(.o .v)], []⟩⟩) rfl t80 Try.func58 hb⟩
theorem t81 : trF (cfOf Try.prog tab 28 [0]) (sgOf tab) [(0, (.o .v)), (2, .v), (3, .v), (9, .v)] [(7, []), (15, []), (7, [0, 0, 0, 0, 0, 0, 0, 0, 0, 0, 0, 0, 0, 2, 0, 2]), (7, [])] Try.f124 ⟨[(.o .v)], [], [0]⟩ = some ir_slices_Reverse___int_int_ := by kernel_rfl
instance : Has K 81 ir_slices_Reverse___int_int_ := ⟨fun _ _ hb => KS.of_body tabOk mixed (r := ⟨81, 124, ⟨[(.o .v)], [], [0]⟩⟩) rfl t81 Try.func124 hb⟩
theorem t87 : trF (cfOf Try.prog tab 24 []) (sgOf tab) [(0, .y), (2, .v), (3, .v), (4, .v), (5, .v), (8, .v), (18, .v), (23, .v)] [(1, []), (33, []), (2, []), (5, []), (13, []), (29, []), (73, []), (2, []), (128, []), (2, []), (2, [])] Try.f5 ⟨[.y], [.v], []⟩ = some ir_laws_FnExactIsSortable := by kernel_rfl
instance : Has K 87 ir_laws_FnExactIsSortable := ⟨fun _ _ hb => KS.of_body tabOk mixed (r := ⟨87, 5, ⟨[.y], [.v], []⟩⟩) rfl t87 Try.func5 hb⟩
theorem t101 : trF (cfOf Try.prog tab 10 []) (sgOf tab) [(0, .y), (2, .v)] [(1, []), (2, [])] Try.f21 ⟨[.y], [.v], []⟩ = some ir_spec_IsSortable := by kernel_rfl
instance : Has K 101 ir_spec_IsSortable := ⟨fun _ _ hb => KS.of_body tabOk mixed (r := ⟨101, 21, ⟨[.y], [.v], []⟩⟩) rfl t101 Try.func21 hb⟩
theorem t102 : trF (cfOf Try.prog tab 15 []) (sgOf tab) [(0, .y), (2, .v), (3, .v), (4, .v)] [(1, []), (12, []), (2, [])] Try.f22 ⟨[.y], [.v], []⟩ = some ir_impl_IsSortable := by kernel_rfl
instance : Has K 102 ir_impl_IsSortable := ⟨fun _ _ hb => KS.of_body tabOk mixed (r := ⟨102, 22, ⟨[.y], [.v], []⟩⟩) rfl t102 Try.func22 hb⟩
theorem t130 : trF (cfOf Try.prog tab 16 []) (sgOf tab) [(0, .y), (2, .v), (3, .v), (7, .v), (15, .v)] [(1, []), (5, []), (13, []), (21, []), (2, []), (5, []), (2, [])] Try.f57 ⟨[.y], [.v], []⟩ = some ir_spec_l31Sorted := by kernel_rfl
instance : Has K 130 ir_spec_l31Sorted := ⟨fun _ _ hb => KS.of_body tabOk mixed (r := ⟨130, 57, ⟨[.y], [.v], []⟩⟩) rfl t130 Try.func57 hb⟩
theorem t131 : trF (cfOf Try.prog tab 5 []) (sgOf tab) [(0, .y), (2, .v)] [(1, []), (2, [])] Try.f60 ⟨[.y], [.v], []⟩ = some ir_impl_ascends := by kernel_rfl
instance : Has K 131 ir_impl_ascends := ⟨fun _ _ hb => KS.of_body tabOk mixed (r := ⟨131, 60, ⟨[.y], [.v], []⟩⟩) rfl t131 Try.func60 hb⟩
theorem t178 : trF (cfOf Try.prog tab 21 []) (sgOf tab) [(0, .y), (2, .v), (3, .v), (8, .v), (20, .v)] [(1, []), (5, []), (13, []), (21, []), (2, []), (5, []), (2, [])] Try.f125 ⟨[.y], [.v], []⟩ = some ir_slices_IsSorted___int_int_ := by kernel_rfl
instance : Has K 178 ir_slices_IsSorted___int_int_ := ⟨fun _ _ hb => KS.of_body tabOk mixed (r := ⟨178, 125, ⟨[.y], [.v], []⟩⟩) rfl t178 Try.func125 hb⟩
theorem t203 : trF (cfOf Try.prog tab 17 []) (sgOf tab) [(0, .v), (1, .v), (4, .v)] [(3, []), (4, [])] Try.f156 ⟨[.v, .v], [.v], []⟩ = some ir_cmp_Less_int_ := by kernel_rfl
instance : Has K 203 ir_cmp_Less_int_ := ⟨fun _ _ hb => KS.of_body tabOk mixed (r := ⟨203, 156, ⟨[.v, .v], [.v], []⟩⟩) rfl t203 Try.func156 hb⟩
theorem t211 : trF (cfOf Try.prog tab 6 []) (sgOf tab) [(0, .v), (2, .v)] [(1, []), (2, [])] Try.f164 ⟨[.v], [.v], []⟩ = some ir_cmp_isNaN_int_ := by kernel_rfl
instance : Has K 211 ir_cmp_isNaN_int_ := ⟨fun _ _ hb => KS.of_body tabOk mixed (r := ⟨211, 164, ⟨[.v], [.v], []⟩⟩) rfl t211 Try.func164 hb⟩
end Go.Proofs.Ythbpihoafdpicaa.fnExactIsSortable

