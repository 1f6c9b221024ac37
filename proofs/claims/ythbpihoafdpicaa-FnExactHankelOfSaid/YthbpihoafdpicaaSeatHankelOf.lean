/-
  Texts of the little language.
-/
import Derived.Test.YthbpihoafdpicaaIrAllA
import Derived.Test.YthbpihoafdpicaaRows
import Derived.Test.YthbpihoafdpicaaCatTwo
namespace Go.Proofs.Ythbpihoafdpicaa.fnExactHankelOf
open Go Go.Cat Go.Proofs
set_option maxRecDepth 100000
def tab : List Row := [⟨22, 49, ⟨[.v, .v, .v], [.v], []⟩⟩,
  ⟨23, 52, ⟨[.v, .v, .v], [.v], []⟩⟩,
  ⟨42, 16, ⟨[.y], [(.o .v)], []⟩⟩,
  ⟨44, 18, ⟨[.y, .y], [.v], []⟩⟩,
  ⟨68, 48, ⟨[.y], [.v], []⟩⟩,
  ⟨70, 51, ⟨[.y], [.v], []⟩⟩,
  ⟨75, 75, ⟨[.y], [(.o .v)], []⟩⟩,
  ⟨85, 3, ⟨[.y, .v, .v], [.v], []⟩⟩,
  ⟨97, 15, ⟨[.y, .v, .v], [.v, .v], []⟩⟩,
  ⟨98, 17, ⟨[.y, .v, .v], [.v, .v], []⟩⟩,
  ⟨126, 50, ⟨[.y], [.v], []⟩⟩,
  ⟨127, 53, ⟨[.y], [.v], []⟩⟩]
theorem tabOk : tabOK Try.prog tab = true := by kernel_rfl
theorem mixed : Try.prog.follows .mixedOrders = true := Try.checked.mixed
abbrev K := KS Try.prog tab
theorem t22 : trF (cfOf Try.prog tab 15 []) (sgOf tab) [(0, .v), (1, .v), (2, .v), (6, .v)] [(7, []), (8, [])] Try.f49 ⟨[.v, .v, .v], [.v], []⟩ = some ir_spec_l1In := by kernel_rfl
instance : Has K 22 ir_spec_l1In := ⟨fun _ _ hb => KS.of_body tabOk mixed (r := ⟨22, 49, ⟨[.v, .v, .v], [.v], []⟩⟩) rfl t22 Try.func49 hb⟩
theorem t23 : trF (cfOf Try.prog tab 15 []) (sgOf tab) [(0, .v), (1, .v), (2, .v), (6, .v)] [(7, []), (8, [])] Try.f52 ⟨[.v, .v, .v], [.v], []⟩ = some ir_impl_within := by kernel_rfl
instance : Has K 23 ir_impl_within := ⟨fun _ _ hb => KS.of_body tabOk mixed (r := ⟨23, 52, ⟨[.v, .v, .v], [.v], []⟩⟩) rfl t23 Try.func52 hb⟩
theorem t42 : trF (cfOf Try.prog tab 22 []) (sgOf tab) [(0, .y), (2, (.o .v)), (3, (.o .v)), (4, .v), (11, .v)] [(1, [1]), (5, [0, 0, 1, 0]), (13, []), (29, []), (13, []), (13, []), (2, [])] Try.f16 ⟨[.y], [(.o .v)], []⟩ = some ir_laws_toIntS := by kernel_rfl
instance : Has K 42 ir_laws_toIntS := ⟨fun _ _ hb => KS.of_body tabOk mixed (r := ⟨42, 16, ⟨[.y], [(.o .v)], []⟩⟩) rfl t42 Try.func16 hb⟩
theorem t44 : trF (cfOf Try.prog tab 26 []) (sgOf tab) [(0, .y), (1, .y), (4, .v), (5, .v), (10, .v), (14, .v), (25, .v)] [(3, []), (19, []), (4, []), (11, []), (43, []), (75, []), (4, []), (11, []), (4, [])] Try.f18 ⟨[.y, .y], [.v], []⟩ = some ir_laws_eqIntS := by kernel_rfl
instance : Has K 44 ir_laws_eqIntS := ⟨fun _ _ hb => KS.of_body tabOk mixed (r := ⟨44, 18, ⟨[.y, .y], [.v], []⟩⟩) rfl t44 Try.func18 hb⟩
theorem t68 : trF (cfOf Try.prog tab 19 []) (sgOf tab) [(0, .y), (2, .v), (3, .v), (7, .v), (15, .v)] [(1, []), (5, []), (13, []), (21, []), (2, []), (5, []), (2, [])] Try.f48 ⟨[.y], [.v], []⟩ = some ir_spec_l30Fine := by kernel_rfl
instance : Has K 68 ir_spec_l30Fine := ⟨fun _ _ hb => KS.of_body tabOk mixed (r := ⟨68, 48, ⟨[.y], [.v], []⟩⟩) rfl t68 Try.func48 hb⟩
theorem t70 : trF (cfOf Try.prog tab 18 []) (sgOf tab) [(0, .y), (2, .v), (4, .v), (5, .y), (6, .v), (7, .v), (8, .v), (13, .v)] [(1, []), (57, []), (121, []), (61, []), (185, []), (2, []), (57, []), (2, [])] Try.f51 ⟨[.y], [.v], []⟩ = some ir_impl_areTerms := by kernel_rfl
instance : Has K 70 ir_impl_areTerms := ⟨fun _ _ hb => KS.of_body tabOk mixed (r := ⟨70, 51, ⟨[.y], [.v], []⟩⟩) rfl t70 Try.func51 hb⟩
theorem t75 : trF (cfOf Try.prog tab 6 []) (sgOf tab) [(0, .y), (2, (.o .v))] [(1, [1]), (2, [1, 0, 0, 0])] Try.f75 ⟨[.y], [(.o .v)], []⟩ = some ir_impl_copyInts := by kernel_rfl
instance : Has K 75 ir_impl_copyInts := ⟨fun _ _ hb => KS.of_body tabOk mixed (r := ⟨75, 75, ⟨[.y], [(.o .v)], []⟩⟩) rfl t75 Try.func75 hb⟩
theorem t85 : trF (cfOf Try.prog tab 45 []) (sgOf tab) [(0, .y), (1, .v), (2, .v), (6, .v), (7, .v), (8, .v), (9, .v), (10, .v), (11, .v), (14, .v), (39, .v), (44, .v)] [(7, []), (519, []), (8, []), (55, []), (119, []), (497, []), (1089, []), (8, []), (2048, []), (8, []), (8, [])] Try.f3 ⟨[.y, .v, .v], [.v], []⟩ = some ir_laws_FnExactHankelOf := by kernel_rfl
instance : Has K 85 ir_laws_FnExactHankelOf := ⟨fun _ _ hb => KS.of_body tabOk mixed (r := ⟨85, 3, ⟨[.y, .v, .v], [.v], []⟩⟩) rfl t85 Try.func3 hb⟩
theorem t97 : trF (cfOf Try.prog tab 73 []) (sgOf tab) [(0, .y), (1, .v), (2, .v), (6, .v), (7, .v), (8, (.o .v)), (9, .v), (10, (.o .v)), (11, .v), (12, .v), (39, .v), (43, .v), (49, .v), (62, .v)] [(7, []), (1031, []), (24, []), (39, [1, 0]), (103, []), (2151, []), (231, [1, 0]), (487, []), (4583, []), (999, []), (9191, []), (24, []), (487, []), (487, []), (103, []), (103, []), (24, [])] Try.f15 ⟨[.y, .v, .v], [.v, .v], []⟩ = some ir_spec_HankelOf := by kernel_rfl
instance : Has K 97 ir_spec_HankelOf := ⟨fun _ _ hb => KS.of_body tabOk mixed (r := ⟨97, 15, ⟨[.y, .v, .v], [.v, .v], []⟩⟩) rfl t97 Try.func15 hb⟩
theorem t98 : trF (cfOf Try.prog tab 68 []) (sgOf tab) [(0, .y), (1, .v), (2, .v), (6, .v), (7, .v), (8, (.o .v)), (9, .v), (10, (.o .v)), (11, .v), (12, .v), (25, .v), (27, .v), (28, .v), (29, .v), (32, .v), (33, .v), (34, .v), (52, .v)] [(7, []), (1031, []), (24, []), (39, [1, 0]), (6183, []), (14375, []), (6247, []), (6375, [1, 0]), (55527, []), (121063, []), (55783, []), (56039, []), (187111, []), (24, []), (55527, []), (55527, []), (6183, []), (6183, []), (24, [])] Try.f17 ⟨[.y, .v, .v], [.v, .v], []⟩ = some ir_impl_HankelOf := by kernel_rfl
instance : Has K 98 ir_impl_HankelOf := ⟨fun _ _ hb => KS.of_body tabOk mixed (r := ⟨98, 17, ⟨[.y, .v, .v], [.v, .v], []⟩⟩) rfl t98 Try.func17 hb⟩
theorem t126 : trF (cfOf Try.prog tab 59 []) (sgOf tab) [(0, .y), (2, .v), (3, .v), (4, .v), (5, .v), (6, (.o .v)), (7, .v), (10, .v), (14, .v), (21, .v)] [(1, []), (129, []), (2, []), (5, []), (13, []), (29, []), (285, []), (61, [1, 0]), (125, []), (637, []), (125, [0, 1, 0, 0, 0, 0, 0, 0, 0, 0, 0, 0, 0, 0, 0, 0, 0, 0, 0, 0]), (125, []), (29, []), (29, []), (29, []), (2, [])] Try.f50 ⟨[.y], [.v], []⟩ = some ir_spec_l30Det := by kernel_rfl
instance : Has K 126 ir_spec_l30Det := ⟨fun _ _ hb => KS.of_body tabOk mixed (r := ⟨126, 50, ⟨[.y], [.v], []⟩⟩) rfl t126 Try.func50 hb⟩
theorem t127 : trF (cfOf Try.prog tab 55 []) (sgOf tab) [(0, .y), (2, .v), (3, .v), (4, .v), (5, .v), (6, (.o .v)), (8, .y), (11, .v), (14, .y), (15, .v), (16, .v), (17, .v), (23, .y), (24, .v), (25, .v), (26, .v), (44, .v)] [(1, []), (129, []), (2, []), (5, []), (1797, []), (3845, []), (1821, []), (1853, [1, 0]), (30525, []), (63293, []), (30589, []), (30525, []), (30525, []), (67381, []), (1845, []), (1797, []), (1797, []), (2, [])] Try.f53 ⟨[.y], [.v], []⟩ = some ir_impl_determinant := by kernel_rfl
instance : Has K 127 ir_impl_determinant := ⟨fun _ _ hb => KS.of_body tabOk mixed (r := ⟨127, 53, ⟨[.y], [.v], []⟩⟩) rfl t127 Try.func53 hb⟩
end Go.Proofs.Ythbpihoafdpicaa.fnExactHankelOf

