/-
  Texts of the little language.
-/
import Derived.Test.YtddhlibpgnnanaaIrAllA
import Derived.Test.YtddhlibpgnnanaaRows
import Derived.Test.YtddhlibpgnnanaaCatTwo
namespace Go.Proofs.Ytddhlibpgnnanaa.fnExactCatalanSeries
open Go Go.Cat Go.Proofs
set_option maxRecDepth 100000
def tab : List Row := [⟨22, 46, ⟨[.v, .v, .v], [.v], []⟩⟩,
  ⟨23, 48, ⟨[.v, .v, .v], [.v], []⟩⟩,
  ⟨27, 74, ⟨[.v, .v], [.v], []⟩⟩,
  ⟨28, 68, ⟨[.v], [.v], []⟩⟩,
  ⟨37, 13, ⟨[.v], [.v], []⟩⟩,
  ⟨44, 27, ⟨[.y, .y], [.v], []⟩⟩,
  ⟨45, 28, ⟨[(.o .v), .v], [.v], [0]⟩⟩,
  ⟨46, 29, ⟨[.y, .v], [.v], []⟩⟩,
  ⟨59, 42, ⟨[.v], [(.o .v), .v], []⟩⟩,
  ⟨60, 43, ⟨[.v], [(.o .v), .v], []⟩⟩,
  ⟨79, 67, ⟨[.v], [.v], []⟩⟩,
  ⟨84, 73, ⟨[.v, .v], [.v], []⟩⟩]
theorem tabOk : tabOK Try.prog tab = true := by kernel_rfl
theorem mixed : Try.prog.follows .mixedOrders = true := Try.checked.mixed
abbrev K := KS Try.prog tab
theorem t22 : trF (cfOf Try.prog tab 15 []) (sgOf tab) [(0, .v), (1, .v), (2, .v), (6, .v)] [(7, []), (8, [])] Try.f46 ⟨[.v, .v, .v], [.v], []⟩ = some ir_spec_l1In := by kernel_rfl
instance : Has K 22 ir_spec_l1In := ⟨fun _ _ hb => KS.of_body tabOk mixed (r := ⟨22, 46, ⟨[.v, .v, .v], [.v], []⟩⟩) rfl t22 Try.func46 hb⟩
theorem t23 : trF (cfOf Try.prog tab 15 []) (sgOf tab) [(0, .v), (1, .v), (2, .v), (6, .v)] [(7, []), (8, [])] Try.f48 ⟨[.v, .v, .v], [.v], []⟩ = some ir_impl_within := by kernel_rfl
instance : Has K 23 ir_impl_within := ⟨fun _ _ hb => KS.of_body tabOk mixed (r := ⟨23, 48, ⟨[.v, .v, .v], [.v], []⟩⟩) rfl t23 Try.func48 hb⟩
theorem t27 : trF (cfOf Try.prog tab 73 []) (sgOf tab) [(0, .v), (1, .v), (4, .v), (5, (.o .v)), (6, .v), (7, .v), (8, (.o .v)), (9, .v), (18, .v), (23, .v), (24, .v), (25, .v), (33, .v), (42, .v), (54, .v)] [(3, []), (259, []), (4, []), (11, [0, 0, 1, 0]), (1547, []), (3595, []), (1563, []), (1547, []), (1547, []), (43, []), (4139, []), (107, [0, 0, 1, 0]), (235, []), (8427, []), (235, []), (16619, []), (235, []), (235, []), (43, []), (43, []), (4, [])] Try.f74 ⟨[.v, .v], [.v], []⟩ = some ir_impl_BallotNumber := by kernel_rfl
instance : Has K 27 ir_impl_BallotNumber := ⟨fun _ _ hb => KS.of_body tabOk mixed (r := ⟨27, 74, ⟨[.v, .v], [.v], []⟩⟩) rfl t27 Try.func74 hb⟩
theorem t28 : trF (cfOf Try.prog tab 9 []) (sgOf tab) [(0, .v), (2, .v), (5, .v)] [(1, []), (5, []), (2, []), (2, [])] Try.f68 ⟨[.v], [.v], []⟩ = some ir_impl_CatalanNumber := by kernel_rfl
instance : Has K 28 ir_impl_CatalanNumber := ⟨fun _ _ hb => KS.of_body tabOk mixed (r := ⟨28, 68, ⟨[.v], [.v], []⟩⟩) rfl t28 Try.func68 hb⟩
theorem t37 : trF (cfOf Try.prog tab 63 []) (sgOf tab) [(0, .v), (2, .v), (3, .v), (4, .v), (5, (.o .v)), (6, .v), (7, .v), (8, .v), (9, .v), (10, .v), (29, .v), (37, .v), (40, .v), (54, .v), (59, .v), (62, .v)] [(1, []), (13, []), (61, []), (1053, []), (2, []), (93, []), (93, []), (221, []), (221, []), (2269, []), (2, []), (4189, []), (2, []), (860, []), (8272, []), (2, []), (208, []), (192, []), (16576, []), (2, []), (32768, []), (2, []), (2, [])] Try.f13 ⟨[.v], [.v], []⟩ = some ir_laws_FnExactCatalanSeries := by kernel_rfl
instance : Has K 37 ir_laws_FnExactCatalanSeries := ⟨fun _ _ hb => KS.of_body tabOk mixed (r := ⟨37, 13, ⟨[.v], [.v], []⟩⟩) rfl t37 Try.func13 hb⟩
theorem t44 : trF (cfOf Try.prog tab 26 []) (sgOf tab) [(0, .y), (1, .y), (4, .v), (5, .v), (10, .v), (14, .v), (25, .v)] [(3, []), (19, []), (4, []), (11, []), (43, []), (75, []), (4, []), (11, []), (4, [])] Try.f27 ⟨[.y, .y], [.v], []⟩ = some ir_laws_eqIntS := by kernel_rfl
instance : Has K 44 ir_laws_eqIntS := ⟨fun _ _ hb => KS.of_body tabOk mixed (r := ⟨44, 27, ⟨[.y, .y], [.v], []⟩⟩) rfl t44 Try.func27 hb⟩
theorem t45 : trF (cfOf Try.prog tab 19 [0]) (sgOf tab) [(0, (.o .v)), (1, .v), (4, .v), (5, .v), (9, .v)] [(3, []), (11, []), (27, []), (11, []), (11, []), (11, []), (5, [])] Try.f28 ⟨[(.o .v), .v], [.v], [0]⟩ = some ir_laws_markIntS := by kernel_rfl
instance : Has K 45 ir_laws_markIntS := ⟨fun _ _ hb => KS.of_body tabOk mixed (r := ⟨45, 28, ⟨[(.o .v), .v], [.v], [0]⟩⟩) rfl t45 Try.func28 hb⟩
theorem t46 : trF (cfOf Try.prog tab 21 []) (sgOf tab) [(0, .y), (1, .v), (4, .v), (5, .v), (9, .v), (17, .v)] [(3, []), (11, []), (27, []), (43, []), (4, []), (11, []), (11, []), (4, [])] Try.f29 ⟨[.y, .v], [.v], []⟩ = some ir_laws_heldIntS := by kernel_rfl
instance : Has K 46 ir_laws_heldIntS := ⟨fun _ _ hb => KS.of_body tabOk mixed (r := ⟨46, 29, ⟨[.y, .v], [.v], []⟩⟩) rfl t46 Try.func29 hb⟩
theorem t59 : trF (cfOf Try.prog tab 22 []) (sgOf tab) [(0, .v), (2, (.o .v)), (3, .v), (4, (.o .v)), (5, .v), (9, .v), (13, .v)] [(1, [1, 0]), (9, [1, 0]), (41, []), (6, []), (25, []), (89, []), (25, []), (25, []), (6, [])] Try.f42 ⟨[.v], [(.o .v), .v], []⟩ = some ir_spec_CatalanSeries := by kernel_rfl
instance : Has K 59 ir_spec_CatalanSeries := ⟨fun _ _ hb => KS.of_body tabOk mixed (r := ⟨59, 42, ⟨[.v], [(.o .v), .v], []⟩⟩) rfl t59 Try.func42 hb⟩
theorem t60 : trF (cfOf Try.prog tab 22 []) (sgOf tab) [(0, .v), (2, (.o .v)), (3, .v), (4, (.o .v)), (5, .v), (9, .v), (11, .v), (12, .v), (13, .v)] [(1, [1, 0]), (9, [1, 0]), (41, []), (6, []), (200, []), (456, []), (216, []), (200, []), (200, []), (6, [])] Try.f43 ⟨[.v], [(.o .v), .v], []⟩ = some ir_impl_CatalanSeries := by kernel_rfl
instance : Has K 60 ir_impl_CatalanSeries := ⟨fun _ _ hb => KS.of_body tabOk mixed (r := ⟨60, 43, ⟨[.v], [(.o .v), .v], []⟩⟩) rfl t60 Try.func43 hb⟩
theorem t79 : trF (cfOf Try.prog tab 9 []) (sgOf tab) [(0, .v), (2, .v), (5, .v)] [(1, []), (5, []), (2, []), (2, [])] Try.f67 ⟨[.v], [.v], []⟩ = some ir_spec_CatalanNumber := by kernel_rfl
instance : Has K 79 ir_spec_CatalanNumber := ⟨fun _ _ hb => KS.of_body tabOk mixed (r := ⟨79, 67, ⟨[.v], [.v], []⟩⟩) rfl t79 Try.func67 hb⟩
theorem t84 : trF (cfOf Try.prog tab 83 []) (sgOf tab) [(0, .v), (1, .v), (4, .v), (5, (.o (.o .v))), (6, .v), (7, .v), (11, .v), (23, .v), (49, .v), (58, .v)] [(3, []), (11, [2, 0]), (27, []), (91, []), (27, [0, 0, 0, 1, 2, 0, 0]), (59, []), (187, []), (315, []), (59, []), (571, []), (59, []), (59, []), (59, []), (27, []), (4, [])] Try.f73 ⟨[.v, .v], [.v], []⟩ = some ir_spec_l3Ways := by kernel_rfl
instance : Has K 84 ir_spec_l3Ways := ⟨fun _ _ hb => KS.of_body tabOk mixed (r := ⟨84, 73, ⟨[.v, .v], [.v], []⟩⟩) rfl t84 Try.func73 hb⟩
end Go.Proofs.Ytddhlibpgnnanaa.fnExactCatalanSeries

