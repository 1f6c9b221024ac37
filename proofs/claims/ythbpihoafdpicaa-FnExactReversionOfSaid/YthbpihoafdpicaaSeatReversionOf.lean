/-
  Texts of the little language.
-/
import Derived.Test.YthbpihoafdpicaaIrAllA
import Derived.Test.YthbpihoafdpicaaRows
import Derived.Test.YthbpihoafdpicaaCatTwo
namespace Go.Proofs.Ythbpihoafdpicaa.fnExactReversionOf
open Go Go.Cat Go.Proofs
set_option maxRecDepth 100000
def tab : List Row := [⟨22, 49, ⟨[.v, .v, .v], [.v], []⟩⟩,
  ⟨23, 52, ⟨[.v, .v, .v], [.v], []⟩⟩,
  ⟨42, 16, ⟨[.y], [(.o .v)], []⟩⟩,
  ⟨44, 18, ⟨[.y, .y], [.v], []⟩⟩,
  ⟨45, 25, ⟨[(.o .v), .v], [.v], [0]⟩⟩,
  ⟨46, 26, ⟨[.y, .v], [.v], []⟩⟩,
  ⟨68, 48, ⟨[.y], [.v], []⟩⟩,
  ⟨69, 61, ⟨[.y, .y], [(.o .v)], []⟩⟩,
  ⟨71, 63, ⟨[.y, .y], [(.o .v)], []⟩⟩,
  ⟨78, 62, ⟨[.y, .v, .v], [.v], []⟩⟩,
  ⟨88, 6, ⟨[.y], [.v], []⟩⟩,
  ⟨103, 23, ⟨[.y], [(.o .v), .v], []⟩⟩,
  ⟨104, 24, ⟨[.y], [(.o .v), .v], []⟩⟩]
theorem tabOk : tabOK Try.prog tab = true := by kernel_rfl
theorem mixed : Try.prog.follows .mixedOrders = true := Try.checked.mixed
abbrev K := KS Try.prog tab
theorem t22 : trF (cfOf Try.prog tab 15 []) (sgOf tab) [(0, .v), (1, .v), (2, .v), (6, .v)] [(7, []), (8, [])] Try.f49 ⟨[.v, .v, .v], [.v], []⟩ = some ir_spec_l1In := by kernel_rfl
instance : Has K 22 ir_spec_l1In := ⟨fun _ _ hb => KS.of_body tabOk mixed (r := ⟨22, 49, ⟨[.v, .v, .v], [.v], []⟩⟩) rfl t22 Try.func49 hb⟩
theorem t23 : trF (cfOf Try.prog tab 15 []) (sgOf tab) [(0, .v), (1, .v), (2, .v), (6, .v)] [(7, []), (8, [])] Try.f52 ⟨[.v, .v, .v], [.v], []⟩ = some ir_impl_within := by kernel_rfl
instance : Has K 23 ir_impl_within := ⟨fun _ _ hb => KS.of_body tabOk mixed (r := ⟨23, 52, ⟨[.v, .v, .v], [.v], []⟩⟩) rfl t23 Try.func52 hb⟩
theorem t42 : trF (cfOf Try.prog tab 22 []) (sgOf tab) [(0, .y), (2, (.o .v)), (3, (.o .v)), (4, .v), (11, .v)] [(1, [1]), (5, [0, 0, 1, 0]), (13, []), (29, []), (13, []), (13, []), (2, [])] Try.f16 ⟨[.y], [(.o .v)], []⟩ = some ir_laws_toIntS := by kernel_rfl
instance : Has K 42 ir_laws_toIntS := ⟨fun _ _ hb => KS.of_body tabOk mixed (r := ⟨42, 16, ⟨[.y], [(.o .v)], []⟩⟩) rfl t42 Try.func16 hb⟩
theorem t44 : trF (cfOf Try.prog tab 26 []) (sgOf tab) [(0, .y), (1, .y), (4, .v), (5, .v), (10, .v), (14, .v), (25, .v)] [(3, []), (19, []), (4, []), (11, []), (43, []), (75, []), (4, []), (11, []), (4, [])] Try.f18 ⟨[.y, .y], [.v], []⟩ = some ir_laws_eqIntS := by kernel_rfl
instance : Has K 44 ir_laws_eqIntS := ⟨fun _ _ hb => KS.of_body tabOk mixed (r := ⟨44, 18, ⟨[.y, .y], [.v], []⟩⟩) rfl t44 Try.func18 hb⟩
theorem t45 : trF (cfOf Try.prog tab 19 [0]) (sgOf tab) [(0, (.o .v)), (1, .v), (4, .v), (5, .v), (9, .v)] [(3, []), (11, []), (27, []), (11, []), (11, []), (11, []), (5, [])] Try.f25 ⟨[(.o .v), .v], [.v], [0]⟩ = some ir_laws_markIntS := by kernel_rfl
instance : Has K 45 ir_laws_markIntS := ⟨fun _ _ hb => KS.of_body tabOk mixed (r := ⟨45, 25, ⟨[(.o .v), .v], [.v], [0]⟩⟩) rfl t45 Try.func25 hb⟩
theorem t46 : trF (cfOf Try.prog tab 21 []) (sgOf tab) [(0, .y), (1, .v), (4, .v), (5, .v), (9, .v), (17, .v)] [(3, []), (11, []), (27, []), (43, []), (4, []), (11, []), (11, []), (4, [])] Try.f26 ⟨[.y, .v], [.v], []⟩ = some ir_laws_heldIntS := by kernel_rfl
instance : Has K 46 ir_laws_heldIntS := ⟨fun _ _ hb => KS.of_body tabOk mixed (r := ⟨46, 26, ⟨[.y, .v], [.v], []⟩⟩) rfl t46 Try.func26 hb⟩
theorem t68 : trF (cfOf Try.prog tab 19 []) (sgOf tab) [(0, .y), (2, .v), (3, .v), (7, .v), (15, .v)] [(1, []), (5, []), (13, []), (21, []), (2, []), (5, []), (2, [])] Try.f48 ⟨[.y], [.v], []⟩ = some ir_spec_l30Fine := by kernel_rfl
instance : Has K 68 ir_spec_l30Fine := ⟨fun _ _ hb => KS.of_body tabOk mixed (r := ⟨68, 48, ⟨[.y], [.v], []⟩⟩) rfl t68 Try.func48 hb⟩
theorem t69 : trF (cfOf Try.prog tab 46 []) (sgOf tab) [(0, .y), (1, .y), (4, (.o .v)), (5, .v), (6, (.o .v)), (7, .v), (8, .v), (18, .v), (23, .v)] [(3, [1]), (11, []), (27, [0, 1, 0]), (59, []), (187, []), (123, []), (379, []), (123, []), (123, []), (59, []), (4, [])] Try.f61 ⟨[.y, .y], [(.o .v)], []⟩ = some ir_spec_l30Times := by kernel_rfl
instance : Has K 69 ir_spec_l30Times := ⟨fun _ _ hb => KS.of_body tabOk mixed (r := ⟨69, 61, ⟨[.y, .y], [(.o .v)], []⟩⟩) rfl t69 Try.func61 hb⟩
theorem t71 : trF (cfOf Try.prog tab 42 []) (sgOf tab) [(0, .y), (1, .y), (4, (.o .v)), (5, (.o .v)), (6, .v), (7, .v), (12, .v), (13, .v), (14, .v), (18, .v)] [(3, [1]), (11, [0, 0, 1, 0]), (203, []), (459, []), (219, []), (251, []), (763, []), (251, []), (251, []), (203, []), (4, [])] Try.f63 ⟨[.y, .y], [(.o .v)], []⟩ = some ir_impl_times := by kernel_rfl
instance : Has K 71 ir_impl_times := ⟨fun _ _ hb => KS.of_body tabOk mixed (r := ⟨71, 63, ⟨[.y, .y], [(.o .v)], []⟩⟩) rfl t71 Try.func63 hb⟩
theorem t78 : trF (cfOf Try.prog tab 21 []) (sgOf tab) [(0, .y), (1, .v), (2, .v), (6, .v), (8, .v), (9, .y), (10, .v), (11, .v), (12, .v), (19, .v)] [(7, []), (230, []), (486, []), (246, []), (742, []), (8, []), (230, []), (8, [])] Try.f62 ⟨[.y, .v, .v], [.v], []⟩ = some ir_impl_areWithin := by kernel_rfl
instance : Has K 78 ir_impl_areWithin := ⟨fun _ _ hb => KS.of_body tabOk mixed (r := ⟨78, 62, ⟨[.y, .v, .v], [.v], []⟩⟩) rfl t78 Try.func62 hb⟩
theorem t88 : trF (cfOf Try.prog tab 93 []) (sgOf tab) [(0, .y), (2, .v), (3, .v), (4, .v), (5, (.o .v)), (6, (.o .v)), (7, .v), (8, .v), (9, .v), (10, .v), (11, .v), (12, .v), (15, .v), (37, .v), (42, .v), (58, .v), (66, .v), (69, .v), (84, .v), (89, .v), (92, .v)] [(1, []), (4097, []), (2, []), (13, []), (29, []), (125, []), (8317, []), (2, []), (16509, []), (2, []), (253, []), (237, []), (32813, []), (2, []), (301, []), (301, []), (813, []), (813, []), (66349, []), (2, []), (131373, []), (2, []), (3372, []), (262432, []), (2, []), (800, []), (768, []), (525056, []), (2, []), (1048576, []), (2, []), (2, [])] Try.f6 ⟨[.y], [.v], []⟩ = some ir_laws_FnExactReversionOf := by kernel_rfl
instance : Has K 88 ir_laws_FnExactReversionOf := ⟨fun _ _ hb => KS.of_body tabOk mixed (r := ⟨88, 6, ⟨[.y], [.v], []⟩⟩) rfl t88 Try.func6 hb⟩
theorem t103 : trF (cfOf Try.prog tab 89 []) (sgOf tab) [(0, .y), (2, (.o .v)), (3, .v), (4, .v), (5, .v), (6, (.o .v)), (7, .v), (8, .v), (9, .v), (10, .v), (35, .v), (40, .v), (48, .v), (58, .v), (66, .v)] [(1, [1, 0]), (1025, []), (6, [1, 0, 0]), (9, []), (2057, []), (4105, []), (6, [1, 0, 0]), (9, []), (17, []), (49, [0, 1, 0]), (49, []), (113, []), (8305, []), (241, []), (497, [1, 0, 0, 0]), (1009, []), (17393, []), (1009, []), (1009, []), (1009, []), (113, []), (113, []), (6, [])] Try.f23 ⟨[.y], [(.o .v), .v], []⟩ = some ir_spec_ReversionOf := by kernel_rfl
instance : Has K 103 ir_spec_ReversionOf := ⟨fun _ _ hb => KS.of_body tabOk mixed (r := ⟨103, 23, ⟨[.y], [(.o .v), .v], []⟩⟩) rfl t103 Try.func23 hb⟩
theorem t104 : trF (cfOf Try.prog tab 72 []) (sgOf tab) [(0, .y), (2, (.o .v)), (3, .v), (4, .v), (5, (.o .v)), (6, .v), (7, (.o .v)), (8, .v), (9, .v), (30, .v), (40, .v), (49, .v)] [(1, [1, 0]), (513, []), (6, [1, 0, 0]), (9, []), (25, [0, 1, 0]), (25, []), (57, []), (1081, []), (121, [0, 1, 0]), (121, []), (249, []), (505, []), (2553, []), (505, []), (505, []), (505, []), (57, []), (57, []), (6, [])] Try.f24 ⟨[.y], [(.o .v), .v], []⟩ = some ir_impl_ReversionOf := by kernel_rfl
instance : Has K 104 ir_impl_ReversionOf := ⟨fun _ _ hb => KS.of_body tabOk mixed (r := ⟨104, 24, ⟨[.y], [(.o .v), .v], []⟩⟩) rfl t104 Try.func24 hb⟩
end Go.Proofs.Ythbpihoafdpicaa.fnExactReversionOf

