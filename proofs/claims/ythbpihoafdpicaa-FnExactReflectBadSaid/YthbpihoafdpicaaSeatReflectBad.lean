/-
  Texts of the little language.
-/
import Derived.Test.YthbpihoafdpicaaIrAllA
import Derived.Test.YthbpihoafdpicaaRows
import Derived.Test.YthbpihoafdpicaaCatTwo
namespace Go.Proofs.Ythbpihoafdpicaa.fnExactReflectBad
open Go Go.Cat Go.Proofs
set_option maxRecDepth 100000
def tab : List Row := [⟨39, 65, ⟨[.v], [.v], []⟩⟩,
  ⟨40, 67, ⟨[.v], [.v], []⟩⟩,
  ⟨63, 126, ⟨[.v], [.v, .v, .v], []⟩⟩,
  ⟨64, 69, ⟨[.v], [.v], []⟩⟩,
  ⟨65, 127, ⟨[.v], [.v], []⟩⟩,
  ⟨66, 128, ⟨[.v, .v], [.v], []⟩⟩,
  ⟨67, 70, ⟨[.v], [.v], []⟩⟩,
  ⟨76, 66, ⟨[.v, .v], [.v], []⟩⟩,
  ⟨77, 68, ⟨[.v], [.v], []⟩⟩,
  ⟨82, 130, ⟨[.v], [(.o .v), .v], []⟩⟩,
  ⟨83, 129, ⟨[.v, .v, .v], [.v, .v], []⟩⟩,
  ⟨90, 8, ⟨[.v], [.v], []⟩⟩,
  ⟨107, 29, ⟨[.v], [.v, .v], []⟩⟩,
  ⟨108, 30, ⟨[.v], [.v, .v], []⟩⟩]
theorem tabOk : tabOK Try.prog tab = true := by kernel_rfl
theorem mixed : Try.prog.follows .mixedOrders = true := Try.checked.mixed
abbrev K := KS Try.prog tab
theorem t39 : trF (cfOf Try.prog tab 23 []) (sgOf tab) [(0, .v), (2, .v), (3, .v), (4, .v), (5, .v)] [(1, []), (29, []), (2, [])] Try.f65 ⟨[.v], [.v], []⟩ = some ir_spec_IsBad := by kernel_rfl
instance : Has K 39 ir_spec_IsBad := ⟨fun _ _ hb => KS.of_body tabOk mixed (r := ⟨39, 65, ⟨[.v], [.v], []⟩⟩) rfl t39 Try.func65 hb⟩
theorem t40 : trF (cfOf Try.prog tab 22 []) (sgOf tab) [(0, .v), (2, .v)] [(1, []), (2, [])] Try.f67 ⟨[.v], [.v], []⟩ = some ir_impl_IsBad := by kernel_rfl
instance : Has K 40 ir_impl_IsBad := ⟨fun _ _ hb => KS.of_body tabOk mixed (r := ⟨40, 67, ⟨[.v], [.v], []⟩⟩) rfl t40 Try.func67 hb⟩
theorem t63 : trF (cfOf Try.prog tab 30 []) (sgOf tab) [(0, .v), (2, .v), (3, .v), (4, .v), (5, .v), (6, .v), (7, .v), (11, .v), (16, .v), (17, .v), (21, .v)] [(1, []), (17, []), (49, []), (113, []), (241, []), (369, []), (881, []), (113, []), (1137, []), (113, []), (14, []), (113, []), (14, [])] Try.f126 ⟨[.v], [.v, .v, .v], []⟩ = some ir_spec_l29Word := by kernel_rfl
instance : Has K 63 ir_spec_l29Word := ⟨fun _ _ hb => KS.of_body tabOk mixed (r := ⟨63, 126, ⟨[.v], [.v, .v, .v], []⟩⟩) rfl t63 Try.func126 hb⟩
theorem t64 : trF (cfOf Try.prog tab 31 []) (sgOf tab) [(0, .v), (2, .v), (3, .v), (4, .v), (8, .v), (13, .v), (14, .v), (18, .v), (23, .v)] [(1, []), (5, []), (13, []), (29, []), (45, []), (109, []), (13, []), (141, []), (13, []), (2, []), (269, []), (2, []), (13, []), (2, [])] Try.f69 ⟨[.v], [.v], []⟩ = some ir_spec_IsDyck := by kernel_rfl
instance : Has K 64 ir_spec_IsDyck := ⟨fun _ _ hb => KS.of_body tabOk mixed (r := ⟨64, 69, ⟨[.v], [.v], []⟩⟩) rfl t64 Try.func69 hb⟩
theorem t65 : trF (cfOf Try.prog tab 11 []) (sgOf tab) [(0, .v), (2, .v)] [(1, []), (2, [])] Try.f127 ⟨[.v], [.v], []⟩ = some ir_impl_areSteps := by kernel_rfl
instance : Has K 65 ir_impl_areSteps := ⟨fun _ _ hb => KS.of_body tabOk mixed (r := ⟨65, 127, ⟨[.v], [.v], []⟩⟩) rfl t65 Try.func127 hb⟩
theorem t66 : trF (cfOf Try.prog tab 21 []) (sgOf tab) [(0, .v), (1, .v), (4, .v), (5, .v), (6, .v), (10, .v), (17, .v)] [(3, []), (11, []), (27, []), (59, []), (91, []), (27, []), (27, []), (4, [])] Try.f128 ⟨[.v, .v], [.v], []⟩ = some ir_impl_count := by kernel_rfl
instance : Has K 66 ir_impl_count := ⟨fun _ _ hb => KS.of_body tabOk mixed (r := ⟨66, 128, ⟨[.v, .v], [.v], []⟩⟩) rfl t66 Try.func128 hb⟩
theorem t67 : trF (cfOf Try.prog tab 14 []) (sgOf tab) [(0, .v), (2, .v), (4, .v), (7, .v)] [(1, []), (9, []), (2, []), (4, []), (2, [])] Try.f70 ⟨[.v], [.v], []⟩ = some ir_impl_IsDyck := by kernel_rfl
instance : Has K 67 ir_impl_IsDyck := ⟨fun _ _ hb => KS.of_body tabOk mixed (r := ⟨67, 70, ⟨[.v], [.v], []⟩⟩) rfl t67 Try.func70 hb⟩
theorem t76 : trF (cfOf Try.prog tab 43 []) (sgOf tab) [(0, .v), (1, .v), (4, .v), (5, .v), (6, .v), (7, .v), (8, .v), (12, .v), (15, .v), (19, .v), (34, .v)] [(3, []), (11, []), (27, []), (59, []), (123, []), (251, []), (379, []), (635, []), (123, []), (123, []), (91, []), (1115, []), (91, []), (91, []), (123, []), (123, []), (4, [])] Try.f66 ⟨[.v, .v], [.v], []⟩ = some ir_spec_l29Flip := by kernel_rfl
instance : Has K 76 ir_spec_l29Flip := ⟨fun _ _ hb => KS.of_body tabOk mixed (r := ⟨76, 66, ⟨[.v, .v], [.v], []⟩⟩) rfl t76 Try.func66 hb⟩
theorem t77 : trF (cfOf Try.prog tab 38 []) (sgOf tab) [(0, .v), (2, .v), (3, .v), (4, .v), (5, .v), (10, .v), (16, .v), (22, .v)] [(1, []), (5, []), (13, []), (45, []), (77, []), (13, []), (13, []), (141, []), (25, []), (2, []), (13, []), (2, [])] Try.f68 ⟨[.v], [.v], []⟩ = some ir_impl_reflected := by kernel_rfl
instance : Has K 77 ir_impl_reflected := ⟨fun _ _ hb => KS.of_body tabOk mixed (r := ⟨77, 68, ⟨[.v], [.v], []⟩⟩) rfl t77 Try.func68 hb⟩
theorem t82 : trF (cfOf Try.prog tab 34 []) (sgOf tab) [(0, .v), (2, (.o .v)), (3, .v), (4, (.o .v)), (5, .v), (6, .v), (11, .v), (16, .v), (17, .v), (21, .v), (26, .v)] [(1, [1, 0]), (9, [1, 0]), (25, []), (57, []), (121, []), (185, []), (441, []), (57, []), (569, []), (57, []), (6, [1, 0]), (1081, []), (6, [1, 0]), (57, []), (57, []), (6, [])] Try.f130 ⟨[.v], [(.o .v), .v], []⟩ = some ir_impl_heights := by kernel_rfl
instance : Has K 82 ir_impl_heights := ⟨fun _ _ hb => KS.of_body tabOk mixed (r := ⟨82, 130, ⟨[.v], [(.o .v), .v], []⟩⟩) rfl t82 Try.func130 hb⟩
theorem t83 : trF (cfOf Try.prog tab 40 []) (sgOf tab) [(0, .v), (1, .v), (2, .v), (6, .v), (7, .v), (8, (.o .v)), (9, .v), (14, .v), (19, .v), (20, .v), (29, .v)] [(7, []), (39, [1, 0]), (103, []), (231, []), (359, []), (871, []), (103, []), (1127, []), (103, []), (24, []), (103, []), (24, [])] Try.f129 ⟨[.v, .v, .v], [.v, .v], []⟩ = some ir_impl_exchanged := by kernel_rfl
instance : Has K 83 ir_impl_exchanged := ⟨fun _ _ hb => KS.of_body tabOk mixed (r := ⟨83, 129, ⟨[.v, .v, .v], [.v, .v], []⟩⟩) rfl t83 Try.func129 hb⟩
theorem t90 : trF (cfOf Try.prog tab 28 []) (sgOf tab) [(0, .v), (2, .v), (3, .v), (4, .v), (5, .v), (6, .v), (9, .v), (27, .v)] [(1, []), (65, []), (2, []), (13, []), (60, []), (128, []), (2, []), (2, [])] Try.f8 ⟨[.v], [.v], []⟩ = some ir_laws_FnExactReflectBad := by kernel_rfl
instance : Has K 90 ir_laws_FnExactReflectBad := ⟨fun _ _ hb => KS.of_body tabOk mixed (r := ⟨90, 8, ⟨[.v], [.v], []⟩⟩) rfl t90 Try.func8 hb⟩
theorem t107 : trF (cfOf Try.prog tab 9 []) (sgOf tab) [(0, .v), (2, .v), (3, .v), (6, .v)] [(1, []), (9, []), (6, []), (6, [])] Try.f29 ⟨[.v], [.v, .v], []⟩ = some ir_spec_ReflectBad := by kernel_rfl
instance : Has K 107 ir_spec_ReflectBad := ⟨fun _ _ hb => KS.of_body tabOk mixed (r := ⟨107, 29, ⟨[.v], [.v, .v], []⟩⟩) rfl t107 Try.func29 hb⟩
theorem t108 : trF (cfOf Try.prog tab 9 []) (sgOf tab) [(0, .v), (2, .v), (3, .v), (6, .v)] [(1, []), (9, []), (6, []), (6, [])] Try.f30 ⟨[.v], [.v, .v], []⟩ = some ir_impl_ReflectBad := by kernel_rfl
instance : Has K 108 ir_impl_ReflectBad := ⟨fun _ _ hb => KS.of_body tabOk mixed (r := ⟨108, 30, ⟨[.v], [.v, .v], []⟩⟩) rfl t108 Try.func30 hb⟩
end Go.Proofs.Ythbpihoafdpicaa.fnExactReflectBad

