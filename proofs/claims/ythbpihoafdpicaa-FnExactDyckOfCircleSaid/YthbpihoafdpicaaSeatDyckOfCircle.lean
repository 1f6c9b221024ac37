/-
  Texts of the little language.
-/
import Derived.Test.YthbpihoafdpicaaIrAllA
import Derived.Test.YthbpihoafdpicaaRows
import Derived.Test.YthbpihoafdpicaaCatTwo
namespace Go.Proofs.Ythbpihoafdpicaa.fnExactDyckOfCircle
open Go Go.Cat Go.Proofs
set_option maxRecDepth 100000
def tab : List Row := [⟨64, 69, ⟨[.v], [.v], []⟩⟩,
  ⟨65, 127, ⟨[.v], [.v], []⟩⟩,
  ⟨66, 128, ⟨[.v, .v], [.v], []⟩⟩,
  ⟨67, 70, ⟨[.v], [.v], []⟩⟩,
  ⟨82, 130, ⟨[.v], [(.o .v), .v], []⟩⟩,
  ⟨86, 4, ⟨[.v], [.v], []⟩⟩,
  ⟨99, 19, ⟨[.v], [.v, .v], []⟩⟩,
  ⟨100, 20, ⟨[.v], [.v, .v], []⟩⟩,
  ⟨128, 54, ⟨[.v], [.v, .v], []⟩⟩,
  ⟨129, 55, ⟨[.v], [.v, .v], []⟩⟩,
  ⟨174, 120, ⟨[.v], [.v], []⟩⟩,
  ⟨175, 121, ⟨[.v], [.v], []⟩⟩,
  ⟨176, 122, ⟨[.v], [.v], []⟩⟩,
  ⟨177, 123, ⟨[.v, .v], [.v], []⟩⟩]
theorem tabOk : tabOK Try.prog tab = true := by kernel_rfl
theorem mixed : Try.prog.follows .mixedOrders = true := Try.checked.mixed
abbrev K := KS Try.prog tab
theorem t64 : trF (cfOf Try.prog tab 31 []) (sgOf tab) [(0, .v), (2, .v), (3, .v), (4, .v), (8, .v), (13, .v), (14, .v), (18, .v), (23, .v)] [(1, []), (5, []), (13, []), (29, []), (45, []), (109, []), (13, []), (141, []), (13, []), (2, []), (269, []), (2, []), (13, []), (2, [])] Try.f69 ⟨[.v], [.v], []⟩ = some ir_spec_IsDyck := by kernel_rfl
instance : Has K 64 ir_spec_IsDyck := ⟨fun _ _ hb => KS.of_body tabOk mixed (r := ⟨64, 69, ⟨[.v], [.v], []⟩⟩) rfl t64 Try.func69 hb⟩
theorem t65 : trF (cfOf Try.prog tab 11 []) (sgOf tab) [(0, .v), (2, .v)] [(1, []), (2, [])] Try.f127 ⟨[.v], [.v], []⟩ = some ir_impl_areSteps := by kernel_rfl
instance : Has K 65 ir_impl_areSteps := ⟨fun _ _ hb => KS.of_body tabOk mixed (r := ⟨65, 127, ⟨[.v], [.v], []⟩⟩) rfl t65 Try.func127 hb⟩
theorem t66 : trF (cfOf Try.prog tab 21 []) (sgOf tab) [(0, .v), (1, .v), (4, .v), (5, .v), (6, .v), (10, .v), (17, .v)] [(3, []), (11, []), (27, []), (59, []), (91, []), (27, []), (27, []), (4, [])] Try.f128 ⟨[.v, .v], [.v], []⟩ = some ir_impl_count := by kernel_rfl
instance : Has K 66 ir_impl_count := ⟨fun _ _ hb => KS.of_body tabOk mixed (r := ⟨66, 128, ⟨[.v, .v], [.v], []⟩⟩) rfl t66 Try.func128 hb⟩
theorem t67 : trF (cfOf Try.prog tab 14 []) (sgOf tab) [(0, .v), (2, .v), (4, .v), (7, .v)] [(1, []), (9, []), (2, []), (4, []), (2, [])] Try.f70 ⟨[.v], [.v], []⟩ = some ir_impl_IsDyck := by kernel_rfl
instance : Has K 67 ir_impl_IsDyck := ⟨fun _ _ hb => KS.of_body tabOk mixed (r := ⟨67, 70, ⟨[.v], [.v], []⟩⟩) rfl t67 Try.func70 hb⟩
theorem t82 : trF (cfOf Try.prog tab 34 []) (sgOf tab) [(0, .v), (2, (.o .v)), (3, .v), (4, (.o .v)), (5, .v), (6, .v), (11, .v), (16, .v), (17, .v), (21, .v), (26, .v)] [(1, [1, 0]), (9, [1, 0]), (25, []), (57, []), (121, []), (185, []), (441, []), (57, []), (569, []), (57, []), (6, [1, 0]), (1081, []), (6, [1, 0]), (57, []), (57, []), (6, [])] Try.f130 ⟨[.v], [(.o .v), .v], []⟩ = some ir_impl_heights := by kernel_rfl
instance : Has K 82 ir_impl_heights := ⟨fun _ _ hb => KS.of_body tabOk mixed (r := ⟨82, 130, ⟨[.v], [(.o .v), .v], []⟩⟩) rfl t82 Try.func130 hb⟩
theorem t86 : trF (cfOf Try.prog tab 28 []) (sgOf tab) [(0, .v), (2, .v), (3, .v), (4, .v), (5, .v), (6, .v), (9, .v), (27, .v)] [(1, []), (65, []), (2, []), (13, []), (60, []), (128, []), (2, []), (2, [])] Try.f4 ⟨[.v], [.v], []⟩ = some ir_laws_FnExactDyckOfCircle := by kernel_rfl
instance : Has K 86 ir_laws_FnExactDyckOfCircle := ⟨fun _ _ hb => KS.of_body tabOk mixed (r := ⟨86, 4, ⟨[.v], [.v], []⟩⟩) rfl t86 Try.func4 hb⟩
theorem t99 : trF (cfOf Try.prog tab 26 []) (sgOf tab) [(0, .v), (2, .v), (3, .v), (4, .v), (5, .v), (6, .v), (13, .v)] [(1, []), (25, []), (73, []), (6, []), (32, []), (6, [])] Try.f19 ⟨[.v], [.v, .v], []⟩ = some ir_spec_DyckOfCircle := by kernel_rfl
instance : Has K 99 ir_spec_DyckOfCircle := ⟨fun _ _ hb => KS.of_body tabOk mixed (r := ⟨99, 19, ⟨[.v], [.v, .v], []⟩⟩) rfl t99 Try.func19 hb⟩
theorem t100 : trF (cfOf Try.prog tab 26 []) (sgOf tab) [(0, .v), (2, .v), (3, .v), (4, .v), (5, .v), (6, .v), (13, .v)] [(1, []), (25, []), (73, []), (6, []), (32, []), (6, [])] Try.f20 ⟨[.v], [.v, .v], []⟩ = some ir_impl_DyckOfCircle := by kernel_rfl
instance : Has K 100 ir_impl_DyckOfCircle := ⟨fun _ _ hb => KS.of_body tabOk mixed (r := ⟨100, 20, ⟨[.v], [.v, .v], []⟩⟩) rfl t100 Try.func20 hb⟩
theorem t128 : trF (cfOf Try.prog tab 24 []) (sgOf tab) [(0, .v), (2, .v), (3, .v), (4, .v), (12, .v), (22, .v)] [(1, []), (9, []), (25, []), (41, []), (6, []), (9, []), (6, [])] Try.f54 ⟨[.v], [.v, .v], []⟩ = some ir_spec_GoodShift := by kernel_rfl
instance : Has K 128 ir_spec_GoodShift := ⟨fun _ _ hb => KS.of_body tabOk mixed (r := ⟨128, 54, ⟨[.v], [.v, .v], []⟩⟩) rfl t128 Try.func54 hb⟩
theorem t129 : trF (cfOf Try.prog tab 18 []) (sgOf tab) [(0, .v), (2, .v), (3, .v), (4, .v), (7, .v), (9, .v), (10, .v), (11, .v), (15, .v)] [(1, []), (17, []), (6, []), (97, []), (225, []), (105, []), (361, []), (6, []), (97, []), (6, [])] Try.f55 ⟨[.v], [.v, .v], []⟩ = some ir_impl_GoodShift := by kernel_rfl
instance : Has K 129 ir_impl_GoodShift := ⟨fun _ _ hb => KS.of_body tabOk mixed (r := ⟨129, 55, ⟨[.v], [.v, .v], []⟩⟩) rfl t129 Try.func55 hb⟩
theorem t174 : trF (cfOf Try.prog tab 29 []) (sgOf tab) [(0, .v), (2, .v), (3, .v), (4, .v), (8, .v), (13, .v), (14, .v), (18, .v)] [(1, []), (5, []), (13, []), (29, []), (45, []), (109, []), (13, []), (141, []), (13, []), (2, []), (13, []), (2, [])] Try.f120 ⟨[.v], [.v], []⟩ = some ir_spec_IsBalanced := by kernel_rfl
instance : Has K 174 ir_spec_IsBalanced := ⟨fun _ _ hb => KS.of_body tabOk mixed (r := ⟨174, 120, ⟨[.v], [.v], []⟩⟩) rfl t174 Try.func120 hb⟩
theorem t175 : trF (cfOf Try.prog tab 22 []) (sgOf tab) [(0, .v), (2, .v)] [(1, []), (2, [])] Try.f121 ⟨[.v], [.v], []⟩ = some ir_spec_l28Good := by kernel_rfl
instance : Has K 175 ir_spec_l28Good := ⟨fun _ _ hb => KS.of_body tabOk mixed (r := ⟨175, 121, ⟨[.v], [.v], []⟩⟩) rfl t175 Try.func121 hb⟩
theorem t176 : trF (cfOf Try.prog tab 18 []) (sgOf tab) [(0, .v), (2, .v)] [(1, []), (2, [])] Try.f122 ⟨[.v], [.v], []⟩ = some ir_impl_IsBalanced := by kernel_rfl
instance : Has K 176 ir_impl_IsBalanced := ⟨fun _ _ hb => KS.of_body tabOk mixed (r := ⟨176, 122, ⟨[.v], [.v], []⟩⟩) rfl t176 Try.func122 hb⟩
theorem t177 : trF (cfOf Try.prog tab 27 []) (sgOf tab) [(0, .v), (1, .v), (4, .v), (5, .v)] [(3, []), (8, []), (4, [])] Try.f123 ⟨[.v, .v], [.v], []⟩ = some ir_impl_good := by kernel_rfl
instance : Has K 177 ir_impl_good := ⟨fun _ _ hb => KS.of_body tabOk mixed (r := ⟨177, 123, ⟨[.v, .v], [.v], []⟩⟩) rfl t177 Try.func123 hb⟩
end Go.Proofs.Ythbpihoafdpicaa.fnExactDyckOfCircle

