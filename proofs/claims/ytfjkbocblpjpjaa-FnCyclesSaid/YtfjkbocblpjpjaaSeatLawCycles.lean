/-
  Texts of the little language.
-/
import Derived.Test.YtfjkbocblpjpjaaIrAllA
import Derived.Test.YtfjkbocblpjpjaaRows
import Derived.Test.YtfjkbocblpjpjaaCatThree
namespace Go.Proofs.Ytfjkbocblpjpjaa.fnCycles
open Go Go.Cat Go.Proofs
set_option maxRecDepth 100000
def tab : List Row := [⟨22, 132, ⟨[.v, .v, .v], [.v], []⟩⟩,
  ⟨23, 134, ⟨[.v, .v, .v], [.v], []⟩⟩,
  ⟨64, 144, ⟨[.v], [.v], []⟩⟩,
  ⟨65, 139, ⟨[.v], [.v], []⟩⟩,
  ⟨66, 140, ⟨[.v, .v], [.v], []⟩⟩,
  ⟨67, 23, ⟨[.v], [.v], []⟩⟩,
  ⟨82, 141, ⟨[.v], [(.o .v), .v], []⟩⟩,
  ⟨99, 17, ⟨[.v], [.v, .v], []⟩⟩,
  ⟨100, 16, ⟨[.v], [.v, .v], []⟩⟩,
  ⟨128, 15, ⟨[.v], [.v, .v], []⟩⟩,
  ⟨129, 14, ⟨[.v], [.v, .v], []⟩⟩,
  ⟨174, 19, ⟨[.v], [.v], []⟩⟩,
  ⟨175, 138, ⟨[.v], [.v], []⟩⟩,
  ⟨176, 18, ⟨[.v], [.v], []⟩⟩,
  ⟨177, 137, ⟨[.v, .v], [.v], []⟩⟩,
  ⟨214, 4, ⟨[.v], [.v], []⟩⟩,
  ⟨220, 12, ⟨[.v], [.v], []⟩⟩,
  ⟨221, 13, ⟨[.v], [.v], []⟩⟩,
  ⟨222, 20, ⟨[.v], [.v], []⟩⟩,
  ⟨223, 21, ⟨[.v], [.v], []⟩⟩,
  ⟨224, 22, ⟨[.v, .v], [.v, .v], []⟩⟩,
  ⟨225, 24, ⟨[.v], [.v, .v], []⟩⟩,
  ⟨226, 25, ⟨[.v, .v], [.v, .v], []⟩⟩,
  ⟨227, 26, ⟨[.v, .v], [.v, .v], []⟩⟩,
  ⟨228, 27, ⟨[.v], [.v, .v], []⟩⟩,
  ⟨229, 28, ⟨[.v, .v], [.v, .v], []⟩⟩,
  ⟨287, 135, ⟨[(.b .v)], [.v], [0]⟩⟩,
  ⟨288, 136, ⟨[.v], [(.b .v)], []⟩⟩,
  ⟨289, 142, ⟨[(.b .v), .v], [.v], [0]⟩⟩,
  ⟨290, 143, ⟨[(.b .v)], [.v], [0]⟩⟩,
  ⟨306, 172, ⟨[(.b .v), .v], [.v], [0]⟩⟩,
  ⟨307, 173, ⟨[(.b .v), .v], [.v], [0]⟩⟩,
  ⟨315, 195, ⟨[(.b .v), .v], [.v], [0]⟩⟩,
  ⟨316, 196, ⟨[(.b .v)], [.v], [0]⟩⟩,
  ⟨317, 197, ⟨[(.b .v)], [.v], [0]⟩⟩,
  ⟨318, 198, ⟨[(.b .v), .y], [.v], [0]⟩⟩,
  ⟨327, 210, ⟨[(.b .v), .v], [.v], [0]⟩⟩]
theorem tabOk : tabOK Try.prog tab = true := by kernel_rfl
theorem mixed : Try.prog.follows .mixedOrders = true := Try.checked.mixed
abbrev K := KS Try.prog tab
theorem t22 : trF (cfOf Try.prog tab 15 []) (sgOf tab) [(0, .v), (1, .v), (2, .v), (6, .v)] [(7, []), (8, [])] Try.f132 ⟨[.v, .v, .v], [.v], []⟩ = some ir_spec_l1In := by kernel_rfl
instance : Has K 22 ir_spec_l1In := ⟨fun _ _ hb => KS.of_body tabOk mixed (r := ⟨22, 132, ⟨[.v, .v, .v], [.v], []⟩⟩) rfl t22 Try.func132 hb⟩
theorem t23 : trF (cfOf Try.prog tab 15 []) (sgOf tab) [(0, .v), (1, .v), (2, .v), (6, .v)] [(7, []), (8, [])] Try.f134 ⟨[.v, .v, .v], [.v], []⟩ = some ir_impl_within := by kernel_rfl
instance : Has K 23 ir_impl_within := ⟨fun _ _ hb => KS.of_body tabOk mixed (r := ⟨23, 134, ⟨[.v, .v, .v], [.v], []⟩⟩) rfl t23 Try.func134 hb⟩
theorem t64 : trF (cfOf Try.prog tab 31 []) (sgOf tab) [(0, .v), (2, .v), (3, .v), (4, .v), (8, .v), (13, .v), (14, .v), (18, .v), (23, .v)] [(1, []), (5, []), (13, []), (29, []), (45, []), (109, []), (13, []), (141, []), (13, []), (2, []), (269, []), (2, []), (13, []), (2, [])] Try.f144 ⟨[.v], [.v], []⟩ = some ir_spec_IsDyck := by kernel_rfl
instance : Has K 64 ir_spec_IsDyck := ⟨fun _ _ hb => KS.of_body tabOk mixed (r := ⟨64, 144, ⟨[.v], [.v], []⟩⟩) rfl t64 Try.func144 hb⟩
theorem t65 : trF (cfOf Try.prog tab 11 []) (sgOf tab) [(0, .v), (2, .v)] [(1, []), (2, [])] Try.f139 ⟨[.v], [.v], []⟩ = some ir_impl_areSteps := by kernel_rfl
instance : Has K 65 ir_impl_areSteps := ⟨fun _ _ hb => KS.of_body tabOk mixed (r := ⟨65, 139, ⟨[.v], [.v], []⟩⟩) rfl t65 Try.func139 hb⟩
theorem t66 : trF (cfOf Try.prog tab 21 []) (sgOf tab) [(0, .v), (1, .v), (4, .v), (5, .v), (6, .v), (10, .v), (17, .v)] [(3, []), (11, []), (27, []), (59, []), (91, []), (27, []), (27, []), (4, [])] Try.f140 ⟨[.v, .v], [.v], []⟩ = some ir_impl_count := by kernel_rfl
instance : Has K 66 ir_impl_count := ⟨fun _ _ hb => KS.of_body tabOk mixed (r := ⟨66, 140, ⟨[.v, .v], [.v], []⟩⟩) rfl t66 Try.func140 hb⟩
theorem t67 : trF (cfOf Try.prog tab 14 []) (sgOf tab) [(0, .v), (2, .v), (4, .v), (7, .v)] [(1, []), (9, []), (2, []), (4, []), (2, [])] Try.f23 ⟨[.v], [.v], []⟩ = some ir_impl_IsDyck := by kernel_rfl
instance : Has K 67 ir_impl_IsDyck := ⟨fun _ _ hb => KS.of_body tabOk mixed (r := ⟨67, 23, ⟨[.v], [.v], []⟩⟩) rfl t67 Try.func23 hb⟩
theorem t82 : trF (cfOf Try.prog tab 34 []) (sgOf tab) [(0, .v), (2, (.o .v)), (3, .v), (4, (.o .v)), (5, .v), (6, .v), (11, .v), (16, .v), (17, .v), (21, .v), (26, .v)] [(1, [1, 0]), (9, [1, 0]), (25, []), (57, []), (121, []), (185, []), (441, []), (57, []), (569, []), (57, []), (6, [1, 0]), (1081, []), (6, [1, 0]), (57, []), (57, []), (6, [])] Try.f141 ⟨[.v], [(.o .v), .v], []⟩ = some ir_impl_heights := by kernel_rfl
instance : Has K 82 ir_impl_heights := ⟨fun _ _ hb => KS.of_body tabOk mixed (r := ⟨82, 141, ⟨[.v], [(.o .v), .v], []⟩⟩) rfl t82 Try.func141 hb⟩
theorem t99 : trF (cfOf Try.prog tab 26 []) (sgOf tab) [(0, .v), (2, .v), (3, .v), (4, .v), (5, .v), (6, .v), (13, .v)] [(1, []), (25, []), (73, []), (6, []), (32, []), (6, [])] Try.f17 ⟨[.v], [.v, .v], []⟩ = some ir_spec_DyckOfCircle := by kernel_rfl
instance : Has K 99 ir_spec_DyckOfCircle := ⟨fun _ _ hb => KS.of_body tabOk mixed (r := ⟨99, 17, ⟨[.v], [.v, .v], []⟩⟩) rfl t99 Try.func17 hb⟩
theorem t100 : trF (cfOf Try.prog tab 26 []) (sgOf tab) [(0, .v), (2, .v), (3, .v), (4, .v), (5, .v), (6, .v), (13, .v)] [(1, []), (25, []), (73, []), (6, []), (32, []), (6, [])] Try.f16 ⟨[.v], [.v, .v], []⟩ = some ir_impl_DyckOfCircle := by kernel_rfl
instance : Has K 100 ir_impl_DyckOfCircle := ⟨fun _ _ hb => KS.of_body tabOk mixed (r := ⟨100, 16, ⟨[.v], [.v, .v], []⟩⟩) rfl t100 Try.func16 hb⟩
theorem t128 : trF (cfOf Try.prog tab 24 []) (sgOf tab) [(0, .v), (2, .v), (3, .v), (4, .v), (12, .v), (22, .v)] [(1, []), (9, []), (25, []), (41, []), (6, []), (9, []), (6, [])] Try.f15 ⟨[.v], [.v, .v], []⟩ = some ir_spec_GoodShift := by kernel_rfl
instance : Has K 128 ir_spec_GoodShift := ⟨fun _ _ hb => KS.of_body tabOk mixed (r := ⟨128, 15, ⟨[.v], [.v, .v], []⟩⟩) rfl t128 Try.func15 hb⟩
theorem t129 : trF (cfOf Try.prog tab 18 []) (sgOf tab) [(0, .v), (2, .v), (3, .v), (4, .v), (7, .v), (9, .v), (10, .v), (11, .v), (15, .v)] [(1, []), (17, []), (6, []), (97, []), (225, []), (105, []), (361, []), (6, []), (97, []), (6, [])] Try.f14 ⟨[.v], [.v, .v], []⟩ = some ir_impl_GoodShift := by kernel_rfl
instance : Has K 129 ir_impl_GoodShift := ⟨fun _ _ hb => KS.of_body tabOk mixed (r := ⟨129, 14, ⟨[.v], [.v, .v], []⟩⟩) rfl t129 Try.func14 hb⟩
theorem t174 : trF (cfOf Try.prog tab 29 []) (sgOf tab) [(0, .v), (2, .v), (3, .v), (4, .v), (8, .v), (13, .v), (14, .v), (18, .v)] [(1, []), (5, []), (13, []), (29, []), (45, []), (109, []), (13, []), (141, []), (13, []), (2, []), (13, []), (2, [])] Try.f19 ⟨[.v], [.v], []⟩ = some ir_spec_IsBalanced := by kernel_rfl
instance : Has K 174 ir_spec_IsBalanced := ⟨fun _ _ hb => KS.of_body tabOk mixed (r := ⟨174, 19, ⟨[.v], [.v], []⟩⟩) rfl t174 Try.func19 hb⟩
theorem t175 : trF (cfOf Try.prog tab 22 []) (sgOf tab) [(0, .v), (2, .v)] [(1, []), (2, [])] Try.f138 ⟨[.v], [.v], []⟩ = some ir_spec_l28Good := by kernel_rfl
instance : Has K 175 ir_spec_l28Good := ⟨fun _ _ hb => KS.of_body tabOk mixed (r := ⟨175, 138, ⟨[.v], [.v], []⟩⟩) rfl t175 Try.func138 hb⟩
theorem t176 : trF (cfOf Try.prog tab 18 []) (sgOf tab) [(0, .v), (2, .v)] [(1, []), (2, [])] Try.f18 ⟨[.v], [.v], []⟩ = some ir_impl_IsBalanced := by kernel_rfl
instance : Has K 176 ir_impl_IsBalanced := ⟨fun _ _ hb => KS.of_body tabOk mixed (r := ⟨176, 18, ⟨[.v], [.v], []⟩⟩) rfl t176 Try.func18 hb⟩
theorem t177 : trF (cfOf Try.prog tab 27 []) (sgOf tab) [(0, .v), (1, .v), (4, .v), (5, .v)] [(3, []), (8, []), (4, [])] Try.f137 ⟨[.v, .v], [.v], []⟩ = some ir_impl_good := by kernel_rfl
instance : Has K 177 ir_impl_good := ⟨fun _ _ hb => KS.of_body tabOk mixed (r := ⟨177, 137, ⟨[.v, .v], [.v], []⟩⟩) rfl t177 Try.func137 hb⟩
theorem t214 : trF (cfOf Try.prog tab 187 []) (sgOf tab) [(0, .v), (2, .v), (3, .v), (4, .v), (5, .v), (6, .v), (7, .v), (8, .v), (9, .v), (10, .v), (11, .v), (12, .v), (13, .v), (14, .v), (15, .v), (16, .v), (17, .v), (18, .v), (19, .v), (20, .v), (21, .v), (22, .v), (23, .v), (24, .v), (25, .v), (26, .v), (28, .v), (101, .v), (102, .v), (126, .v)] [(1, []), (67108865, []), (2, []), (5, []), (29, []), (125, []), (509, []), (2045, []), (134218293, []), (2, []), (268436005, []), (2597, []), (12805, []), (536870913, []), (2, []), (49153, []), (245761, []), (983041, []), (4128768, []), (16711680, []), (63897600, []), (2, [])] Try.f4 ⟨[.v], [.v], []⟩ = some ir_laws_FnCycles := by kernel_rfl
instance : Has K 214 ir_laws_FnCycles := ⟨fun _ _ hb => KS.of_body tabOk mixed (r := ⟨214, 4, ⟨[.v], [.v], []⟩⟩) rfl t214 Try.func4 hb⟩
theorem t220 : trF (cfOf Try.prog tab 6 []) (sgOf tab) [(0, .v), (2, .v)] [(1, []), (2, [])] Try.f12 ⟨[.v], [.v], []⟩ = some ir_laws_big := by kernel_rfl
instance : Has K 220 ir_laws_big := ⟨fun _ _ hb => KS.of_body tabOk mixed (r := ⟨220, 12, ⟨[.v], [.v], []⟩⟩) rfl t220 Try.func12 hb⟩
theorem t221 : trF (cfOf Try.prog tab 6 []) (sgOf tab) [(0, .v), (2, .v)] [(1, []), (2, [])] Try.f13 ⟨[.v], [.v], []⟩ = some ir_spec_DrawGoodShift := by kernel_rfl
instance : Has K 221 ir_spec_DrawGoodShift := ⟨fun _ _ hb => KS.of_body tabOk mixed (r := ⟨221, 13, ⟨[.v], [.v], []⟩⟩) rfl t221 Try.func13 hb⟩
theorem t222 : trF (cfOf Try.prog tab 20 []) (sgOf tab) [(0, .v), (2, .v), (3, .v), (4, .v), (7, .v), (9, .v), (10, .v), (11, .v), (15, .v)] [(1, []), (17, []), (2, []), (5, []), (101, []), (229, []), (109, []), (357, []), (101, []), (101, []), (2, [])] Try.f20 ⟨[.v], [.v], []⟩ = some ir_impl_CountGoodShifts := by kernel_rfl
instance : Has K 222 ir_impl_CountGoodShifts := ⟨fun _ _ hb => KS.of_body tabOk mixed (r := ⟨222, 20, ⟨[.v], [.v], []⟩⟩) rfl t222 Try.func20 hb⟩
theorem t223 : trF (cfOf Try.prog tab 25 []) (sgOf tab) [(0, .v), (2, .v), (3, .v), (4, .v), (7, .v), (11, .v), (21, .v)] [(1, []), (17, []), (2, []), (5, []), (13, []), (45, []), (77, []), (13, []), (13, []), (2, [])] Try.f21 ⟨[.v], [.v], []⟩ = some ir_spec_CountGoodShifts := by kernel_rfl
instance : Has K 223 ir_spec_CountGoodShifts := ⟨fun _ _ hb => KS.of_body tabOk mixed (r := ⟨223, 21, ⟨[.v], [.v], []⟩⟩) rfl t223 Try.func21 hb⟩
theorem t224 : trF (cfOf Try.prog tab 15 []) (sgOf tab) [(0, .v), (1, .v), (4, .v), (5, .v), (8, .v)] [(3, []), (19, []), (12, []), (12, [])] Try.f22 ⟨[.v, .v], [.v, .v], []⟩ = some ir_impl_CircleOf := by kernel_rfl
instance : Has K 224 ir_impl_CircleOf := ⟨fun _ _ hb => KS.of_body tabOk mixed (r := ⟨224, 22, ⟨[.v, .v], [.v, .v], []⟩⟩) rfl t224 Try.func22 hb⟩
theorem t225 : trF (cfOf Try.prog tab 17 []) (sgOf tab) [(0, .v), (2, .v), (3, .v), (4, (.b .v)), (5, .v)] [(1, []), (8, []), (24, []), (6, [])] Try.f24 ⟨[.v], [.v, .v], []⟩ = some ir_spec_DrawShiftWord := by kernel_rfl
instance : Has K 225 ir_spec_DrawShiftWord := ⟨fun _ _ hb => KS.of_body tabOk mixed (r := ⟨225, 24, ⟨[.v], [.v, .v], []⟩⟩) rfl t225 Try.func24 hb⟩
theorem t226 : trF (cfOf Try.prog tab 25 []) (sgOf tab) [(0, .v), (1, .v), (4, .v), (5, .v), (17, .v)] [(3, []), (19, []), (12, []), (12, [])] Try.f25 ⟨[.v, .v], [.v, .v], []⟩ = some ir_impl_ShiftWord := by kernel_rfl
instance : Has K 226 ir_impl_ShiftWord := ⟨fun _ _ hb => KS.of_body tabOk mixed (r := ⟨226, 25, ⟨[.v, .v], [.v, .v], []⟩⟩) rfl t226 Try.func25 hb⟩
theorem t227 : trF (cfOf Try.prog tab 25 []) (sgOf tab) [(0, .v), (1, .v), (4, .v), (5, .v), (17, .v)] [(3, []), (19, []), (12, []), (12, [])] Try.f26 ⟨[.v, .v], [.v, .v], []⟩ = some ir_spec_ShiftWord := by kernel_rfl
instance : Has K 227 ir_spec_ShiftWord := ⟨fun _ _ hb => KS.of_body tabOk mixed (r := ⟨227, 26, ⟨[.v, .v], [.v, .v], []⟩⟩) rfl t227 Try.func26 hb⟩
theorem t228 : trF (cfOf Try.prog tab 17 []) (sgOf tab) [(0, .v), (2, .v), (3, .v), (4, (.b .v)), (5, .v)] [(1, []), (8, []), (24, []), (6, [])] Try.f27 ⟨[.v], [.v, .v], []⟩ = some ir_spec_DrawCircleOf := by kernel_rfl
instance : Has K 228 ir_spec_DrawCircleOf := ⟨fun _ _ hb => KS.of_body tabOk mixed (r := ⟨228, 27, ⟨[.v], [.v, .v], []⟩⟩) rfl t228 Try.func27 hb⟩
theorem t229 : trF (cfOf Try.prog tab 20 []) (sgOf tab) [(0, .v), (1, .v), (4, .v), (5, .v), (6, .v), (7, .v), (10, .v)] [(3, []), (67, []), (12, []), (48, []), (12, [])] Try.f28 ⟨[.v, .v], [.v, .v], []⟩ = some ir_spec_CircleOf := by kernel_rfl
instance : Has K 229 ir_spec_CircleOf := ⟨fun _ _ hb => KS.of_body tabOk mixed (r := ⟨229, 28, ⟨[.v, .v], [.v, .v], []⟩⟩) rfl t229 Try.func28 hb⟩
theorem t287 : trF (cfOf Try.prog tab 44 [0]) (sgOf tab) [(0, (.b .v)), (2, .v), (3, .v), (4, .v), (5, .v), (9, .v), (39, .v)] [(1, []), (5, []), (13, []), (45, []), (29, []), (13, []), (29, []), (13, []), (13, []), (69, []), (3, []), (3, [])] Try.f135 ⟨[(.b .v)], [.v], [0]⟩ = some ir_spec_l28Any := by kernel_rfl
instance : Has K 287 ir_spec_l28Any := ⟨fun _ _ hb => KS.of_body tabOk mixed (r := ⟨287, 135, ⟨[(.b .v)], [.v], [0]⟩⟩) rfl t287 Try.func135 hb⟩
theorem t288 : trF (cfOf Try.prog tab 32 []) (sgOf tab) [(0, .v), (2, (.b .v)), (3, .v), (4, .v), (15, .v)] [(1, []), (5, []), (13, []), (29, []), (13, []), (13, []), (2, [0, 0, 0, 1, 0])] Try.f136 ⟨[.v], [(.b .v)], []⟩ = some ir_spec_l1New := by kernel_rfl
instance : Has K 288 ir_spec_l1New := ⟨fun _ _ hb => KS.of_body tabOk mixed (r := ⟨288, 136, ⟨[.v], [(.b .v)], []⟩⟩) rfl t288 Try.func136 hb⟩
theorem t289 : trF (cfOf Try.prog tab 37 [0]) (sgOf tab) [(0, (.b .v)), (1, .v), (4, .v), (5, .v), (6, .v), (7, .v), (8, .v), (10, .v), (12, .v)] [(3, []), (131, []), (5, []), (259, []), (5, []), (11, []), (27, []), (59, []), (123, []), (5, [])] Try.f142 ⟨[(.b .v), .v], [.v], [0]⟩ = some ir_spec_l1Below := by kernel_rfl
instance : Has K 289 ir_spec_l1Below := ⟨fun _ _ hb => KS.of_body tabOk mixed (r := ⟨289, 142, ⟨[(.b .v), .v], [.v], [0]⟩⟩) rfl t289 Try.func142 hb⟩
theorem t290 : trF (cfOf Try.prog tab 19 [0]) (sgOf tab) [(0, (.b .v)), (2, .v), (3, .v), (7, .v), (8, .v), (13, .v)] [(1, []), (5, []), (13, []), (29, []), (3, []), (37, []), (3, []), (3, [])] Try.f143 ⟨[(.b .v)], [.v], [0]⟩ = some ir_spec_l2Any := by kernel_rfl
instance : Has K 290 ir_spec_l2Any := ⟨fun _ _ hb => KS.of_body tabOk mixed (r := ⟨290, 143, ⟨[(.b .v)], [.v], [0]⟩⟩) rfl t290 Try.func143 hb⟩
theorem t306 : trF (cfOf Try.prog tab 32 [0]) (sgOf tab) [(0, (.b .v)), (1, .v), (4, .v), (5, .v), (6, .v), (7, .v), (10, .v), (22, .v)] [(3, []), (11, []), (27, []), (59, []), (123, []), (187, []), (59, []), (59, []), (59, []), (59, []), (5, [])] Try.f172 ⟨[(.b .v), .v], [.v], [0]⟩ = some ir_spec_l2Draw := by kernel_rfl
instance : Has K 306 ir_spec_l2Draw := ⟨fun _ _ hb => KS.of_body tabOk mixed (r := ⟨306, 172, ⟨[(.b .v), .v], [.v], [0]⟩⟩) rfl t306 Try.func172 hb⟩
theorem t307 : trF (cfOf Try.prog tab 9 [0]) (sgOf tab) [(0, (.b .v)), (1, .v), (4, .v)] [(3, []), (5, [])] Try.f173 ⟨[(.b .v), .v], [.v], [0]⟩ = some ir_spec_l1Once := by kernel_rfl
instance : Has K 307 ir_spec_l1Once := ⟨fun _ _ hb => KS.of_body tabOk mixed (r := ⟨307, 173, ⟨[(.b .v), .v], [.v], [0]⟩⟩) rfl t307 Try.func173 hb⟩
theorem t315 : trF (cfOf Try.prog tab 67 [0]) (sgOf tab) [(0, (.b .v)), (1, .v), (4, .v), (5, .v), (8, .v), (16, .v), (17, .v), (27, .v), (42, .v)] [(3, []), (19, []), (5, []), (11, []), (43, []), (107, []), (5, []), (171, []), (5, []), (267, []), (5, []), (5, [])] Try.f195 ⟨[(.b .v), .v], [.v], [0]⟩ = some ir_spec_l1Spoil := by kernel_rfl
instance : Has K 315 ir_spec_l1Spoil := ⟨fun _ _ hb => KS.of_body tabOk mixed (r := ⟨315, 195, ⟨[(.b .v), .v], [.v], [0]⟩⟩) rfl t315 Try.func195 hb⟩
theorem t316 : trF (cfOf Try.prog tab 58 [0]) (sgOf tab) [(0, (.b .v)), (2, .v), (3, .v), (34, .v)] [(1, []), (1, []), (5, []), (13, []), (5, []), (5, []), (3, [])] Try.f196 ⟨[(.b .v)], [.v], [0]⟩ = some ir_spec_l1Byte := by kernel_rfl
instance : Has K 316 ir_spec_l1Byte := ⟨fun _ _ hb => KS.of_body tabOk mixed (r := ⟨316, 196, ⟨[(.b .v)], [.v], [0]⟩⟩) rfl t316 Try.func196 hb⟩
theorem t317 : trF (cfOf Try.prog tab 7 [0]) (sgOf tab) [(0, (.b .v)), (2, .v)] [(1, []), (3, [])] Try.f197 ⟨[(.b .v)], [.v], [0]⟩ = some ir_spec_l2Path := by kernel_rfl
instance : Has K 317 ir_spec_l2Path := ⟨fun _ _ hb => KS.of_body tabOk mixed (r := ⟨317, 197, ⟨[(.b .v)], [.v], [0]⟩⟩) rfl t317 Try.func197 hb⟩
theorem t318 : trF (cfOf Try.prog tab 12 [0]) (sgOf tab) [(0, (.b .v)), (1, .y), (4, .v)] [(3, []), (5, [])] Try.f198 ⟨[(.b .v), .y], [.v], [0]⟩ = some ir_spec_l1Pick := by kernel_rfl
instance : Has K 318 ir_spec_l1Pick := ⟨fun _ _ hb => KS.of_body tabOk mixed (r := ⟨318, 198, ⟨[(.b .v), .y], [.v], [0]⟩⟩) rfl t318 Try.func198 hb⟩
theorem t327 : trF (cfOf Try.prog tab 38 [0]) (sgOf tab) [(0, (.b .v)), (1, .v), (4, .v), (5, (.o .v)), (6, .v), (7, .v), (8, .v), (17, .v), (23, .v), (27, .v)] [(3, []), (11, [1, 0]), (27, []), (57, []), (185, []), (121, []), (377, []), (121, []), (633, []), (121, []), (57, []), (57, []), (5, [])] Try.f210 ⟨[(.b .v), .v], [.v], [0]⟩ = some ir_spec_l1Text := by kernel_rfl
instance : Has K 327 ir_spec_l1Text := ⟨fun _ _ hb => KS.of_body tabOk mixed (r := ⟨327, 210, ⟨[(.b .v), .v], [.v], [0]⟩⟩) rfl t327 Try.func210 hb⟩
end Go.Proofs.Ytfjkbocblpjpjaa.fnCycles

