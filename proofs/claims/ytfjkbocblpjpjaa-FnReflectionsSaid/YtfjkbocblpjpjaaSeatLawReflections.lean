/-
  Texts of the little language.
-/
import Derived.Test.YtfjkbocblpjpjaaIrAllA
import Derived.Test.YtfjkbocblpjpjaaRows
import Derived.Test.YtfjkbocblpjpjaaCatThree
namespace Go.Proofs.Ytfjkbocblpjpjaa.fnReflections
open Go Go.Cat Go.Proofs
set_option maxRecDepth 100000
def tab : List Row := [⟨9, 47, ⟨[.v, .v], [.v], []⟩⟩,
  ⟨10, 40, ⟨[.v, .v], [.v], []⟩⟩,
  ⟨11, 10, ⟨[.v, .v], [.v], []⟩⟩,
  ⟨12, 11, ⟨[.v, .v], [.v], []⟩⟩,
  ⟨18, 49, ⟨[.v, .v], [.v], []⟩⟩,
  ⟨19, 48, ⟨[.v, .v], [.v], []⟩⟩,
  ⟨20, 39, ⟨[.v], [.v], []⟩⟩,
  ⟨21, 38, ⟨[.v], [.v], []⟩⟩,
  ⟨22, 132, ⟨[.v, .v, .v], [.v], []⟩⟩,
  ⟨23, 134, ⟨[.v, .v, .v], [.v], []⟩⟩,
  ⟨24, 133, ⟨[.v, .v], [.v], []⟩⟩,
  ⟨25, 149, ⟨[.v, .v], [.v], []⟩⟩,
  ⟨27, 129, ⟨[.v, .v], [.v], []⟩⟩,
  ⟨28, 41, ⟨[.v], [.v], []⟩⟩,
  ⟨39, 33, ⟨[.v], [.v], []⟩⟩,
  ⟨40, 32, ⟨[.v], [.v], []⟩⟩,
  ⟨53, 36, ⟨[.v], [.v, .v], []⟩⟩,
  ⟨54, 34, ⟨[.v], [.v, .v], []⟩⟩,
  ⟨63, 148, ⟨[.v], [.v, .v, .v], []⟩⟩,
  ⟨64, 144, ⟨[.v], [.v], []⟩⟩,
  ⟨65, 139, ⟨[.v], [.v], []⟩⟩,
  ⟨66, 140, ⟨[.v, .v], [.v], []⟩⟩,
  ⟨67, 23, ⟨[.v], [.v], []⟩⟩,
  ⟨76, 147, ⟨[.v, .v], [.v], []⟩⟩,
  ⟨77, 146, ⟨[.v], [.v], []⟩⟩,
  ⟨82, 141, ⟨[.v], [(.o .v), .v], []⟩⟩,
  ⟨83, 199, ⟨[.v, .v, .v], [.v, .v], []⟩⟩,
  ⟨107, 31, ⟨[.v], [.v, .v], []⟩⟩,
  ⟨108, 30, ⟨[.v], [.v, .v], []⟩⟩,
  ⟨215, 5, ⟨[.v], [.v], []⟩⟩,
  ⟨220, 12, ⟨[.v], [.v], []⟩⟩,
  ⟨230, 29, ⟨[.v], [.v], []⟩⟩,
  ⟨231, 35, ⟨[.v], [.v], []⟩⟩,
  ⟨232, 37, ⟨[.v], [.v], []⟩⟩,
  ⟨233, 42, ⟨[.v], [.v, .v], []⟩⟩,
  ⟨234, 43, ⟨[.v], [(.o .v)], []⟩⟩,
  ⟨235, 44, ⟨[.v, .v], [.v], []⟩⟩,
  ⟨236, 45, ⟨[.v], [.v, .v], []⟩⟩,
  ⟨237, 46, ⟨[.v], [.v, .v], []⟩⟩,
  ⟨288, 136, ⟨[.v], [(.b .v)], []⟩⟩,
  ⟨289, 142, ⟨[(.b .v), .v], [.v], [0]⟩⟩,
  ⟨291, 145, ⟨[(.b .v)], [.v], [0]⟩⟩,
  ⟨292, 150, ⟨[.v, .v, .v], [(.o .v)], []⟩⟩,
  ⟨293, 151, ⟨[.v], [.v], []⟩⟩,
  ⟨294, 152, ⟨[.v], [.v], []⟩⟩,
  ⟨295, 153, ⟨[.v, .v], [.v], []⟩⟩,
  ⟨296, 154, ⟨[.v], [.v], []⟩⟩,
  ⟨297, 155, ⟨[.v], [.v, .v], []⟩⟩,
  ⟨298, 156, ⟨[.v], [.v], []⟩⟩,
  ⟨299, 157, ⟨[.v], [(.o .v), .v], []⟩⟩,
  ⟨300, 158, ⟨[.y], [.v], []⟩⟩,
  ⟨301, 159, ⟨[.v], [(.o .v), .v], []⟩⟩,
  ⟨302, 160, ⟨[.y], [(.o .v)], []⟩⟩,
  ⟨303, 161, ⟨[.v], [.v], []⟩⟩,
  ⟨304, 162, ⟨[.v], [.v, .v], []⟩⟩,
  ⟨307, 173, ⟨[(.b .v), .v], [.v], [0]⟩⟩,
  ⟨315, 195, ⟨[(.b .v), .v], [.v], [0]⟩⟩,
  ⟨316, 196, ⟨[(.b .v)], [.v], [0]⟩⟩,
  ⟨319, 200, ⟨[.v], [(.o .v)], []⟩⟩,
  ⟨320, 201, ⟨[.v], [.v, .v], []⟩⟩,
  ⟨321, 202, ⟨[.y], [.v], []⟩⟩,
  ⟨322, 203, ⟨[.y, .v], [(.o .v)], []⟩⟩,
  ⟨323, 204, ⟨[.y], [(.o .v)], []⟩⟩,
  ⟨327, 210, ⟨[(.b .v), .v], [.v], [0]⟩⟩]
theorem tabOk : tabOK Try.prog tab = true := by kernel_rfl
theorem mixed : Try.prog.follows .mixedOrders = true := Try.checked.mixed
abbrev K := KS Try.prog tab
theorem t9 : trF (cfOf Try.prog tab 18 []) (sgOf tab) [(0, .v), (1, .v), (4, .v), (12, .v)] [(3, []), (11, []), (4, []), (4, [])] Try.f47 ⟨[.v, .v], [.v], []⟩ = some ir_spec_CountWords := by kernel_rfl
instance : Has K 9 ir_spec_CountWords := ⟨fun _ _ hb => KS.of_body tabOk mixed (r := ⟨9, 47, ⟨[.v, .v], [.v], []⟩⟩) rfl t9 Try.func47 hb⟩
theorem t10 : trF (cfOf Try.prog tab 18 []) (sgOf tab) [(0, .v), (1, .v), (4, .v), (12, .v)] [(3, []), (11, []), (4, []), (4, [])] Try.f40 ⟨[.v, .v], [.v], []⟩ = some ir_impl_CountWords := by kernel_rfl
instance : Has K 10 ir_impl_CountWords := ⟨fun _ _ hb => KS.of_body tabOk mixed (r := ⟨10, 40, ⟨[.v, .v], [.v], []⟩⟩) rfl t10 Try.func40 hb⟩
theorem t11 : trF (cfOf Try.prog tab 60 []) (sgOf tab) [(0, .v), (1, .v), (4, .v), (5, .v), (6, .v), (7, .v), (8, .v), (16, .v), (23, .v), (42, .v), (52, .v)] [(3, []), (131, []), (4, []), (11, []), (27, []), (283, []), (59, []), (123, []), (635, []), (91, []), (1115, []), (27, []), (27, []), (4, [])] Try.f10 ⟨[.v, .v], [.v], []⟩ = some ir_spec_CountWithin := by kernel_rfl
instance : Has K 11 ir_spec_CountWithin := ⟨fun _ _ hb => KS.of_body tabOk mixed (r := ⟨11, 10, ⟨[.v, .v], [.v], []⟩⟩) rfl t11 Try.func10 hb⟩
theorem t12 : trF (cfOf Try.prog tab 61 []) (sgOf tab) [(0, .v), (1, .v), (4, .v), (5, (.o .v)), (6, (.o .v)), (7, .v), (15, .v), (22, .v), (23, .v), (24, .v), (30, .v), (42, .v)] [(3, []), (67, []), (4, []), (11, [0, 0, 1, 0]), (11, []), (394, []), (906, []), (410, [0, 0, 1, 0]), (442, []), (1466, []), (442, []), (2490, []), (442, []), (442, []), (394, []), (394, []), (4, [])] Try.f11 ⟨[.v, .v], [.v], []⟩ = some ir_impl_CountWithin := by kernel_rfl
instance : Has K 12 ir_impl_CountWithin := ⟨fun _ _ hb => KS.of_body tabOk mixed (r := ⟨12, 11, ⟨[.v, .v], [.v], []⟩⟩) rfl t12 Try.func11 hb⟩
theorem t18 : trF (cfOf Try.prog tab 25 []) (sgOf tab) [(0, .v), (1, .v), (4, .v), (13, .v), (15, .v)] [(3, []), (11, []), (4, []), (19, []), (4, []), (4, [])] Try.f49 ⟨[.v, .v], [.v], []⟩ = some ir_spec_BallotByReflection := by kernel_rfl
instance : Has K 18 ir_spec_BallotByReflection := ⟨fun _ _ hb => KS.of_body tabOk mixed (r := ⟨18, 49, ⟨[.v, .v], [.v], []⟩⟩) rfl t18 Try.func49 hb⟩
theorem t19 : trF (cfOf Try.prog tab 17 []) (sgOf tab) [(0, .v), (1, .v), (4, .v), (13, .v)] [(3, []), (11, []), (4, []), (4, [])] Try.f48 ⟨[.v, .v], [.v], []⟩ = some ir_impl_BallotByReflection := by kernel_rfl
instance : Has K 19 ir_impl_BallotByReflection := ⟨fun _ _ hb => KS.of_body tabOk mixed (r := ⟨19, 48, ⟨[.v, .v], [.v], []⟩⟩) rfl t19 Try.func48 hb⟩
theorem t20 : trF (cfOf Try.prog tab 13 []) (sgOf tab) [(0, .v), (2, .v), (5, .v), (7, .v)] [(1, []), (5, []), (2, []), (9, []), (2, []), (2, [])] Try.f39 ⟨[.v], [.v], []⟩ = some ir_spec_CountBad := by kernel_rfl
instance : Has K 20 ir_spec_CountBad := ⟨fun _ _ hb => KS.of_body tabOk mixed (r := ⟨20, 39, ⟨[.v], [.v], []⟩⟩) rfl t20 Try.func39 hb⟩
theorem t21 : trF (cfOf Try.prog tab 12 []) (sgOf tab) [(0, .v), (2, .v), (5, .v)] [(1, []), (5, []), (2, []), (2, [])] Try.f38 ⟨[.v], [.v], []⟩ = some ir_impl_CountBad := by kernel_rfl
instance : Has K 21 ir_impl_CountBad := ⟨fun _ _ hb => KS.of_body tabOk mixed (r := ⟨21, 38, ⟨[.v], [.v], []⟩⟩) rfl t21 Try.func38 hb⟩
theorem t22 : trF (cfOf Try.prog tab 15 []) (sgOf tab) [(0, .v), (1, .v), (2, .v), (6, .v)] [(7, []), (8, [])] Try.f132 ⟨[.v, .v, .v], [.v], []⟩ = some ir_spec_l1In := by kernel_rfl
instance : Has K 22 ir_spec_l1In := ⟨fun _ _ hb => KS.of_body tabOk mixed (r := ⟨22, 132, ⟨[.v, .v, .v], [.v], []⟩⟩) rfl t22 Try.func132 hb⟩
theorem t23 : trF (cfOf Try.prog tab 15 []) (sgOf tab) [(0, .v), (1, .v), (2, .v), (6, .v)] [(7, []), (8, [])] Try.f134 ⟨[.v, .v, .v], [.v], []⟩ = some ir_impl_within := by kernel_rfl
instance : Has K 23 ir_impl_within := ⟨fun _ _ hb => KS.of_body tabOk mixed (r := ⟨23, 134, ⟨[.v, .v, .v], [.v], []⟩⟩) rfl t23 Try.func134 hb⟩
theorem t24 : trF (cfOf Try.prog tab 21 []) (sgOf tab) [(0, .v), (1, .v), (4, .v), (5, .v), (6, .v), (9, .v)] [(3, []), (11, []), (27, []), (59, []), (27, []), (27, []), (4, [])] Try.f133 ⟨[.v, .v], [.v], []⟩ = some ir_spec_l3Binomial := by kernel_rfl
instance : Has K 24 ir_spec_l3Binomial := ⟨fun _ _ hb => KS.of_body tabOk mixed (r := ⟨24, 133, ⟨[.v, .v], [.v], []⟩⟩) rfl t24 Try.func133 hb⟩
theorem t25 : trF (cfOf Try.prog tab 29 []) (sgOf tab) [(0, .v), (1, .v), (4, .v), (5, .v), (6, .v), (13, .v), (16, .v)] [(3, []), (35, []), (4, []), (11, []), (27, []), (91, []), (27, []), (27, []), (4, [])] Try.f149 ⟨[.v, .v], [.v], []⟩ = some ir_impl_choose := by kernel_rfl
instance : Has K 25 ir_impl_choose := ⟨fun _ _ hb => KS.of_body tabOk mixed (r := ⟨25, 149, ⟨[.v, .v], [.v], []⟩⟩) rfl t25 Try.func149 hb⟩
theorem t27 : trF (cfOf Try.prog tab 73 []) (sgOf tab) [(0, .v), (1, .v), (4, .v), (5, (.o .v)), (6, .v), (7, .v), (8, (.o .v)), (9, .v), (18, .v), (23, .v), (24, .v), (25, .v), (33, .v), (42, .v), (54, .v)] [(3, []), (259, []), (4, []), (11, [0, 0, 1, 0]), (1547, []), (3595, []), (1563, []), (1547, []), (1547, []), (43, []), (4139, []), (107, [0, 0, 1, 0]), (235, []), (8427, []), (235, []), (16619, []), (235, []), (235, []), (43, []), (43, []), (4, [])] Try.f129 ⟨[.v, .v], [.v], []⟩ = some ir_impl_BallotNumber := by kernel_rfl
instance : Has K 27 ir_impl_BallotNumber := ⟨fun _ _ hb => KS.of_body tabOk mixed (r := ⟨27, 129, ⟨[.v, .v], [.v], []⟩⟩) rfl t27 Try.func129 hb⟩
theorem t28 : trF (cfOf Try.prog tab 9 []) (sgOf tab) [(0, .v), (2, .v), (5, .v)] [(1, []), (5, []), (2, []), (2, [])] Try.f41 ⟨[.v], [.v], []⟩ = some ir_impl_CatalanNumber := by kernel_rfl
instance : Has K 28 ir_impl_CatalanNumber := ⟨fun _ _ hb => KS.of_body tabOk mixed (r := ⟨28, 41, ⟨[.v], [.v], []⟩⟩) rfl t28 Try.func41 hb⟩
theorem t39 : trF (cfOf Try.prog tab 23 []) (sgOf tab) [(0, .v), (2, .v), (3, .v), (4, .v), (5, .v)] [(1, []), (29, []), (2, [])] Try.f33 ⟨[.v], [.v], []⟩ = some ir_spec_IsBad := by kernel_rfl
instance : Has K 39 ir_spec_IsBad := ⟨fun _ _ hb => KS.of_body tabOk mixed (r := ⟨39, 33, ⟨[.v], [.v], []⟩⟩) rfl t39 Try.func33 hb⟩
theorem t40 : trF (cfOf Try.prog tab 22 []) (sgOf tab) [(0, .v), (2, .v)] [(1, []), (2, [])] Try.f32 ⟨[.v], [.v], []⟩ = some ir_impl_IsBad := by kernel_rfl
instance : Has K 40 ir_impl_IsBad := ⟨fun _ _ hb => KS.of_body tabOk mixed (r := ⟨40, 32, ⟨[.v], [.v], []⟩⟩) rfl t40 Try.func32 hb⟩
theorem t53 : trF (cfOf Try.prog tab 23 []) (sgOf tab) [(0, .v), (2, .v), (3, .v), (4, .v), (5, .v), (6, .v), (20, .v)] [(1, []), (57, []), (65, []), (6, []), (6, [])] Try.f36 ⟨[.v], [.v, .v], []⟩ = some ir_spec_UnreflectWord := by kernel_rfl
instance : Has K 53 ir_spec_UnreflectWord := ⟨fun _ _ hb => KS.of_body tabOk mixed (r := ⟨53, 36, ⟨[.v], [.v, .v], []⟩⟩) rfl t53 Try.func36 hb⟩
theorem t54 : trF (cfOf Try.prog tab 22 []) (sgOf tab) [(0, .v), (2, .v), (3, .v), (19, .v)] [(1, []), (9, []), (6, []), (6, [])] Try.f34 ⟨[.v], [.v, .v], []⟩ = some ir_impl_UnreflectWord := by kernel_rfl
instance : Has K 54 ir_impl_UnreflectWord := ⟨fun _ _ hb => KS.of_body tabOk mixed (r := ⟨54, 34, ⟨[.v], [.v, .v], []⟩⟩) rfl t54 Try.func34 hb⟩
theorem t63 : trF (cfOf Try.prog tab 30 []) (sgOf tab) [(0, .v), (2, .v), (3, .v), (4, .v), (5, .v), (6, .v), (7, .v), (11, .v), (16, .v), (17, .v), (21, .v)] [(1, []), (17, []), (49, []), (113, []), (241, []), (369, []), (881, []), (113, []), (1137, []), (113, []), (14, []), (113, []), (14, [])] Try.f148 ⟨[.v], [.v, .v, .v], []⟩ = some ir_spec_l29Word := by kernel_rfl
instance : Has K 63 ir_spec_l29Word := ⟨fun _ _ hb => KS.of_body tabOk mixed (r := ⟨63, 148, ⟨[.v], [.v, .v, .v], []⟩⟩) rfl t63 Try.func148 hb⟩
theorem t64 : trF (cfOf Try.prog tab 31 []) (sgOf tab) [(0, .v), (2, .v), (3, .v), (4, .v), (8, .v), (13, .v), (14, .v), (18, .v), (23, .v)] [(1, []), (5, []), (13, []), (29, []), (45, []), (109, []), (13, []), (141, []), (13, []), (2, []), (269, []), (2, []), (13, []), (2, [])] Try.f144 ⟨[.v], [.v], []⟩ = some ir_spec_IsDyck := by kernel_rfl
instance : Has K 64 ir_spec_IsDyck := ⟨fun _ _ hb => KS.of_body tabOk mixed (r := ⟨64, 144, ⟨[.v], [.v], []⟩⟩) rfl t64 Try.func144 hb⟩
theorem t65 : trF (cfOf Try.prog tab 11 []) (sgOf tab) [(0, .v), (2, .v)] [(1, []), (2, [])] Try.f139 ⟨[.v], [.v], []⟩ = some ir_impl_areSteps := by kernel_rfl
instance : Has K 65 ir_impl_areSteps := ⟨fun _ _ hb => KS.of_body tabOk mixed (r := ⟨65, 139, ⟨[.v], [.v], []⟩⟩) rfl t65 Try.func139 hb⟩
theorem t66 : trF (cfOf Try.prog tab 21 []) (sgOf tab) [(0, .v), (1, .v), (4, .v), (5, .v), (6, .v), (10, .v), (17, .v)] [(3, []), (11, []), (27, []), (59, []), (91, []), (27, []), (27, []), (4, [])] Try.f140 ⟨[.v, .v], [.v], []⟩ = some ir_impl_count := by kernel_rfl
instance : Has K 66 ir_impl_count := ⟨fun _ _ hb => KS.of_body tabOk mixed (r := ⟨66, 140, ⟨[.v, .v], [.v], []⟩⟩) rfl t66 Try.func140 hb⟩
theorem t67 : trF (cfOf Try.prog tab 14 []) (sgOf tab) [(0, .v), (2, .v), (4, .v), (7, .v)] [(1, []), (9, []), (2, []), (4, []), (2, [])] Try.f23 ⟨[.v], [.v], []⟩ = some ir_impl_IsDyck := by kernel_rfl
instance : Has K 67 ir_impl_IsDyck := ⟨fun _ _ hb => KS.of_body tabOk mixed (r := ⟨67, 23, ⟨[.v], [.v], []⟩⟩) rfl t67 Try.func23 hb⟩
theorem t76 : trF (cfOf Try.prog tab 43 []) (sgOf tab) [(0, .v), (1, .v), (4, .v), (5, .v), (6, .v), (7, .v), (8, .v), (12, .v), (15, .v), (19, .v), (34, .v)] [(3, []), (11, []), (27, []), (59, []), (123, []), (251, []), (379, []), (635, []), (123, []), (123, []), (91, []), (1115, []), (91, []), (91, []), (123, []), (123, []), (4, [])] Try.f147 ⟨[.v, .v], [.v], []⟩ = some ir_spec_l29Flip := by kernel_rfl
instance : Has K 76 ir_spec_l29Flip := ⟨fun _ _ hb => KS.of_body tabOk mixed (r := ⟨76, 147, ⟨[.v, .v], [.v], []⟩⟩) rfl t76 Try.func147 hb⟩
theorem t77 : trF (cfOf Try.prog tab 38 []) (sgOf tab) [(0, .v), (2, .v), (3, .v), (4, .v), (5, .v), (10, .v), (16, .v), (22, .v)] [(1, []), (5, []), (13, []), (45, []), (77, []), (13, []), (13, []), (141, []), (25, []), (2, []), (13, []), (2, [])] Try.f146 ⟨[.v], [.v], []⟩ = some ir_impl_reflected := by kernel_rfl
instance : Has K 77 ir_impl_reflected := ⟨fun _ _ hb => KS.of_body tabOk mixed (r := ⟨77, 146, ⟨[.v], [.v], []⟩⟩) rfl t77 Try.func146 hb⟩
theorem t82 : trF (cfOf Try.prog tab 34 []) (sgOf tab) [(0, .v), (2, (.o .v)), (3, .v), (4, (.o .v)), (5, .v), (6, .v), (11, .v), (16, .v), (17, .v), (21, .v), (26, .v)] [(1, [1, 0]), (9, [1, 0]), (25, []), (57, []), (121, []), (185, []), (441, []), (57, []), (569, []), (57, []), (6, [1, 0]), (1081, []), (6, [1, 0]), (57, []), (57, []), (6, [])] Try.f141 ⟨[.v], [(.o .v), .v], []⟩ = some ir_impl_heights := by kernel_rfl
instance : Has K 82 ir_impl_heights := ⟨fun _ _ hb => KS.of_body tabOk mixed (r := ⟨82, 141, ⟨[.v], [(.o .v), .v], []⟩⟩) rfl t82 Try.func141 hb⟩
theorem t83 : trF (cfOf Try.prog tab 40 []) (sgOf tab) [(0, .v), (1, .v), (2, .v), (6, .v), (7, .v), (8, (.o .v)), (9, .v), (14, .v), (19, .v), (20, .v), (29, .v)] [(7, []), (39, [1, 0]), (103, []), (231, []), (359, []), (871, []), (103, []), (1127, []), (103, []), (24, []), (103, []), (24, [])] Try.f199 ⟨[.v, .v, .v], [.v, .v], []⟩ = some ir_impl_exchanged := by kernel_rfl
instance : Has K 83 ir_impl_exchanged := ⟨fun _ _ hb => KS.of_body tabOk mixed (r := ⟨83, 199, ⟨[.v, .v, .v], [.v, .v], []⟩⟩) rfl t83 Try.func199 hb⟩
theorem t107 : trF (cfOf Try.prog tab 9 []) (sgOf tab) [(0, .v), (2, .v), (3, .v), (6, .v)] [(1, []), (9, []), (6, []), (6, [])] Try.f31 ⟨[.v], [.v, .v], []⟩ = some ir_spec_ReflectBad := by kernel_rfl
instance : Has K 107 ir_spec_ReflectBad := ⟨fun _ _ hb => KS.of_body tabOk mixed (r := ⟨107, 31, ⟨[.v], [.v, .v], []⟩⟩) rfl t107 Try.func31 hb⟩
theorem t108 : trF (cfOf Try.prog tab 9 []) (sgOf tab) [(0, .v), (2, .v), (3, .v), (6, .v)] [(1, []), (9, []), (6, []), (6, [])] Try.f30 ⟨[.v], [.v, .v], []⟩ = some ir_impl_ReflectBad := by kernel_rfl
instance : Has K 108 ir_impl_ReflectBad := ⟨fun _ _ hb => KS.of_body tabOk mixed (r := ⟨108, 30, ⟨[.v], [.v, .v], []⟩⟩) rfl t108 Try.func30 hb⟩
theorem t215 : trF (cfOf Try.prog tab 204 []) (sgOf tab) [(0, .v), (2, .v), (3, .v), (4, .v), (5, .v), (6, .v), (7, .v), (8, .v), (9, .v), (10, .v), (11, .v), (12, .v), (13, .v), (14, .v), (15, .v), (16, .v), (17, .v), (18, .v), (19, .v), (20, .v), (21, .v), (22, .v), (23, .v), (24, .v), (25, .v), (26, .v), (27, .v), (29, .v), (61, .v), (62, .v), (74, .v), (94, .v), (95, .v), (112, .v), (138, .v), (151, .v), (157, .v), (163, .v), (172, .v), (177, .v)] [(1, []), (134217729, []), (2, []), (5, []), (29, []), (125, []), (268435509, []), (2, []), (536870949, []), (389, []), (1073741825, []), (2, []), (513, []), (3585, []), (15873, []), (2147490305, []), (2, []), (4294971905, []), (53761, []), (8589934593, []), (2, []), (65537, []), (17179869185, []), (2, []), (393217, []), (917505, []), (34360655873, []), (2, []), (68720394241, []), (1835009, []), (3932161, []), (8126465, []), (137447079937, []), (274886033409, []), (8126465, []), (8126465, []), (549755813889, []), (2, []), (25165825, []), (125829120, []), (2, [])] Try.f5 ⟨[.v], [.v], []⟩ = some ir_laws_FnReflections := by kernel_rfl
instance : Has K 215 ir_laws_FnReflections := ⟨fun _ _ hb => KS.of_body tabOk mixed (r := ⟨215, 5, ⟨[.v], [.v], []⟩⟩) rfl t215 Try.func5 hb⟩
theorem t220 : trF (cfOf Try.prog tab 6 []) (sgOf tab) [(0, .v), (2, .v)] [(1, []), (2, [])] Try.f12 ⟨[.v], [.v], []⟩ = some ir_laws_big := by kernel_rfl
instance : Has K 220 ir_laws_big := ⟨fun _ _ hb => KS.of_body tabOk mixed (r := ⟨220, 12, ⟨[.v], [.v], []⟩⟩) rfl t220 Try.func12 hb⟩
theorem t230 : trF (cfOf Try.prog tab 6 []) (sgOf tab) [(0, .v), (2, .v)] [(1, []), (2, [])] Try.f29 ⟨[.v], [.v], []⟩ = some ir_spec_DrawReflectBad := by kernel_rfl
instance : Has K 230 ir_spec_DrawReflectBad := ⟨fun _ _ hb => KS.of_body tabOk mixed (r := ⟨230, 29, ⟨[.v], [.v], []⟩⟩) rfl t230 Try.func29 hb⟩
theorem t231 : trF (cfOf Try.prog tab 19 []) (sgOf tab) [(0, .v), (2, .v), (3, (.b .v)), (4, .v), (5, .v), (6, .v), (16, .v)] [(1, []), (4, []), (8, []), (56, []), (88, []), (2, []), (2, [])] Try.f35 ⟨[.v], [.v], []⟩ = some ir_spec_DrawUnreflectWord := by kernel_rfl
instance : Has K 231 ir_spec_DrawUnreflectWord := ⟨fun _ _ hb => KS.of_body tabOk mixed (r := ⟨231, 35, ⟨[.v], [.v], []⟩⟩) rfl t231 Try.func35 hb⟩
theorem t232 : trF (cfOf Try.prog tab 7 []) (sgOf tab) [(0, .v), (2, .v)] [(1, []), (2, [])] Try.f37 ⟨[.v], [.v], []⟩ = some ir_spec_DrawCountBad := by kernel_rfl
instance : Has K 232 ir_spec_DrawCountBad := ⟨fun _ _ hb => KS.of_body tabOk mixed (r := ⟨232, 37, ⟨[.v], [.v], []⟩⟩) rfl t232 Try.func37 hb⟩
theorem t233 : trF (cfOf Try.prog tab 14 []) (sgOf tab) [(0, .v), (2, .v), (3, .v), (4, (.b .v)), (5, .v)] [(1, []), (8, []), (24, []), (6, [])] Try.f42 ⟨[.v], [.v, .v], []⟩ = some ir_spec_DrawCountWithin := by kernel_rfl
instance : Has K 233 ir_spec_DrawCountWithin := ⟨fun _ _ hb => KS.of_body tabOk mixed (r := ⟨233, 42, ⟨[.v], [.v, .v], []⟩⟩) rfl t233 Try.func42 hb⟩
theorem t234 : trF (cfOf Try.prog tab 10 []) (sgOf tab) [(0, .v), (2, (.o .v)), (5, .v)] [(1, [1]), (5, []), (2, [1, 0]), (2, [])] Try.f43 ⟨[.v], [(.o .v)], []⟩ = some ir_spec_PathsOf := by kernel_rfl
instance : Has K 234 ir_spec_PathsOf := ⟨fun _ _ hb => KS.of_body tabOk mixed (r := ⟨234, 43, ⟨[.v], [(.o .v)], []⟩⟩) rfl t234 Try.func43 hb⟩
theorem t235 : trF (cfOf Try.prog tab 67 []) (sgOf tab) [(0, .v), (1, .v), (4, .v), (5, .v), (7, .v), (9, .v), (13, .v), (14, .v), (15, .v), (19, .v), (23, .v), (27, .v), (31, .v), (35, .v), (44, .v), (53, .v), (63, .v)] [(3, []), (67, []), (4, []), (130, []), (386, []), (4, []), (642, []), (4, []), (1154, []), (4, []), (2178, []), (4, []), (4226, []), (4, []), (8322, []), (8, []), (4, []), (16514, []), (16, []), (4, []), (32898, []), (32, []), (4, []), (65538, []), (4, []), (4, [])] Try.f44 ⟨[.v, .v], [.v], []⟩ = some ir_spec_StatisticOf := by kernel_rfl
instance : Has K 235 ir_spec_StatisticOf := ⟨fun _ _ hb => KS.of_body tabOk mixed (r := ⟨235, 44, ⟨[.v, .v], [.v], []⟩⟩) rfl t235 Try.func44 hb⟩
theorem t236 : trF (cfOf Try.prog tab 13 []) (sgOf tab) [(0, .v), (2, .v), (3, .v), (4, .v), (5, .v)] [(1, []), (24, []), (6, [])] Try.f45 ⟨[.v], [.v, .v], []⟩ = some ir_spec_DrawCountWords := by kernel_rfl
instance : Has K 236 ir_spec_DrawCountWords := ⟨fun _ _ hb => KS.of_body tabOk mixed (r := ⟨236, 45, ⟨[.v], [.v, .v], []⟩⟩) rfl t236 Try.func45 hb⟩
theorem t237 : trF (cfOf Try.prog tab 13 []) (sgOf tab) [(0, .v), (2, .v), (3, .v), (4, .v), (5, .v)] [(1, []), (24, []), (6, [])] Try.f46 ⟨[.v], [.v, .v], []⟩ = some ir_spec_DrawBallotByReflection := by kernel_rfl
instance : Has K 237 ir_spec_DrawBallotByReflection := ⟨fun _ _ hb => KS.of_body tabOk mixed (r := ⟨237, 46, ⟨[.v], [.v, .v], []⟩⟩) rfl t237 Try.func46 hb⟩
theorem t288 : trF (cfOf Try.prog tab 32 []) (sgOf tab) [(0, .v), (2, (.b .v)), (3, .v), (4, .v), (15, .v)] [(1, []), (5, []), (13, []), (29, []), (13, []), (13, []), (2, [0, 0, 0, 1, 0])] Try.f136 ⟨[.v], [(.b .v)], []⟩ = some ir_spec_l1New := by kernel_rfl
instance : Has K 288 ir_spec_l1New := ⟨fun _ _ hb => KS.of_body tabOk mixed (r := ⟨288, 136, ⟨[.v], [(.b .v)], []⟩⟩) rfl t288 Try.func136 hb⟩
theorem t289 : trF (cfOf Try.prog tab 37 [0]) (sgOf tab) [(0, (.b .v)), (1, .v), (4, .v), (5, .v), (6, .v), (7, .v), (8, .v), (10, .v), (12, .v)] [(3, []), (131, []), (5, []), (259, []), (5, []), (11, []), (27, []), (59, []), (123, []), (5, [])] Try.f142 ⟨[(.b .v), .v], [.v], [0]⟩ = some ir_spec_l1Below := by kernel_rfl
instance : Has K 289 ir_spec_l1Below := ⟨fun _ _ hb => KS.of_body tabOk mixed (r := ⟨289, 142, ⟨[(.b .v), .v], [.v], [0]⟩⟩) rfl t289 Try.func142 hb⟩
theorem t291 : trF (cfOf Try.prog tab 46 [0]) (sgOf tab) [(0, (.b .v)), (2, .v), (3, .v), (4, .v), (5, .v), (6, .v), (11, .v), (41, .v)] [(1, []), (5, []), (13, []), (29, []), (93, []), (61, []), (29, []), (61, []), (29, []), (29, []), (133, []), (3, []), (3, [])] Try.f145 ⟨[(.b .v)], [.v], [0]⟩ = some ir_spec_l29Any := by kernel_rfl
instance : Has K 291 ir_spec_l29Any := ⟨fun _ _ hb => KS.of_body tabOk mixed (r := ⟨291, 145, ⟨[(.b .v)], [.v], [0]⟩⟩) rfl t291 Try.func145 hb⟩
theorem t292 : trF (cfOf Try.prog tab 35 []) (sgOf tab) [(0, .v), (1, .v), (2, .v), (6, (.o .v)), (7, (.o .v)), (9, .v), (14, .v), (25, .v)] [(7, [1]), (39, []), (8, [0, 1, 0]), (23, [1, 0]), (87, []), (23, []), (151, []), (16, []), (8, [])] Try.f150 ⟨[.v, .v, .v], [(.o .v)], []⟩ = some ir_spec_l3All := by kernel_rfl
instance : Has K 292 ir_spec_l3All := ⟨fun _ _ hb => KS.of_body tabOk mixed (r := ⟨292, 150, ⟨[.v, .v, .v], [(.o .v)], []⟩⟩) rfl t292 Try.func150 hb⟩
theorem t293 : trF (cfOf Try.prog tab 24 []) (sgOf tab) [(0, .v), (2, .v), (3, .v), (4, .v), (7, .v), (11, .v), (20, .v)] [(1, []), (17, []), (2, []), (5, []), (13, []), (45, []), (77, []), (13, []), (13, []), (2, [])] Try.f151 ⟨[.v], [.v], []⟩ = some ir_spec_PeaksOf := by kernel_rfl
instance : Has K 293 ir_spec_PeaksOf := ⟨fun _ _ hb => KS.of_body tabOk mixed (r := ⟨293, 151, ⟨[.v], [.v], []⟩⟩) rfl t293 Try.func151 hb⟩
theorem t294 : trF (cfOf Try.prog tab 22 []) (sgOf tab) [(0, .v), (2, .v), (3, .v), (4, .v), (5, .v), (11, .v), (18, .v)] [(1, []), (4, []), (12, []), (28, []), (60, []), (92, []), (28, []), (28, []), (2, [])] Try.f152 ⟨[.v], [.v], []⟩ = some ir_spec_ReturnsOf := by kernel_rfl
instance : Has K 294 ir_spec_ReturnsOf := ⟨fun _ _ hb => KS.of_body tabOk mixed (r := ⟨294, 152, ⟨[.v], [.v], []⟩⟩) rfl t294 Try.func152 hb⟩
theorem t295 : trF (cfOf Try.prog tab 36 []) (sgOf tab) [(0, .v), (1, .v), (4, .v), (5, .v), (32, .v)] [(3, []), (11, []), (27, []), (11, []), (4, [])] Try.f153 ⟨[.v, .v], [.v], []⟩ = some ir_spec_l13Run := by kernel_rfl
instance : Has K 295 ir_spec_l13Run := ⟨fun _ _ hb => KS.of_body tabOk mixed (r := ⟨295, 153, ⟨[.v, .v], [.v], []⟩⟩) rfl t295 Try.func153 hb⟩
theorem t296 : trF (cfOf Try.prog tab 33 []) (sgOf tab) [(0, .v), (2, .v), (3, .v), (4, .v), (5, .v), (16, .v), (22, .v), (31, .v)] [(1, []), (5, []), (13, []), (29, []), (61, []), (93, []), (29, []), (29, []), (136, []), (2, []), (2, [])] Try.f154 ⟨[.v], [.v], []⟩ = some ir_spec_AreaOf := by kernel_rfl
instance : Has K 296 ir_spec_AreaOf := ⟨fun _ _ hb => KS.of_body tabOk mixed (r := ⟨296, 154, ⟨[.v], [.v], []⟩⟩) rfl t296 Try.func154 hb⟩
theorem t297 : trF (cfOf Try.prog tab 27 []) (sgOf tab) [(0, .v), (2, .v), (3, .v), (4, .v), (5, .v), (13, .v), (19, .v)] [(1, []), (9, []), (25, []), (57, []), (89, []), (25, []), (25, []), (25, []), (6, [])] Try.f155 ⟨[.v], [.v, .v], []⟩ = some ir_spec_BracketsOf := by kernel_rfl
instance : Has K 297 ir_spec_BracketsOf := ⟨fun _ _ hb => KS.of_body tabOk mixed (r := ⟨297, 155, ⟨[.v], [.v, .v], []⟩⟩) rfl t297 Try.func155 hb⟩
theorem t298 : trF (cfOf Try.prog tab 30 []) (sgOf tab) [(0, .v), (2, .v), (3, .v), (4, .v), (5, .v), (6, .v), (7, .v), (14, .v), (20, .v)] [(1, []), (12, []), (132, []), (2, []), (16, []), (48, []), (112, []), (368, []), (112, []), (112, []), (2, [])] Try.f156 ⟨[.v], [.v], []⟩ = some ir_spec_DepthOf := by kernel_rfl
instance : Has K 298 ir_spec_DepthOf := ⟨fun _ _ hb => KS.of_body tabOk mixed (r := ⟨298, 156, ⟨[.v], [.v], []⟩⟩) rfl t298 Try.func156 hb⟩
theorem t299 : trF (cfOf Try.prog tab 38 []) (sgOf tab) [(0, .v), (2, (.o .v)), (3, .v), (4, (.o .v)), (5, .v), (6, .v), (15, .v), (21, .v), (35, .v)] [(1, [1, 0]), (9, [1, 0]), (25, []), (57, []), (121, []), (185, []), (41, []), (57, []), (57, []), (57, []), (264, []), (6, [1, 0, 0]), (6, [])] Try.f157 ⟨[.v], [(.o .v), .v], []⟩ = some ir_spec_PlaneOf := by kernel_rfl
instance : Has K 299 ir_spec_PlaneOf := ⟨fun _ _ hb => KS.of_body tabOk mixed (r := ⟨299, 157, ⟨[.v], [(.o .v), .v], []⟩⟩) rfl t299 Try.func157 hb⟩
theorem t300 : trF (cfOf Try.prog tab 23 []) (sgOf tab) [(0, .y), (2, .v), (3, .v), (4, .v), (12, .v), (19, .v)] [(1, []), (5, []), (13, []), (29, []), (45, []), (13, []), (13, []), (2, [])] Try.f158 ⟨[.y], [.v], []⟩ = some ir_spec_LeavesOf := by kernel_rfl
instance : Has K 300 ir_spec_LeavesOf := ⟨fun _ _ hb => KS.of_body tabOk mixed (r := ⟨300, 158, ⟨[.y], [.v], []⟩⟩) rfl t300 Try.func158 hb⟩
theorem t301 : trF (cfOf Try.prog tab 64 []) (sgOf tab) [(0, .v), (2, (.o .v)), (3, .v), (4, (.o .v)), (5, (.o .v)), (6, .v), (7, .v), (8, .v), (11, .v), (21, .v), (27, .v), (59, .v)] [(1, [1, 0]), (257, []), (6, [1, 0, 0]), (9, [0, 0, 0, 1, 0]), (25, [1, 0]), (57, []), (121, []), (249, []), (761, []), (1273, []), (249, []), (249, []), (249, []), (249, []), (2297, []), (249, []), (249, []), (6, [])] Try.f159 ⟨[.v], [(.o .v), .v], []⟩ = some ir_spec_PartitionOf := by kernel_rfl
instance : Has K 301 ir_spec_PartitionOf := ⟨fun _ _ hb => KS.of_body tabOk mixed (r := ⟨301, 159, ⟨[.v], [(.o .v), .v], []⟩⟩) rfl t301 Try.func159 hb⟩
theorem t303 : trF (cfOf Try.prog tab 29 []) (sgOf tab) [(0, .v), (2, .v), (3, .v), (4, .v), (7, .v), (11, .v), (24, .v)] [(1, []), (17, []), (2, []), (5, []), (13, []), (45, []), (77, []), (13, []), (13, []), (2, [])] Try.f161 ⟨[.v], [.v], []⟩ = some ir_spec_MajorOf := by kernel_rfl
instance : Has K 303 ir_spec_MajorOf := ⟨fun _ _ hb => KS.of_body tabOk mixed (r := ⟨303, 161, ⟨[.v], [.v], []⟩⟩) rfl t303 Try.func161 hb⟩
theorem t304 : trF (cfOf Try.prog tab 14 []) (sgOf tab) [(0, .v), (2, .v), (3, .v), (4, (.b .v)), (5, .v)] [(1, []), (8, []), (24, []), (6, [])] Try.f162 ⟨[.v], [.v, .v], []⟩ = some ir_spec_l29Numbers := by kernel_rfl
instance : Has K 304 ir_spec_l29Numbers := ⟨fun _ _ hb => KS.of_body tabOk mixed (r := ⟨304, 162, ⟨[.v], [.v, .v], []⟩⟩) rfl t304 Try.func162 hb⟩
theorem t307 : trF (cfOf Try.prog tab 9 [0]) (sgOf tab) [(0, (.b .v)), (1, .v), (4, .v)] [(3, []), (5, [])] Try.f173 ⟨[(.b .v), .v], [.v], [0]⟩ = some ir_spec_l1Once := by kernel_rfl
instance : Has K 307 ir_spec_l1Once := ⟨fun _ _ hb => KS.of_body tabOk mixed (r := ⟨307, 173, ⟨[(.b .v), .v], [.v], [0]⟩⟩) rfl t307 Try.func173 hb⟩
theorem t315 : trF (cfOf Try.prog tab 67 [0]) (sgOf tab) [(0, (.b .v)), (1, .v), (4, .v), (5, .v), (8, .v), (16, .v), (17, .v), (27, .v), (42, .v)] [(3, []), (19, []), (5, []), (11, []), (43, []), (107, []), (5, []), (171, []), (5, []), (267, []), (5, []), (5, [])] Try.f195 ⟨[(.b .v), .v], [.v], [0]⟩ = some ir_spec_l1Spoil := by kernel_rfl
instance : Has K 315 ir_spec_l1Spoil := ⟨fun _ _ hb => KS.of_body tabOk mixed (r := ⟨315, 195, ⟨[(.b .v), .v], [.v], [0]⟩⟩) rfl t315 Try.func195 hb⟩
theorem t316 : trF (cfOf Try.prog tab 58 [0]) (sgOf tab) [(0, (.b .v)), (2, .v), (3, .v), (34, .v)] [(1, []), (1, []), (5, []), (13, []), (5, []), (5, []), (3, [])] Try.f196 ⟨[(.b .v)], [.v], [0]⟩ = some ir_spec_l1Byte := by kernel_rfl
instance : Has K 316 ir_spec_l1Byte := ⟨fun _ _ hb => KS.of_body tabOk mixed (r := ⟨316, 196, ⟨[(.b .v)], [.v], [0]⟩⟩) rfl t316 Try.func196 hb⟩
theorem t319 : trF (cfOf Try.prog tab 33 []) (sgOf tab) [(0, .v), (2, (.o .v)), (3, (.o .v)), (4, .v), (5, .v), (9, .v), (14, .v), (24, .v)] [(1, [1]), (5, [1, 0]), (37, []), (2, []), (13, []), (29, []), (93, []), (29, []), (157, []), (29, []), (29, []), (29, []), (2, [])] Try.f200 ⟨[.v], [(.o .v)], []⟩ = some ir_spec_HeightsOf := by kernel_rfl
instance : Has K 319 ir_spec_HeightsOf := ⟨fun _ _ hb => KS.of_body tabOk mixed (r := ⟨319, 200, ⟨[.v], [(.o .v)], []⟩⟩) rfl t319 Try.func200 hb⟩
theorem t320 : trF (cfOf Try.prog tab 37 []) (sgOf tab) [(0, .v), (2, .v), (3, .v), (4, .v), (5, .v), (14, .v), (19, .v), (20, .v), (24, .v), (35, .v)] [(1, []), (9, []), (25, []), (57, []), (89, []), (217, []), (25, []), (281, []), (25, []), (6, []), (25, []), (520, []), (6, []), (6, [])] Try.f201 ⟨[.v], [.v, .v], []⟩ = some ir_spec_PathOfBrackets := by kernel_rfl
instance : Has K 320 ir_spec_PathOfBrackets := ⟨fun _ _ hb => KS.of_body tabOk mixed (r := ⟨320, 201, ⟨[.v], [.v, .v], []⟩⟩) rfl t320 Try.func201 hb⟩
theorem t321 : trF (cfOf Try.prog tab 62 []) (sgOf tab) [(0, .y), (2, .v), (3, .v), (4, .v), (5, .v), (9, .v), (33, .v), (43, .v), (58, .v)] [(1, []), (5, []), (37, []), (69, []), (2, []), (13, []), (29, []), (157, []), (29, []), (29, []), (261, []), (2, []), (5, []), (2, [])] Try.f202 ⟨[.y], [.v], []⟩ = some ir_spec_IsPlane := by kernel_rfl
instance : Has K 321 ir_spec_IsPlane := ⟨fun _ _ hb => KS.of_body tabOk mixed (r := ⟨321, 202, ⟨[.y], [.v], []⟩⟩) rfl t321 Try.func202 hb⟩
theorem t322 : trF (cfOf Try.prog tab 33 []) (sgOf tab) [(0, .y), (1, .v), (4, (.o .v)), (5, (.o .v)), (6, .v), (19, .v), (27, .v)] [(3, [1]), (11, [1, 0]), (27, []), (59, []), (91, []), (27, []), (27, []), (4, [])] Try.f203 ⟨[.y, .v], [(.o .v)], []⟩ = some ir_spec_ChildrenOf := by kernel_rfl
instance : Has K 322 ir_spec_ChildrenOf := ⟨fun _ _ hb => KS.of_body tabOk mixed (r := ⟨322, 203, ⟨[.y, .v], [(.o .v)], []⟩⟩) rfl t322 Try.func203 hb⟩
theorem t323 : trF (cfOf Try.prog tab 48 []) (sgOf tab) [(0, .y), (2, (.o .v)), (3, (.o .v)), (4, (.o .v)), (5, .v), (6, .v), (7, .v), (13, .v), (19, .v), (30, .v), (33, .v)] [(1, [1]), (5, [1, 0]), (13, [1, 0]), (29, []), (157, []), (61, []), (125, []), (381, []), (637, []), (125, []), (125, []), (1085, []), (61, []), (61, []), (29, []), (29, []), (2, [])] Try.f204 ⟨[.y], [(.o .v)], []⟩ = some ir_spec_l8Renumber := by kernel_rfl
instance : Has K 323 ir_spec_l8Renumber := ⟨fun _ _ hb => KS.of_body tabOk mixed (r := ⟨323, 204, ⟨[.y], [(.o .v)], []⟩⟩) rfl t323 Try.func204 hb⟩
theorem t327 : trF (cfOf Try.prog tab 38 [0]) (sgOf tab) [(0, (.b .v)), (1, .v), (4, .v), (5, (.o .v)), (6, .v), (7, .v), (8, .v), (17, .v), (23, .v), (27, .v)] [(3, []), (11, [1, 0]), (27, []), (57, []), (185, []), (121, []), (377, []), (121, []), (633, []), (121, []), (57, []), (57, []), (5, [])] Try.f210 ⟨[(.b .v), .v], [.v], [0]⟩ = some ir_spec_l1Text := by kernel_rfl
instance : Has K 327 ir_spec_l1Text := ⟨fun _ _ hb => KS.of_body tabOk mixed (r := ⟨327, 210, ⟨[(.b .v), .v], [.v], [0]⟩⟩) rfl t327 Try.func210 hb⟩
end Go.Proofs.Ytfjkbocblpjpjaa.fnReflections

