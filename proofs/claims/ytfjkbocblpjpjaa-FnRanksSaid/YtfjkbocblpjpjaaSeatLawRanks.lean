/-
  Texts of the little language.
-/
import Derived.Test.YtfjkbocblpjpjaaIrAllA
import Derived.Test.YtfjkbocblpjpjaaRows
import Derived.Test.YtfjkbocblpjpjaaCatThree
namespace Go.Proofs.Ytfjkbocblpjpjaa.fnRanks
open Go Go.Cat Go.Proofs
set_option maxRecDepth 100000
def tab : List Row := [⟨19, 48, ⟨[.v, .v], [.v], [], none⟩⟩,
  ⟨22, 132, ⟨[.v, .v, .v], [.v], [], none⟩⟩,
  ⟨23, 134, ⟨[.v, .v, .v], [.v], [], none⟩⟩,
  ⟨24, 133, ⟨[.v, .v], [.v], [], none⟩⟩,
  ⟨25, 149, ⟨[.v, .v], [.v], [], none⟩⟩,
  ⟨27, 129, ⟨[.v, .v], [.v], [], none⟩⟩,
  ⟨28, 41, ⟨[.v], [.v], [], none⟩⟩,
  ⟨64, 144, ⟨[.v], [.v], [], none⟩⟩,
  ⟨67, 23, ⟨[.v], [.v], [], none⟩⟩,
  ⟨79, 87, ⟨[.v], [.v], [], none⟩⟩,
  ⟨82, 141, ⟨[.v], [(.o .v), .v], [], none⟩⟩,
  ⟨84, 187, ⟨[.v, .v], [.v], [], none⟩⟩,
  ⟨132, 174, ⟨[.v], [.v], [], none⟩⟩,
  ⟨219, 9, ⟨[.v], [.v], [], none⟩⟩,
  ⟨220, 12, ⟨[.v], [.v], [], none⟩⟩,
  ⟨234, 43, ⟨[.v], [(.o .v)], [], none⟩⟩,
  ⟨255, 99, ⟨[.y, .y], [.v], [], none⟩⟩,
  ⟨270, 114, ⟨[.v], [.v, .v], [], none⟩⟩,
  ⟨271, 115, ⟨[.v, .v], [.v, .v], [], none⟩⟩,
  ⟨272, 116, ⟨[.v, .v], [.v, .v], [], none⟩⟩,
  ⟨273, 117, ⟨[.v], [.v], [], none⟩⟩,
  ⟨274, 118, ⟨[.v], [.v], [], none⟩⟩,
  ⟨275, 119, ⟨[.v], [.v], [], none⟩⟩,
  ⟨276, 120, ⟨[.v], [.v], [], none⟩⟩,
  ⟨277, 121, ⟨[.v], [.v, .v], [], none⟩⟩,
  ⟨278, 122, ⟨[.v], [.v], [], none⟩⟩,
  ⟨279, 123, ⟨[.v], [(.o .v)], [], none⟩⟩,
  ⟨280, 124, ⟨[.v], [.v], [], none⟩⟩,
  ⟨281, 125, ⟨[.v, .v], [.v], [], none⟩⟩,
  ⟨282, 126, ⟨[.v], [.v, .v], [], none⟩⟩,
  ⟨283, 127, ⟨[.v], [.v, .v], [], none⟩⟩,
  ⟨284, 128, ⟨[.v], [.v], [], none⟩⟩,
  ⟨285, 130, ⟨[.v, .v], [.v], [], none⟩⟩,
  ⟨286, 131, ⟨[.v, .v], [.v], [], none⟩⟩,
  ⟨288, 136, ⟨[.v], [(.b .v)], [], none⟩⟩,
  ⟨289, 142, ⟨[(.b .v), .v], [.v], [0], none⟩⟩,
  ⟨290, 143, ⟨[(.b .v)], [.v], [0], none⟩⟩,
  ⟨292, 150, ⟨[.v, .v, .v], [(.o .v)], [], none⟩⟩,
  ⟨306, 172, ⟨[(.b .v), .v], [.v], [0], none⟩⟩,
  ⟨307, 173, ⟨[(.b .v), .v], [.v], [0], none⟩⟩,
  ⟨313, 193, ⟨[(.b .v), .y], [.v], [0], none⟩⟩,
  ⟨314, 194, ⟨[.v], [(.o .v)], [], none⟩⟩,
  ⟨315, 195, ⟨[(.b .v), .v], [.v], [0], none⟩⟩,
  ⟨316, 196, ⟨[(.b .v)], [.v], [0], none⟩⟩,
  ⟨317, 197, ⟨[(.b .v)], [.v], [0], none⟩⟩,
  ⟨318, 198, ⟨[(.b .v), .y], [.v], [0], none⟩⟩,
  ⟨326, 209, ⟨[.v, .v, .v, (.b (.o .v)), .v], [], [3], (some (4, 326, [3, 4]))⟩⟩,
  ⟨327, 210, ⟨[(.b .v), .v], [.v], [0], none⟩⟩]
theorem tabOk : tabOK Try.prog tab = true := by kernel_rfl
theorem mixed : Try.prog.follows .mixedOrders = true := Try.checked.mixed
abbrev K := KS Try.prog tab
theorem t19 : trF (cfOf Try.prog tab 17 [] none) (sgOf tab) [(0, .v), (1, .v), (4, .v), (13, .v)] [(3, []), (11, []), (4, []), (4, [])] Try.f48 ⟨[.v, .v], [.v], [], none⟩ = some ir_impl_BallotByReflection := by kernel_rfl
instance : Has K 19 ir_impl_BallotByReflection := ⟨fun _ _ hb => KS.of_body tabOk mixed (r := ⟨19, 48, ⟨[.v, .v], [.v], [], none⟩⟩) rfl t19 Try.func48 hb⟩
theorem t22 : trF (cfOf Try.prog tab 15 [] none) (sgOf tab) [(0, .v), (1, .v), (2, .v), (6, .v)] [(7, []), (8, [])] Try.f132 ⟨[.v, .v, .v], [.v], [], none⟩ = some ir_spec_l1In := by kernel_rfl
instance : Has K 22 ir_spec_l1In := ⟨fun _ _ hb => KS.of_body tabOk mixed (r := ⟨22, 132, ⟨[.v, .v, .v], [.v], [], none⟩⟩) rfl t22 Try.func132 hb⟩
theorem t23 : trF (cfOf Try.prog tab 15 [] none) (sgOf tab) [(0, .v), (1, .v), (2, .v), (6, .v)] [(7, []), (8, [])] Try.f134 ⟨[.v, .v, .v], [.v], [], none⟩ = some ir_impl_within := by kernel_rfl
instance : Has K 23 ir_impl_within := ⟨fun _ _ hb => KS.of_body tabOk mixed (r := ⟨23, 134, ⟨[.v, .v, .v], [.v], [], none⟩⟩) rfl t23 Try.func134 hb⟩
theorem t24 : trF (cfOf Try.prog tab 21 [] none) (sgOf tab) [(0, .v), (1, .v), (4, .v), (5, .v), (6, .v), (9, .v)] [(3, []), (11, []), (27, []), (59, []), (27, []), (27, []), (4, [])] Try.f133 ⟨[.v, .v], [.v], [], none⟩ = some ir_spec_l3Binomial := by kernel_rfl
instance : Has K 24 ir_spec_l3Binomial := ⟨fun _ _ hb => KS.of_body tabOk mixed (r := ⟨24, 133, ⟨[.v, .v], [.v], [], none⟩⟩) rfl t24 Try.func133 hb⟩
theorem t25 : trF (cfOf Try.prog tab 29 [] none) (sgOf tab) [(0, .v), (1, .v), (4, .v), (5, .v), (6, .v), (13, .v), (16, .v)] [(3, []), (35, []), (4, []), (11, []), (27, []), (91, []), (27, []), (27, []), (4, [])] Try.f149 ⟨[.v, .v], [.v], [], none⟩ = some ir_impl_choose := by kernel_rfl
instance : Has K 25 ir_impl_choose := ⟨fun _ _ hb => KS.of_body tabOk mixed (r := ⟨25, 149, ⟨[.v, .v], [.v], [], none⟩⟩) rfl t25 Try.func149 hb⟩
theorem t27 : trF (cfOf Try.prog tab 73 [] none) (sgOf tab) [(0, .v), (1, .v), (4, .v), (5, (.o .v)), (6, .v), (7, .v), (8, (.o .v)), (9, .v), (18, .v), (23, .v), (24, .v), (25, .v), (33, .v), (42, .v), (54, .v)] [(3, []), (259, []), (4, []), (11, [0, 0, 1, 0]), (1547, []), (3595, []), (1563, []), (1547, []), (1547, []), (43, []), (4139, []), (107, [0, 0, 1, 0]), (235, []), (8427, []), (235, []), (16619, []), (235, []), (235, []), (43, []), (43, []), (4, [])] Try.f129 ⟨[.v, .v], [.v], [], none⟩ = some ir_impl_BallotNumber := by kernel_rfl
instance : Has K 27 ir_impl_BallotNumber := ⟨fun _ _ hb => KS.of_body tabOk mixed (r := ⟨27, 129, ⟨[.v, .v], [.v], [], none⟩⟩) rfl t27 Try.func129 hb⟩
theorem t28 : trF (cfOf Try.prog tab 9 [] none) (sgOf tab) [(0, .v), (2, .v), (5, .v)] [(1, []), (5, []), (2, []), (2, [])] Try.f41 ⟨[.v], [.v], [], none⟩ = some ir_impl_CatalanNumber := by kernel_rfl
instance : Has K 28 ir_impl_CatalanNumber := ⟨fun _ _ hb => KS.of_body tabOk mixed (r := ⟨28, 41, ⟨[.v], [.v], [], none⟩⟩) rfl t28 Try.func41 hb⟩
theorem t64 : trF (cfOf Try.prog tab 31 [] none) (sgOf tab) [(0, .v), (2, .v), (3, .v), (4, .v), (8, .v), (13, .v), (14, .v), (18, .v), (23, .v)] [(1, []), (5, []), (13, []), (29, []), (45, []), (109, []), (13, []), (141, []), (13, []), (2, []), (269, []), (2, []), (13, []), (2, [])] Try.f144 ⟨[.v], [.v], [], none⟩ = some ir_spec_IsDyck := by kernel_rfl
instance : Has K 64 ir_spec_IsDyck := ⟨fun _ _ hb => KS.of_body tabOk mixed (r := ⟨64, 144, ⟨[.v], [.v], [], none⟩⟩) rfl t64 Try.func144 hb⟩
theorem t67 : trF (cfOf Try.prog tab 14 [] none) (sgOf tab) [(0, .v), (2, .v), (4, .v), (7, .v)] [(1, []), (9, []), (2, []), (4, []), (2, [])] Try.f23 ⟨[.v], [.v], [], none⟩ = some ir_impl_IsDyck := by kernel_rfl
instance : Has K 67 ir_impl_IsDyck := ⟨fun _ _ hb => KS.of_body tabOk mixed (r := ⟨67, 23, ⟨[.v], [.v], [], none⟩⟩) rfl t67 Try.func23 hb⟩
theorem t79 : trF (cfOf Try.prog tab 9 [] none) (sgOf tab) [(0, .v), (2, .v), (5, .v)] [(1, []), (5, []), (2, []), (2, [])] Try.f87 ⟨[.v], [.v], [], none⟩ = some ir_spec_CatalanNumber := by kernel_rfl
instance : Has K 79 ir_spec_CatalanNumber := ⟨fun _ _ hb => KS.of_body tabOk mixed (r := ⟨79, 87, ⟨[.v], [.v], [], none⟩⟩) rfl t79 Try.func87 hb⟩
theorem t82 : trF (cfOf Try.prog tab 34 [] none) (sgOf tab) [(0, .v), (2, (.o .v)), (3, .v), (4, (.o .v)), (5, .v), (6, .v), (11, .v), (16, .v), (17, .v), (21, .v), (26, .v)] [(1, [1, 0]), (9, [1, 0]), (25, []), (57, []), (121, []), (185, []), (441, []), (57, []), (569, []), (57, []), (6, [1, 0]), (1081, []), (6, [1, 0]), (57, []), (57, []), (6, [])] Try.f141 ⟨[.v], [(.o .v), .v], [], none⟩ = some ir_impl_heights := by kernel_rfl
instance : Has K 82 ir_impl_heights := ⟨fun _ _ hb => KS.of_body tabOk mixed (r := ⟨82, 141, ⟨[.v], [(.o .v), .v], [], none⟩⟩) rfl t82 Try.func141 hb⟩
theorem t84 : trF (cfOf Try.prog tab 83 [] none) (sgOf tab) [(0, .v), (1, .v), (4, .v), (5, (.o (.o .v))), (6, .v), (7, .v), (11, .v), (23, .v), (49, .v), (58, .v)] [(3, []), (11, [2, 0]), (27, []), (91, []), (27, [0, 0, 0, 1, 2, 0, 0]), (59, []), (187, []), (315, []), (59, [0, 0, 0, 1, 0, 0, 0]), (571, []), (59, [0, 0, 0, 1, 0, 0, 0, 0, 0, 0, 0, 0, 0, 0, 0]), (59, [0, 0, 0, 1, 0, 0, 0, 0, 0, 0, 0, 0, 0, 0, 0, 0, 0, 0, 0, 0, 0, 0, 0, 0]), (59, []), (27, []), (4, [])] Try.f187 ⟨[.v, .v], [.v], [], none⟩ = some ir_spec_l3Ways := by kernel_rfl
instance : Has K 84 ir_spec_l3Ways := ⟨fun _ _ hb => KS.of_body tabOk mixed (r := ⟨84, 187, ⟨[.v, .v], [.v], [], none⟩⟩) rfl t84 Try.func187 hb⟩
theorem t132 : trF (cfOf Try.prog tab 9 [] none) (sgOf tab) [(0, .v), (2, .v), (5, .v)] [(1, []), (5, []), (2, []), (2, [])] Try.f174 ⟨[.v], [.v], [], none⟩ = some ir_impl_SizeOf := by kernel_rfl
instance : Has K 132 ir_impl_SizeOf := ⟨fun _ _ hb => KS.of_body tabOk mixed (r := ⟨132, 174, ⟨[.v], [.v], [], none⟩⟩) rfl t132 Try.func174 hb⟩
theorem t219 : trF (cfOf Try.prog tab 227 [] none) (sgOf tab) [(0, .v), (2, .v), (3, .v), (4, .v), (5, .v), (6, .v), (7, .v), (8, .v), (9, .v), (10, .v), (11, .v), (12, .v), (13, .v), (14, .v), (15, .v), (16, .v), (17, (.o .v)), (18, .v), (19, .v), (20, .v), (21, .v), (22, .v), (23, .v), (24, .v), (25, .v), (27, .v), (67, .v), (75, .v), (77, .v), (116, .v), (125, .v), (130, .v), (139, .v), (162, .v), (172, .v), (212, .v)] [(1, []), (33554433, []), (2, []), (13, []), (61, []), (253, []), (67108865, []), (2, []), (257, []), (769, []), (134218497, []), (2, []), (268436225, []), (3841, []), (16129, []), (536870913, []), (2, []), (16385, []), (49153, []), (1073790977, []), (2, []), (114689, [1, 0]), (245761, []), (2147729409, []), (4295213057, []), (2, []), (245761, []), (245761, []), (376833, []), (8590311425, []), (17180246017, []), (2, []), (376833, []), (1572865, []), (7864321, []), (16252928, []), (33030144, []), (34374418432, []), (2, []), (2, [])] Try.f9 ⟨[.v], [.v], [], none⟩ = some ir_laws_FnRanks := by kernel_rfl
instance : Has K 219 ir_laws_FnRanks := ⟨fun _ _ hb => KS.of_body tabOk mixed (r := ⟨219, 9, ⟨[.v], [.v], [], none⟩⟩) rfl t219 Try.func9 hb⟩
theorem t220 : trF (cfOf Try.prog tab 6 [] none) (sgOf tab) [(0, .v), (2, .v)] [(1, []), (2, [])] Try.f12 ⟨[.v], [.v], [], none⟩ = some ir_laws_big := by kernel_rfl
instance : Has K 220 ir_laws_big := ⟨fun _ _ hb => KS.of_body tabOk mixed (r := ⟨220, 12, ⟨[.v], [.v], [], none⟩⟩) rfl t220 Try.func12 hb⟩
theorem t234 : trF (cfOf Try.prog tab 10 [] none) (sgOf tab) [(0, .v), (2, (.o .v)), (5, .v)] [(1, [1]), (5, []), (2, [1, 0]), (2, [])] Try.f43 ⟨[.v], [(.o .v)], [], none⟩ = some ir_spec_PathsOf := by kernel_rfl
instance : Has K 234 ir_spec_PathsOf := ⟨fun _ _ hb => KS.of_body tabOk mixed (r := ⟨234, 43, ⟨[.v], [(.o .v)], [], none⟩⟩) rfl t234 Try.func43 hb⟩
theorem t255 : trF (cfOf Try.prog tab 26 [] none) (sgOf tab) [(0, .y), (1, .y), (4, .v), (5, .v), (10, .v), (14, .v), (25, .v)] [(3, []), (19, []), (4, []), (11, []), (43, []), (75, []), (4, []), (11, []), (4, [])] Try.f99 ⟨[.y, .y], [.v], [], none⟩ = some ir_laws_sameWords := by kernel_rfl
instance : Has K 255 ir_laws_sameWords := ⟨fun _ _ hb => KS.of_body tabOk mixed (r := ⟨255, 99, ⟨[.y, .y], [.v], [], none⟩⟩) rfl t255 Try.func99 hb⟩
theorem t270 : trF (cfOf Try.prog tab 17 [] none) (sgOf tab) [(0, .v), (2, .v), (3, .v), (4, (.b .v)), (5, .v)] [(1, []), (8, []), (24, []), (6, [])] Try.f114 ⟨[.v], [.v, .v], [], none⟩ = some ir_spec_DrawUnrankPath := by kernel_rfl
instance : Has K 270 ir_spec_DrawUnrankPath := ⟨fun _ _ hb => KS.of_body tabOk mixed (r := ⟨270, 114, ⟨[.v], [.v, .v], [], none⟩⟩) rfl t270 Try.func114 hb⟩
theorem t271 : trF (cfOf Try.prog tab 52 [] none) (sgOf tab) [(0, .v), (1, .v), (4, .v), (5, .v), (6, (.o .v)), (7, .v), (8, .v), (9, .v), (20, .v), (27, .v), (29, .v), (36, .v)] [(3, []), (259, []), (12, []), (19, [1, 0]), (114, []), (626, []), (242, []), (1266, []), (242, []), (2290, []), (114, []), (114, []), (242, []), (242, []), (114, []), (12, [])] Try.f115 ⟨[.v, .v], [.v, .v], [], none⟩ = some ir_impl_UnrankPath := by kernel_rfl
instance : Has K 271 ir_impl_UnrankPath := ⟨fun _ _ hb => KS.of_body tabOk mixed (r := ⟨271, 115, ⟨[.v, .v], [.v, .v], [], none⟩⟩) rfl t271 Try.func115 hb⟩
theorem t272 : trF (cfOf Try.prog tab 48 [] none) (sgOf tab) [(0, .v), (1, .v), (4, .v), (5, .v), (6, .v), (7, .v), (8, .v), (9, .v), (22, .v), (26, .v), (28, .v), (35, .v)] [(3, []), (259, []), (12, []), (19, []), (51, []), (114, []), (626, []), (242, []), (1266, []), (242, []), (2290, []), (114, []), (114, []), (114, []), (114, []), (114, []), (12, [])] Try.f116 ⟨[.v, .v], [.v, .v], [], none⟩ = some ir_spec_UnrankPath := by kernel_rfl
instance : Has K 272 ir_spec_UnrankPath := ⟨fun _ _ hb => KS.of_body tabOk mixed (r := ⟨272, 116, ⟨[.v, .v], [.v, .v], [], none⟩⟩) rfl t272 Try.func116 hb⟩
theorem t273 : trF (cfOf Try.prog tab 39 [] none) (sgOf tab) [(0, .v), (2, .v), (3, .v), (4, .v), (5, .v), (6, .v), (9, .v), (19, .v), (25, .v), (29, .v)] [(1, []), (65, []), (2, []), (5, []), (29, []), (61, []), (189, []), (317, []), (61, []), (573, []), (61, []), (61, []), (61, []), (2, [])] Try.f117 ⟨[.v], [.v], [], none⟩ = some ir_impl_RankPath := by kernel_rfl
instance : Has K 273 ir_impl_RankPath := ⟨fun _ _ hb => KS.of_body tabOk mixed (r := ⟨273, 117, ⟨[.v], [.v], [], none⟩⟩) rfl t273 Try.func117 hb⟩
theorem t274 : trF (cfOf Try.prog tab 9 [] none) (sgOf tab) [(0, .v), (2, .v), (5, .v)] [(1, []), (5, []), (2, []), (2, [])] Try.f118 ⟨[.v], [.v], [], none⟩ = some ir_spec_SizeOf := by kernel_rfl
instance : Has K 274 ir_spec_SizeOf := ⟨fun _ _ hb => KS.of_body tabOk mixed (r := ⟨274, 118, ⟨[.v], [.v], [], none⟩⟩) rfl t274 Try.func118 hb⟩
theorem t275 : trF (cfOf Try.prog tab 6 [] none) (sgOf tab) [(0, .v), (2, .v)] [(1, []), (2, [])] Try.f119 ⟨[.v], [.v], [], none⟩ = some ir_spec_DrawRankPath := by kernel_rfl
instance : Has K 275 ir_spec_DrawRankPath := ⟨fun _ _ hb => KS.of_body tabOk mixed (r := ⟨275, 119, ⟨[.v], [.v], [], none⟩⟩) rfl t275 Try.func119 hb⟩
theorem t276 : trF (cfOf Try.prog tab 37 [] none) (sgOf tab) [(0, .v), (2, .v), (3, .v), (4, .v), (5, .v), (6, .v), (9, .v), (17, .v), (23, .v), (27, .v)] [(1, []), (65, []), (2, []), (5, []), (13, []), (29, []), (61, []), (189, []), (317, []), (61, []), (573, []), (61, []), (61, []), (61, []), (2, [])] Try.f120 ⟨[.v], [.v], [], none⟩ = some ir_spec_RankPath := by kernel_rfl
instance : Has K 276 ir_spec_RankPath := ⟨fun _ _ hb => KS.of_body tabOk mixed (r := ⟨276, 120, ⟨[.v], [.v], [], none⟩⟩) rfl t276 Try.func120 hb⟩
theorem t277 : trF (cfOf Try.prog tab 15 [] none) (sgOf tab) [(0, .v), (2, .v), (3, .v), (6, .v)] [(1, []), (9, []), (6, []), (6, [])] Try.f121 ⟨[.v], [.v, .v], [], none⟩ = some ir_impl_NextPath := by kernel_rfl
instance : Has K 277 ir_impl_NextPath := ⟨fun _ _ hb => KS.of_body tabOk mixed (r := ⟨277, 121, ⟨[.v], [.v, .v], [], none⟩⟩) rfl t277 Try.func121 hb⟩
theorem t278 : trF (cfOf Try.prog tab 7 [] none) (sgOf tab) [(0, .v), (2, .v)] [(1, []), (2, [])] Try.f122 ⟨[.v], [.v], [], none⟩ = some ir_spec_DrawPathsOf := by kernel_rfl
instance : Has K 278 ir_spec_DrawPathsOf := ⟨fun _ _ hb => KS.of_body tabOk mixed (r := ⟨278, 122, ⟨[.v], [.v], [], none⟩⟩) rfl t278 Try.func122 hb⟩
theorem t279 : trF (cfOf Try.prog tab 9 [] none) (sgOf tab) [(0, .v), (2, (.o .v)), (5, .v)] [(1, [1]), (5, []), (2, [1, 0]), (2, [])] Try.f123 ⟨[.v], [(.o .v)], [], none⟩ = some ir_impl_PathsOf := by kernel_rfl
instance : Has K 279 ir_impl_PathsOf := ⟨fun _ _ hb => KS.of_body tabOk mixed (r := ⟨279, 123, ⟨[.v], [(.o .v)], [], none⟩⟩) rfl t279 Try.func123 hb⟩
theorem t280 : trF (cfOf Try.prog tab 28 [] none) (sgOf tab) [(0, .v), (2, .v), (3, .v), (4, .v), (7, .v), (11, .v), (24, .v)] [(1, []), (17, []), (2, []), (5, []), (13, []), (45, []), (77, []), (13, []), (13, []), (2, [])] Try.f124 ⟨[.v], [.v], [], none⟩ = some ir_impl_PeaksOf := by kernel_rfl
instance : Has K 280 ir_impl_PeaksOf := ⟨fun _ _ hb => KS.of_body tabOk mixed (r := ⟨280, 124, ⟨[.v], [.v], [], none⟩⟩) rfl t280 Try.func124 hb⟩
theorem t281 : trF (cfOf Try.prog tab 31 [] none) (sgOf tab) [(0, .v), (1, .v), (4, .v), (5, .v), (15, .v), (18, .v)] [(3, []), (11, []), (4, []), (19, []), (4, []), (35, []), (4, []), (4, [])] Try.f125 ⟨[.v, .v], [.v], [], none⟩ = some ir_impl_NarayanaNumber := by kernel_rfl
instance : Has K 281 ir_impl_NarayanaNumber := ⟨fun _ _ hb => KS.of_body tabOk mixed (r := ⟨281, 125, ⟨[.v, .v], [.v], [], none⟩⟩) rfl t281 Try.func125 hb⟩
theorem t282 : trF (cfOf Try.prog tab 17 [] none) (sgOf tab) [(0, .v), (2, .v), (3, .v), (4, (.b .v)), (5, .v)] [(1, []), (8, []), (24, []), (6, [])] Try.f126 ⟨[.v], [.v, .v], [], none⟩ = some ir_spec_DrawBallotNumber := by kernel_rfl
instance : Has K 282 ir_spec_DrawBallotNumber := ⟨fun _ _ hb => KS.of_body tabOk mixed (r := ⟨282, 126, ⟨[.v], [.v, .v], [], none⟩⟩) rfl t282 Try.func126 hb⟩
theorem t283 : trF (cfOf Try.prog tab 15 [] none) (sgOf tab) [(0, .v), (2, .v), (3, .v), (4, (.b .v)), (5, .v)] [(1, []), (8, []), (24, []), (6, [])] Try.f127 ⟨[.v], [.v, .v], [], none⟩ = some ir_spec_DrawNarayanaNumber := by kernel_rfl
instance : Has K 283 ir_spec_DrawNarayanaNumber := ⟨fun _ _ hb => KS.of_body tabOk mixed (r := ⟨283, 127, ⟨[.v], [.v, .v], [], none⟩⟩) rfl t283 Try.func127 hb⟩
theorem t284 : trF (cfOf Try.prog tab 7 [] none) (sgOf tab) [(0, .v), (2, .v)] [(1, []), (2, [])] Try.f128 ⟨[.v], [.v], [], none⟩ = some ir_spec_DrawCatalanNumber := by kernel_rfl
instance : Has K 284 ir_spec_DrawCatalanNumber := ⟨fun _ _ hb => KS.of_body tabOk mixed (r := ⟨284, 128, ⟨[.v], [.v], [], none⟩⟩) rfl t284 Try.func128 hb⟩
theorem t285 : trF (cfOf Try.prog tab 17 [] none) (sgOf tab) [(0, .v), (1, .v), (4, .v), (13, .v)] [(3, []), (11, []), (4, []), (4, [])] Try.f130 ⟨[.v, .v], [.v], [], none⟩ = some ir_spec_BallotNumber := by kernel_rfl
instance : Has K 285 ir_spec_BallotNumber := ⟨fun _ _ hb => KS.of_body tabOk mixed (r := ⟨285, 130, ⟨[.v, .v], [.v], [], none⟩⟩) rfl t285 Try.func130 hb⟩
theorem t286 : trF (cfOf Try.prog tab 28 [] none) (sgOf tab) [(0, .v), (1, .v), (4, .v), (13, .v), (15, .v), (17, .v)] [(3, []), (11, []), (4, []), (19, []), (4, []), (35, []), (4, []), (4, [])] Try.f131 ⟨[.v, .v], [.v], [], none⟩ = some ir_spec_NarayanaNumber := by kernel_rfl
instance : Has K 286 ir_spec_NarayanaNumber := ⟨fun _ _ hb => KS.of_body tabOk mixed (r := ⟨286, 131, ⟨[.v, .v], [.v], [], none⟩⟩) rfl t286 Try.func131 hb⟩
theorem t288 : trF (cfOf Try.prog tab 32 [] none) (sgOf tab) [(0, .v), (2, (.b .v)), (3, .v), (4, .v), (15, .v)] [(1, []), (5, []), (13, []), (29, []), (13, []), (13, []), (2, [0, 0, 0, 1, 0])] Try.f136 ⟨[.v], [(.b .v)], [], none⟩ = some ir_spec_l1New := by kernel_rfl
instance : Has K 288 ir_spec_l1New := ⟨fun _ _ hb => KS.of_body tabOk mixed (r := ⟨288, 136, ⟨[.v], [(.b .v)], [], none⟩⟩) rfl t288 Try.func136 hb⟩
theorem t289 : trF (cfOf Try.prog tab 37 [0] none) (sgOf tab) [(0, (.b .v)), (1, .v), (4, .v), (5, .v), (6, .v), (7, .v), (8, .v), (10, .v), (12, .v)] [(3, []), (131, []), (5, []), (259, []), (5, []), (11, []), (27, []), (59, []), (123, []), (5, [])] Try.f142 ⟨[(.b .v), .v], [.v], [0], none⟩ = some ir_spec_l1Below := by kernel_rfl
instance : Has K 289 ir_spec_l1Below := ⟨fun _ _ hb => KS.of_body tabOk mixed (r := ⟨289, 142, ⟨[(.b .v), .v], [.v], [0], none⟩⟩) rfl t289 Try.func142 hb⟩
theorem t290 : trF (cfOf Try.prog tab 19 [0] none) (sgOf tab) [(0, (.b .v)), (2, .v), (3, .v), (7, .v), (8, .v), (13, .v)] [(1, []), (5, []), (13, []), (29, []), (3, []), (37, []), (3, []), (3, [])] Try.f143 ⟨[(.b .v)], [.v], [0], none⟩ = some ir_spec_l2Any := by kernel_rfl
instance : Has K 290 ir_spec_l2Any := ⟨fun _ _ hb => KS.of_body tabOk mixed (r := ⟨290, 143, ⟨[(.b .v)], [.v], [0], none⟩⟩) rfl t290 Try.func143 hb⟩
theorem t292 : trF (cfOf Try.prog tab 35 [] none) (sgOf tab) [(0, .v), (1, .v), (2, .v), (6, (.o .v)), (7, (.o .v)), (9, .v), (14, .v), (25, .v)] [(7, [1]), (39, []), (8, [0, 1, 0]), (23, [1, 0]), (87, []), (23, []), (151, []), (16, []), (8, [])] Try.f150 ⟨[.v, .v, .v], [(.o .v)], [], none⟩ = some ir_spec_l3All := by kernel_rfl
instance : Has K 292 ir_spec_l3All := ⟨fun _ _ hb => KS.of_body tabOk mixed (r := ⟨292, 150, ⟨[.v, .v, .v], [(.o .v)], [], none⟩⟩) rfl t292 Try.func150 hb⟩
theorem t306 : trF (cfOf Try.prog tab 32 [0] none) (sgOf tab) [(0, (.b .v)), (1, .v), (4, .v), (5, .v), (6, .v), (7, .v), (10, .v), (22, .v)] [(3, []), (11, []), (27, []), (59, []), (123, []), (187, []), (59, []), (59, []), (59, []), (59, []), (5, [])] Try.f172 ⟨[(.b .v), .v], [.v], [0], none⟩ = some ir_spec_l2Draw := by kernel_rfl
instance : Has K 306 ir_spec_l2Draw := ⟨fun _ _ hb => KS.of_body tabOk mixed (r := ⟨306, 172, ⟨[(.b .v), .v], [.v], [0], none⟩⟩) rfl t306 Try.func172 hb⟩
theorem t307 : trF (cfOf Try.prog tab 9 [0] none) (sgOf tab) [(0, (.b .v)), (1, .v), (4, .v)] [(3, []), (5, [])] Try.f173 ⟨[(.b .v), .v], [.v], [0], none⟩ = some ir_spec_l1Once := by kernel_rfl
instance : Has K 307 ir_spec_l1Once := ⟨fun _ _ hb => KS.of_body tabOk mixed (r := ⟨307, 173, ⟨[(.b .v), .v], [.v], [0], none⟩⟩) rfl t307 Try.func173 hb⟩
theorem t313 : trF (cfOf Try.prog tab 12 [0] none) (sgOf tab) [(0, (.b .v)), (1, .y), (4, .v)] [(3, []), (5, [])] Try.f193 ⟨[(.b .v), .y], [.v], [0], none⟩ = some ir_spec_l1PickInt := by kernel_rfl
instance : Has K 313 ir_spec_l1PickInt := ⟨fun _ _ hb => KS.of_body tabOk mixed (r := ⟨313, 193, ⟨[(.b .v), .y], [.v], [0], none⟩⟩) rfl t313 Try.func193 hb⟩
theorem t314 : trF (cfOf Try.prog tab 12 [] none) (sgOf tab) [(0, .v), (2, (.o .v)), (3, (.b (.o .v))), (4, (.b .v))] [(1, [1]), (5, [1, 1, 0]), (13, []), (13, [77777, 0, 0]), (4, [0, 0, 0, 326]), (2, [1, 0])] Try.f194 ⟨[.v], [(.o .v)], [], none⟩ = some ir_impl_allPaths := by kernel_rfl
instance : Has K 314 ir_impl_allPaths := ⟨fun _ _ hb => KS.of_body tabOk mixed (r := ⟨314, 194, ⟨[.v], [(.o .v)], [], none⟩⟩) rfl t314 Try.func194 hb⟩
theorem t315 : trF (cfOf Try.prog tab 67 [0] none) (sgOf tab) [(0, (.b .v)), (1, .v), (4, .v), (5, .v), (8, .v), (16, .v), (17, .v), (27, .v), (42, .v)] [(3, []), (19, []), (5, []), (11, []), (43, []), (107, []), (5, []), (171, []), (5, []), (267, []), (5, []), (5, [])] Try.f195 ⟨[(.b .v), .v], [.v], [0], none⟩ = some ir_spec_l1Spoil := by kernel_rfl
instance : Has K 315 ir_spec_l1Spoil := ⟨fun _ _ hb => KS.of_body tabOk mixed (r := ⟨315, 195, ⟨[(.b .v), .v], [.v], [0], none⟩⟩) rfl t315 Try.func195 hb⟩
theorem t316 : trF (cfOf Try.prog tab 58 [0] none) (sgOf tab) [(0, (.b .v)), (2, .v), (3, .v), (34, .v)] [(1, []), (1, []), (5, []), (13, []), (5, []), (5, []), (3, [])] Try.f196 ⟨[(.b .v)], [.v], [0], none⟩ = some ir_spec_l1Byte := by kernel_rfl
instance : Has K 316 ir_spec_l1Byte := ⟨fun _ _ hb => KS.of_body tabOk mixed (r := ⟨316, 196, ⟨[(.b .v)], [.v], [0], none⟩⟩) rfl t316 Try.func196 hb⟩
theorem t317 : trF (cfOf Try.prog tab 7 [0] none) (sgOf tab) [(0, (.b .v)), (2, .v)] [(1, []), (3, [])] Try.f197 ⟨[(.b .v)], [.v], [0], none⟩ = some ir_spec_l2Path := by kernel_rfl
instance : Has K 317 ir_spec_l2Path := ⟨fun _ _ hb => KS.of_body tabOk mixed (r := ⟨317, 197, ⟨[(.b .v)], [.v], [0], none⟩⟩) rfl t317 Try.func197 hb⟩
theorem t318 : trF (cfOf Try.prog tab 12 [0] none) (sgOf tab) [(0, (.b .v)), (1, .y), (4, .v)] [(3, []), (5, [])] Try.f198 ⟨[(.b .v), .y], [.v], [0], none⟩ = some ir_spec_l1Pick := by kernel_rfl
instance : Has K 318 ir_spec_l1Pick := ⟨fun _ _ hb => KS.of_body tabOk mixed (r := ⟨318, 198, ⟨[(.b .v), .y], [.v], [0], none⟩⟩) rfl t318 Try.func198 hb⟩
theorem t326 : trF (cfOf Try.prog tab 37 [3] (some (4, 326, [3, 4]))) (sgOf tab) [(0, .v), (1, .v), (2, .v), (3, (.b (.o .v))), (4, .v), (13, .v), (19, .v), (29, .v)] [(63, []), (8, [1, 0, 0, 0, 0]), (95, []), (31, [0, 0, 0, 0, 0, 0, 326]), (159, []), (8, [0, 0, 0, 0, 0, 0, 326])] Try.f209 ⟨[.v, .v, .v, (.b (.o .v)), .v], [], [3], (some (4, 326, [3, 4]))⟩ = some ir_impl_allPaths_f1 := by kernel_rfl
instance : Has K 326 ir_impl_allPaths_f1 := ⟨fun _ _ hb => KS.of_body tabOk mixed (r := ⟨326, 209, ⟨[.v, .v, .v, (.b (.o .v)), .v], [], [3], (some (4, 326, [3, 4]))⟩⟩) rfl t326 Try.func209 hb⟩
theorem t327 : trF (cfOf Try.prog tab 38 [0] none) (sgOf tab) [(0, (.b .v)), (1, .v), (4, .v), (5, (.o .v)), (6, .v), (7, .v), (8, .v), (17, .v), (23, .v), (27, .v)] [(3, []), (11, [1, 0]), (27, []), (57, []), (185, []), (121, []), (377, []), (121, []), (633, []), (121, []), (57, []), (57, []), (5, [])] Try.f210 ⟨[(.b .v), .v], [.v], [0], none⟩ = some ir_spec_l1Text := by kernel_rfl
instance : Has K 327 ir_spec_l1Text := ⟨fun _ _ hb => KS.of_body tabOk mixed (r := ⟨327, 210, ⟨[(.b .v), .v], [.v], [0], none⟩⟩) rfl t327 Try.func210 hb⟩
end Go.Proofs.Ytfjkbocblpjpjaa.fnRanks

