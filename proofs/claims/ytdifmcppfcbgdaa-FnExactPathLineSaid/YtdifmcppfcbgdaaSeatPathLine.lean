/-
  Texts of the little language.
-/
import Derived.Test.YtdifmcppfcbgdaaIrAllA
import Derived.Test.YtdifmcppfcbgdaaRows
import Derived.Test.YtdifmcppfcbgdaaCatThree
namespace Go.Proofs.Ytdifmcppfcbgdaa.fnExactPathLine
open Go Go.Cat Go.Proofs
set_option maxRecDepth 100000
def tab : List Row := [⟨22, 131, ⟨[.v, .v, .v], [.v], [], none⟩⟩,
  ⟨23, 121, ⟨[.v, .v, .v], [.v], [], none⟩⟩,
  ⟨27, 163, ⟨[.v, .v], [.v], [], none⟩⟩,
  ⟨64, 80, ⟨[.v], [.v], [], none⟩⟩,
  ⟨67, 85, ⟨[.v], [.v], [], none⟩⟩,
  ⟨82, 190, ⟨[.v], [(.o .v), .v], [], none⟩⟩,
  ⟨83, 203, ⟨[.v, .v, .v], [.v, .v], [], none⟩⟩,
  ⟨84, 182, ⟨[.v, .v], [.v], [], none⟩⟩,
  ⟨132, 88, ⟨[.v], [.v], [], none⟩⟩,
  ⟨138, 81, ⟨[.v], [.v], [], none⟩⟩,
  ⟨141, 86, ⟨[.y], [.v], [], none⟩⟩,
  ⟨143, 87, ⟨[.v], [.v], [], none⟩⟩,
  ⟨184, 144, ⟨[.y, .v], [.v], [], none⟩⟩,
  ⟨235, 84, ⟨[.v, .v], [.v], [], none⟩⟩,
  ⟨273, 89, ⟨[.v], [.v], [], none⟩⟩,
  ⟨276, 82, ⟨[.v], [.v], [], none⟩⟩,
  ⟨280, 191, ⟨[.v], [.v], [], none⟩⟩,
  ⟨293, 183, ⟨[.v], [.v], [], none⟩⟩,
  ⟨294, 184, ⟨[.v], [.v], [], none⟩⟩,
  ⟨295, 185, ⟨[.v, .v], [.v], [], none⟩⟩,
  ⟨296, 186, ⟨[.v], [.v], [], none⟩⟩,
  ⟨297, 92, ⟨[.v], [.v, .v], [], none⟩⟩,
  ⟨298, 187, ⟨[.v], [.v], [], none⟩⟩,
  ⟨299, 93, ⟨[.v], [(.o .v), .v], [], none⟩⟩,
  ⟨300, 188, ⟨[.y], [.v], [], none⟩⟩,
  ⟨301, 99, ⟨[.v], [(.o .v), .v], [], none⟩⟩,
  ⟨302, 166, ⟨[.y], [.v], [], none⟩⟩,
  ⟨303, 189, ⟨[.v], [.v], [], none⟩⟩,
  ⟨319, 228, ⟨[.v], [(.o .v)], [], none⟩⟩,
  ⟨320, 229, ⟨[.v], [.v, .v], [], none⟩⟩,
  ⟨321, 196, ⟨[.y], [.v], [], none⟩⟩,
  ⟨322, 230, ⟨[.y, .v], [(.o .v)], [], none⟩⟩,
  ⟨323, 151, ⟨[.y], [(.o .v)], [], none⟩⟩,
  ⟨324, 160, ⟨[.y], [.v], [], none⟩⟩,
  ⟨373, 115, ⟨[.v], [(.o .v)], [], none⟩⟩,
  ⟨401, 3, ⟨[.v], [.v], [], none⟩⟩,
  ⟨457, 10, ⟨[.v], [.v], [], none⟩⟩,
  ⟨458, 11, ⟨[.v], [.v], [], none⟩⟩,
  ⟨465, 135, ⟨[.v], [.v], [], none⟩⟩,
  ⟨475, 148, ⟨[.y], [(.o .v), .v], [], none⟩⟩,
  ⟨478, 152, ⟨[.y], [.v], [], none⟩⟩,
  ⟨479, 153, ⟨[.y], [.v], [], none⟩⟩,
  ⟨498, 83, ⟨[], [(.o .v)], [], none⟩⟩,
  ⟨499, 90, ⟨[], [(.o .v)], [], none⟩⟩,
  ⟨500, 91, ⟨[.v, .v], [.v], [], none⟩⟩,
  ⟨501, 215, ⟨[.v], [(.o .v)], [], none⟩⟩,
  ⟨503, 112, ⟨[.v], [(.o .v), .v], [], none⟩⟩,
  ⟨507, 192, ⟨[.v], [.v], [], none⟩⟩,
  ⟨508, 104, ⟨[.v], [.v, .v], [], none⟩⟩,
  ⟨509, 193, ⟨[.v], [.v], [], none⟩⟩,
  ⟨510, 105, ⟨[.v], [(.o .v), .v], [], none⟩⟩,
  ⟨511, 194, ⟨[.y], [.v], [], none⟩⟩,
  ⟨512, 195, ⟨[.v], [.v], [], none⟩⟩,
  ⟨515, 231, ⟨[.v], [.v, .v], [], none⟩⟩,
  ⟨516, 204, ⟨[.y], [.v], [], none⟩⟩,
  ⟨517, 232, ⟨[.y, .v], [(.o .v)], [], none⟩⟩]
theorem tabOk : tabOK Try.prog tab = true := by kernel_rfl
theorem mixed : Try.prog.follows .mixedOrders = true := Try.checked.mixed
abbrev K := KS Try.prog tab
theorem t22 : trF (cfOf Try.prog tab 15 [] none) (sgOf tab) [(0, .v), (1, .v), (2, .v), (6, .v)] [(7, []), (8, [])] Try.f131 ⟨[.v, .v, .v], [.v], [], none⟩ = some ir_spec_l1In := by kernel_rfl
instance : Has K 22 ir_spec_l1In := ⟨fun _ _ hb => KS.of_body tabOk mixed (r := ⟨22, 131, ⟨[.v, .v, .v], [.v], [], none⟩⟩) rfl t22 Try.func131 hb⟩
theorem t23 : trF (cfOf Try.prog tab 15 [] none) (sgOf tab) [(0, .v), (1, .v), (2, .v), (6, .v)] [(7, []), (8, [])] Try.f121 ⟨[.v, .v, .v], [.v], [], none⟩ = some ir_impl_within := by kernel_rfl
instance : Has K 23 ir_impl_within := ⟨fun _ _ hb => KS.of_body tabOk mixed (r := ⟨23, 121, ⟨[.v, .v, .v], [.v], [], none⟩⟩) rfl t23 Try.func121 hb⟩
theorem t27 : trF (cfOf Try.prog tab 73 [] none) (sgOf tab) [(0, .v), (1, .v), (4, .v), (5, (.o .v)), (6, .v), (7, .v), (8, (.o .v)), (9, .v), (18, .v), (23, .v), (24, .v), (25, .v), (33, .v), (42, .v), (54, .v)] [(3, []), (259, []), (4, []), (11, [0, 0, 1, 0]), (1547, []), (3595, []), (1563, []), (1547, []), (1547, []), (43, []), (4139, []), (107, [0, 0, 1, 0]), (235, []), (8427, []), (235, []), (16619, []), (235, []), (235, []), (43, []), (43, []), (4, [])] Try.f163 ⟨[.v, .v], [.v], [], none⟩ = some ir_impl_BallotNumber := by kernel_rfl
instance : Has K 27 ir_impl_BallotNumber := ⟨fun _ _ hb => KS.of_body tabOk mixed (r := ⟨27, 163, ⟨[.v, .v], [.v], [], none⟩⟩) rfl t27 Try.func163 hb⟩
theorem t64 : trF (cfOf Try.prog tab 31 [] none) (sgOf tab) [(0, .v), (2, .v), (3, .v), (4, .v), (8, .v), (13, .v), (14, .v), (18, .v), (23, .v)] [(1, []), (5, []), (13, []), (29, []), (45, []), (109, []), (13, []), (141, []), (13, []), (2, []), (269, []), (2, []), (13, []), (2, [])] Try.f80 ⟨[.v], [.v], [], none⟩ = some ir_spec_IsDyck := by kernel_rfl
instance : Has K 64 ir_spec_IsDyck := ⟨fun _ _ hb => KS.of_body tabOk mixed (r := ⟨64, 80, ⟨[.v], [.v], [], none⟩⟩) rfl t64 Try.func80 hb⟩
theorem t67 : trF (cfOf Try.prog tab 14 [] none) (sgOf tab) [(0, .v), (2, .v), (4, .v), (7, .v)] [(1, []), (9, []), (2, []), (4, []), (2, [])] Try.f85 ⟨[.v], [.v], [], none⟩ = some ir_impl_IsDyck := by kernel_rfl
instance : Has K 67 ir_impl_IsDyck := ⟨fun _ _ hb => KS.of_body tabOk mixed (r := ⟨67, 85, ⟨[.v], [.v], [], none⟩⟩) rfl t67 Try.func85 hb⟩
theorem t82 : trF (cfOf Try.prog tab 34 [] none) (sgOf tab) [(0, .v), (2, (.o .v)), (3, .v), (4, (.o .v)), (5, .v), (6, .v), (11, .v), (16, .v), (17, .v), (21, .v), (26, .v)] [(1, [1, 0]), (9, [1, 0]), (25, []), (57, []), (121, []), (185, []), (441, []), (57, []), (569, []), (57, []), (6, [1, 0]), (1081, []), (6, [1, 0]), (57, []), (57, []), (6, [])] Try.f190 ⟨[.v], [(.o .v), .v], [], none⟩ = some ir_impl_heights := by kernel_rfl
instance : Has K 82 ir_impl_heights := ⟨fun _ _ hb => KS.of_body tabOk mixed (r := ⟨82, 190, ⟨[.v], [(.o .v), .v], [], none⟩⟩) rfl t82 Try.func190 hb⟩
theorem t83 : trF (cfOf Try.prog tab 40 [] none) (sgOf tab) [(0, .v), (1, .v), (2, .v), (6, .v), (7, .v), (8, (.o .v)), (9, .v), (14, .v), (19, .v), (20, .v), (29, .v)] [(7, []), (39, [1, 0]), (103, []), (231, []), (359, []), (871, []), (103, []), (1127, []), (103, []), (24, []), (103, []), (24, [])] Try.f203 ⟨[.v, .v, .v], [.v, .v], [], none⟩ = some ir_impl_exchanged := by kernel_rfl
instance : Has K 83 ir_impl_exchanged := ⟨fun _ _ hb => KS.of_body tabOk mixed (r := ⟨83, 203, ⟨[.v, .v, .v], [.v, .v], [], none⟩⟩) rfl t83 Try.func203 hb⟩
theorem t84 : trF (cfOf Try.prog tab 83 [] none) (sgOf tab) [(0, .v), (1, .v), (4, .v), (5, (.o (.o .v))), (6, .v), (7, .v), (11, .v), (23, .v), (49, .v), (58, .v)] [(3, []), (11, [2, 0]), (27, []), (91, []), (27, [0, 0, 0, 1, 2, 0, 0]), (59, []), (187, []), (315, []), (59, [0, 0, 0, 1, 0, 0, 0]), (571, []), (59, [0, 0, 0, 1, 0, 0, 0, 0, 0, 0, 0, 0, 0, 0, 0]), (59, [0, 0, 0, 1, 0, 0, 0, 0, 0, 0, 0, 0, 0, 0, 0, 0, 0, 0, 0, 0, 0, 0, 0, 0]), (59, []), (27, []), (4, [])] Try.f182 ⟨[.v, .v], [.v], [], none⟩ = some ir_spec_l3Ways := by kernel_rfl
instance : Has K 84 ir_spec_l3Ways := ⟨fun _ _ hb => KS.of_body tabOk mixed (r := ⟨84, 182, ⟨[.v, .v], [.v], [], none⟩⟩) rfl t84 Try.func182 hb⟩
theorem t132 : trF (cfOf Try.prog tab 9 [] none) (sgOf tab) [(0, .v), (2, .v), (5, .v)] [(1, []), (5, []), (2, []), (2, [])] Try.f88 ⟨[.v], [.v], [], none⟩ = some ir_impl_SizeOf := by kernel_rfl
instance : Has K 132 ir_impl_SizeOf := ⟨fun _ _ hb => KS.of_body tabOk mixed (r := ⟨132, 88, ⟨[.v], [.v], [], none⟩⟩) rfl t132 Try.func88 hb⟩
theorem t138 : trF (cfOf Try.prog tab 31 [] none) (sgOf tab) [(0, .v), (2, .v), (3, .v), (4, .v), (5, .v), (7, .v), (11, .v), (15, .v), (27, .v)] [(1, []), (33, []), (2, []), (5, []), (13, []), (77, []), (29, []), (157, []), (29, []), (13, []), (13, []), (260, []), (2, []), (2, [])] Try.f81 ⟨[.v], [.v], [], none⟩ = some ir_spec_FormatInt := by kernel_rfl
instance : Has K 138 ir_spec_FormatInt := ⟨fun _ _ hb => KS.of_body tabOk mixed (r := ⟨138, 81, ⟨[.v], [.v], [], none⟩⟩) rfl t138 Try.func81 hb⟩
theorem t141 : trF (cfOf Try.prog tab 5 [] none) (sgOf tab) [(0, .y), (2, .v)] [(1, []), (2, [])] Try.f86 ⟨[.y], [.v], [], none⟩ = some ir_impl_line := by kernel_rfl
instance : Has K 141 ir_impl_line := ⟨fun _ _ hb => KS.of_body tabOk mixed (r := ⟨141, 86, ⟨[.y], [.v], [], none⟩⟩) rfl t141 Try.func86 hb⟩
theorem t143 : trF (cfOf Try.prog tab 59 [] none) (sgOf tab) [(0, .v), (2, .v), (3, (.o .v)), (4, .v), (5, .v), (6, .v), (7, .v), (9, .v), (13, .v), (19, .v), (29, .v), (38, .v)] [(1, []), (129, []), (2, []), (5, [1, 0]), (13, []), (269, []), (29, []), (541, []), (29, []), (13, []), (13, []), (1028, []), (4, []), (100, []), (2148, []), (100, [0, 0, 0, 0, 0, 0, 0, 0, 0, 0, 0, 0, 0, 5, 0, 5]), (100, []), (2, [])] Try.f87 ⟨[.v], [.v], [], none⟩ = some ir_impl_FormatInt := by kernel_rfl
instance : Has K 143 ir_impl_FormatInt := ⟨fun _ _ hb => KS.of_body tabOk mixed (r := ⟨143, 87, ⟨[.v], [.v], [], none⟩⟩) rfl t143 Try.func87 hb⟩
theorem t184 : trF (cfOf Try.prog tab 25 [] none) (sgOf tab) [(0, .y), (1, .v), (4, .v), (5, .v), (6, .v), (7, .v), (8, .y), (9, .v), (10, .v), (11, .v), (16, .v)] [(3, []), (11, []), (458, []), (970, []), (506, []), (1514, []), (490, []), (458, []), (458, []), (4, [])] Try.f144 ⟨[.y, .v], [.v], [], none⟩ = some ir_impl_glued := by kernel_rfl
instance : Has K 184 ir_impl_glued := ⟨fun _ _ hb => KS.of_body tabOk mixed (r := ⟨184, 144, ⟨[.y, .v], [.v], [], none⟩⟩) rfl t184 Try.func144 hb⟩
theorem t235 : trF (cfOf Try.prog tab 67 [] none) (sgOf tab) [(0, .v), (1, .v), (4, .v), (5, .v), (7, .v), (9, .v), (13, .v), (14, .v), (15, .v), (19, .v), (23, .v), (27, .v), (31, .v), (35, .v), (44, .v), (53, .v), (63, .v)] [(3, []), (67, []), (4, []), (130, []), (386, []), (4, []), (642, []), (4, []), (1154, []), (4, []), (2178, []), (4, []), (4226, []), (4, []), (8322, []), (8, []), (4, []), (16514, []), (16, []), (4, []), (32898, []), (32, []), (4, []), (65538, []), (4, []), (4, [])] Try.f84 ⟨[.v, .v], [.v], [], none⟩ = some ir_spec_StatisticOf := by kernel_rfl
instance : Has K 235 ir_spec_StatisticOf := ⟨fun _ _ hb => KS.of_body tabOk mixed (r := ⟨235, 84, ⟨[.v, .v], [.v], [], none⟩⟩) rfl t235 Try.func84 hb⟩
theorem t273 : trF (cfOf Try.prog tab 39 [] none) (sgOf tab) [(0, .v), (2, .v), (3, .v), (4, .v), (5, .v), (6, .v), (9, .v), (19, .v), (25, .v), (29, .v)] [(1, []), (65, []), (2, []), (5, []), (29, []), (61, []), (189, []), (317, []), (61, []), (573, []), (61, []), (61, []), (61, []), (2, [])] Try.f89 ⟨[.v], [.v], [], none⟩ = some ir_impl_RankPath := by kernel_rfl
instance : Has K 273 ir_impl_RankPath := ⟨fun _ _ hb => KS.of_body tabOk mixed (r := ⟨273, 89, ⟨[.v], [.v], [], none⟩⟩) rfl t273 Try.func89 hb⟩
theorem t276 : trF (cfOf Try.prog tab 37 [] none) (sgOf tab) [(0, .v), (2, .v), (3, .v), (4, .v), (5, .v), (6, .v), (9, .v), (17, .v), (23, .v), (27, .v)] [(1, []), (65, []), (2, []), (5, []), (13, []), (29, []), (61, []), (189, []), (317, []), (61, []), (573, []), (61, []), (61, []), (61, []), (2, [])] Try.f82 ⟨[.v], [.v], [], none⟩ = some ir_spec_RankPath := by kernel_rfl
instance : Has K 276 ir_spec_RankPath := ⟨fun _ _ hb => KS.of_body tabOk mixed (r := ⟨276, 82, ⟨[.v], [.v], [], none⟩⟩) rfl t276 Try.func82 hb⟩
theorem t280 : trF (cfOf Try.prog tab 28 [] none) (sgOf tab) [(0, .v), (2, .v), (3, .v), (4, .v), (7, .v), (11, .v), (24, .v)] [(1, []), (17, []), (2, []), (5, []), (13, []), (45, []), (77, []), (13, []), (13, []), (2, [])] Try.f191 ⟨[.v], [.v], [], none⟩ = some ir_impl_PeaksOf := by kernel_rfl
instance : Has K 280 ir_impl_PeaksOf := ⟨fun _ _ hb => KS.of_body tabOk mixed (r := ⟨280, 191, ⟨[.v], [.v], [], none⟩⟩) rfl t280 Try.func191 hb⟩
theorem t293 : trF (cfOf Try.prog tab 24 [] none) (sgOf tab) [(0, .v), (2, .v), (3, .v), (4, .v), (7, .v), (11, .v), (20, .v)] [(1, []), (17, []), (2, []), (5, []), (13, []), (45, []), (77, []), (13, []), (13, []), (2, [])] Try.f183 ⟨[.v], [.v], [], none⟩ = some ir_spec_PeaksOf := by kernel_rfl
instance : Has K 293 ir_spec_PeaksOf := ⟨fun _ _ hb => KS.of_body tabOk mixed (r := ⟨293, 183, ⟨[.v], [.v], [], none⟩⟩) rfl t293 Try.func183 hb⟩
theorem t294 : trF (cfOf Try.prog tab 22 [] none) (sgOf tab) [(0, .v), (2, .v), (3, .v), (4, .v), (5, .v), (11, .v), (18, .v)] [(1, []), (4, []), (12, []), (28, []), (60, []), (92, []), (28, []), (28, []), (2, [])] Try.f184 ⟨[.v], [.v], [], none⟩ = some ir_spec_ReturnsOf := by kernel_rfl
instance : Has K 294 ir_spec_ReturnsOf := ⟨fun _ _ hb => KS.of_body tabOk mixed (r := ⟨294, 184, ⟨[.v], [.v], [], none⟩⟩) rfl t294 Try.func184 hb⟩
theorem t295 : trF (cfOf Try.prog tab 36 [] none) (sgOf tab) [(0, .v), (1, .v), (4, .v), (5, .v), (32, .v)] [(3, []), (11, []), (27, []), (11, []), (4, [])] Try.f185 ⟨[.v, .v], [.v], [], none⟩ = some ir_spec_l13Run := by kernel_rfl
instance : Has K 295 ir_spec_l13Run := ⟨fun _ _ hb => KS.of_body tabOk mixed (r := ⟨295, 185, ⟨[.v, .v], [.v], [], none⟩⟩) rfl t295 Try.func185 hb⟩
theorem t296 : trF (cfOf Try.prog tab 33 [] none) (sgOf tab) [(0, .v), (2, .v), (3, .v), (4, .v), (5, .v), (16, .v), (22, .v), (31, .v)] [(1, []), (5, []), (13, []), (29, []), (61, []), (93, []), (29, []), (29, []), (136, []), (2, []), (2, [])] Try.f186 ⟨[.v], [.v], [], none⟩ = some ir_spec_AreaOf := by kernel_rfl
instance : Has K 296 ir_spec_AreaOf := ⟨fun _ _ hb => KS.of_body tabOk mixed (r := ⟨296, 186, ⟨[.v], [.v], [], none⟩⟩) rfl t296 Try.func186 hb⟩
theorem t297 : trF (cfOf Try.prog tab 27 [] none) (sgOf tab) [(0, .v), (2, .v), (3, .v), (4, .v), (5, .v), (13, .v), (19, .v)] [(1, []), (9, []), (25, []), (57, []), (89, []), (25, []), (25, []), (25, []), (6, [])] Try.f92 ⟨[.v], [.v, .v], [], none⟩ = some ir_spec_BracketsOf := by kernel_rfl
instance : Has K 297 ir_spec_BracketsOf := ⟨fun _ _ hb => KS.of_body tabOk mixed (r := ⟨297, 92, ⟨[.v], [.v, .v], [], none⟩⟩) rfl t297 Try.func92 hb⟩
theorem t298 : trF (cfOf Try.prog tab 30 [] none) (sgOf tab) [(0, .v), (2, .v), (3, .v), (4, .v), (5, .v), (6, .v), (7, .v), (14, .v), (20, .v)] [(1, []), (12, []), (132, []), (2, []), (16, []), (48, []), (112, []), (368, []), (112, []), (112, []), (2, [])] Try.f187 ⟨[.v], [.v], [], none⟩ = some ir_spec_DepthOf := by kernel_rfl
instance : Has K 298 ir_spec_DepthOf := ⟨fun _ _ hb => KS.of_body tabOk mixed (r := ⟨298, 187, ⟨[.v], [.v], [], none⟩⟩) rfl t298 Try.func187 hb⟩
theorem t299 : trF (cfOf Try.prog tab 38 [] none) (sgOf tab) [(0, .v), (2, (.o .v)), (3, .v), (4, (.o .v)), (5, .v), (6, .v), (15, .v), (21, .v), (35, .v)] [(1, [1, 0]), (9, [1, 0]), (25, []), (57, []), (121, []), (185, []), (41, []), (57, []), (57, []), (57, []), (264, []), (6, [1, 0, 0]), (6, [])] Try.f93 ⟨[.v], [(.o .v), .v], [], none⟩ = some ir_spec_PlaneOf := by kernel_rfl
instance : Has K 299 ir_spec_PlaneOf := ⟨fun _ _ hb => KS.of_body tabOk mixed (r := ⟨299, 93, ⟨[.v], [(.o .v), .v], [], none⟩⟩) rfl t299 Try.func93 hb⟩
theorem t300 : trF (cfOf Try.prog tab 23 [] none) (sgOf tab) [(0, .y), (2, .v), (3, .v), (4, .v), (12, .v), (19, .v)] [(1, []), (5, []), (13, []), (29, []), (45, []), (13, []), (13, []), (2, [])] Try.f188 ⟨[.y], [.v], [], none⟩ = some ir_spec_LeavesOf := by kernel_rfl
instance : Has K 300 ir_spec_LeavesOf := ⟨fun _ _ hb => KS.of_body tabOk mixed (r := ⟨300, 188, ⟨[.y], [.v], [], none⟩⟩) rfl t300 Try.func188 hb⟩
theorem t301 : trF (cfOf Try.prog tab 64 [] none) (sgOf tab) [(0, .v), (2, (.o .v)), (3, .v), (4, (.o .v)), (5, (.o .v)), (6, .v), (7, .v), (8, .v), (11, .v), (21, .v), (27, .v), (59, .v)] [(1, [1, 0]), (257, []), (6, [1, 0, 0]), (9, [0, 0, 0, 1, 0]), (25, [1, 0]), (57, []), (121, []), (249, []), (761, []), (1273, []), (249, []), (249, []), (249, []), (249, []), (2297, []), (249, []), (249, []), (6, [])] Try.f99 ⟨[.v], [(.o .v), .v], [], none⟩ = some ir_spec_PartitionOf := by kernel_rfl
instance : Has K 301 ir_spec_PartitionOf := ⟨fun _ _ hb => KS.of_body tabOk mixed (r := ⟨301, 99, ⟨[.v], [(.o .v), .v], [], none⟩⟩) rfl t301 Try.func99 hb⟩
theorem t302 : trF (cfOf Try.prog tab 44 [] none) (sgOf tab) [(0, .y), (2, .v), (3, (.o (.o .v))), (4, .v), (13, .v), (22, .v)] [(1, []), (5, [2, 0]), (13, []), (29, []), (45, []), (13, [0, 1, 2, 0, 0]), (13, [500003, 0, 0, 0, 0, 0, 0, 0, 0, 0, 0, 0, 2601038, 0, 0, 0, 7, 0]), (13, []), (2, [])] Try.f166 ⟨[.y], [.v], [], none⟩ = some ir_spec_BlocksOf := by kernel_rfl
instance : Has K 302 ir_spec_BlocksOf := ⟨fun _ _ hb => KS.of_body tabOk mixed (r := ⟨302, 166, ⟨[.y], [.v], [], none⟩⟩) rfl t302 Try.func166 hb⟩
theorem t303 : trF (cfOf Try.prog tab 29 [] none) (sgOf tab) [(0, .v), (2, .v), (3, .v), (4, .v), (7, .v), (11, .v), (24, .v)] [(1, []), (17, []), (2, []), (5, []), (13, []), (45, []), (77, []), (13, []), (13, []), (2, [])] Try.f189 ⟨[.v], [.v], [], none⟩ = some ir_spec_MajorOf := by kernel_rfl
instance : Has K 303 ir_spec_MajorOf := ⟨fun _ _ hb => KS.of_body tabOk mixed (r := ⟨303, 189, ⟨[.v], [.v], [], none⟩⟩) rfl t303 Try.func189 hb⟩
theorem t319 : trF (cfOf Try.prog tab 33 [] none) (sgOf tab) [(0, .v), (2, (.o .v)), (3, (.o .v)), (4, .v), (5, .v), (9, .v), (14, .v), (24, .v)] [(1, [1]), (5, [1, 0]), (37, []), (2, []), (13, []), (29, []), (93, []), (29, []), (157, []), (29, []), (29, []), (29, []), (2, [])] Try.f228 ⟨[.v], [(.o .v)], [], none⟩ = some ir_spec_HeightsOf := by kernel_rfl
instance : Has K 319 ir_spec_HeightsOf := ⟨fun _ _ hb => KS.of_body tabOk mixed (r := ⟨319, 228, ⟨[.v], [(.o .v)], [], none⟩⟩) rfl t319 Try.func228 hb⟩
theorem t320 : trF (cfOf Try.prog tab 37 [] none) (sgOf tab) [(0, .v), (2, .v), (3, .v), (4, .v), (5, .v), (14, .v), (19, .v), (20, .v), (24, .v), (35, .v)] [(1, []), (9, []), (25, []), (57, []), (89, []), (217, []), (25, []), (281, []), (25, []), (6, []), (25, []), (520, []), (6, []), (6, [])] Try.f229 ⟨[.v], [.v, .v], [], none⟩ = some ir_spec_PathOfBrackets := by kernel_rfl
instance : Has K 320 ir_spec_PathOfBrackets := ⟨fun _ _ hb => KS.of_body tabOk mixed (r := ⟨320, 229, ⟨[.v], [.v, .v], [], none⟩⟩) rfl t320 Try.func229 hb⟩
theorem t321 : trF (cfOf Try.prog tab 62 [] none) (sgOf tab) [(0, .y), (2, .v), (3, .v), (4, .v), (5, .v), (9, .v), (33, .v), (43, .v), (58, .v)] [(1, []), (5, []), (37, []), (69, []), (2, []), (13, []), (29, []), (157, []), (29, []), (29, []), (261, []), (2, []), (5, []), (2, [])] Try.f196 ⟨[.y], [.v], [], none⟩ = some ir_spec_IsPlane := by kernel_rfl
instance : Has K 321 ir_spec_IsPlane := ⟨fun _ _ hb => KS.of_body tabOk mixed (r := ⟨321, 196, ⟨[.y], [.v], [], none⟩⟩) rfl t321 Try.func196 hb⟩
theorem t322 : trF (cfOf Try.prog tab 33 [] none) (sgOf tab) [(0, .y), (1, .v), (4, (.o .v)), (5, (.o .v)), (6, .v), (19, .v), (27, .v)] [(3, [1]), (11, [1, 0]), (27, []), (59, []), (91, []), (27, []), (27, []), (4, [])] Try.f230 ⟨[.y, .v], [(.o .v)], [], none⟩ = some ir_spec_ChildrenOf := by kernel_rfl
instance : Has K 322 ir_spec_ChildrenOf := ⟨fun _ _ hb => KS.of_body tabOk mixed (r := ⟨322, 230, ⟨[.y, .v], [(.o .v)], [], none⟩⟩) rfl t322 Try.func230 hb⟩
theorem t323 : trF (cfOf Try.prog tab 48 [] none) (sgOf tab) [(0, .y), (2, (.o .v)), (3, (.o .v)), (4, (.o .v)), (5, .v), (6, .v), (7, .v), (13, .v), (19, .v), (30, .v), (33, .v)] [(1, [1]), (5, [1, 0]), (13, [1, 0]), (29, []), (157, []), (61, []), (125, []), (381, []), (637, []), (125, []), (125, []), (1085, []), (61, []), (61, []), (29, []), (29, []), (2, [])] Try.f151 ⟨[.y], [(.o .v)], [], none⟩ = some ir_spec_l8Renumber := by kernel_rfl
instance : Has K 323 ir_spec_l8Renumber := ⟨fun _ _ hb => KS.of_body tabOk mixed (r := ⟨323, 151, ⟨[.y], [(.o .v)], [], none⟩⟩) rfl t323 Try.func151 hb⟩
theorem t324 : trF (cfOf Try.prog tab 29 [] none) (sgOf tab) [(0, .y), (2, .v), (3, .v), (4, .v), (8, .v), (17, .v), (23, .v)] [(1, []), (5, []), (13, []), (29, []), (45, []), (2, []), (77, []), (13, []), (13, []), (2, [])] Try.f160 ⟨[.y], [.v], [], none⟩ = some ir_spec_IsPartition := by kernel_rfl
instance : Has K 324 ir_spec_IsPartition := ⟨fun _ _ hb => KS.of_body tabOk mixed (r := ⟨324, 160, ⟨[.y], [.v], [], none⟩⟩) rfl t324 Try.func160 hb⟩
theorem t373 : trF (cfOf Try.prog tab 45 [] none) (sgOf tab) [(0, .v), (2, (.o .v)), (3, (.o .v)), (4, (.o .v)), (5, .v), (6, .v), (14, .v), (20, .v)] [(1, [1]), (5, [0, 0, 1, 0]), (13, [1, 0]), (29, []), (93, []), (157, []), (29, []), (61, []), (61, []), (61, []), (29, []), (29, []), (2, [])] Try.f115 ⟨[.v], [(.o .v)], [], none⟩ = some ir_impl_partners := by kernel_rfl
instance : Has K 373 ir_impl_partners := ⟨fun _ _ hb => KS.of_body tabOk mixed (r := ⟨373, 115, ⟨[.v], [(.o .v)], [], none⟩⟩) rfl t373 Try.func115 hb⟩
theorem t401 : trF (cfOf Try.prog tab 15 [] none) (sgOf tab) [(0, .v), (2, .v), (3, .v), (4, .v), (7, .v), (14, .v)] [(1, []), (17, []), (2, []), (5, []), (12, []), (32, []), (2, []), (2, [])] Try.f3 ⟨[.v], [.v], [], none⟩ = some ir_laws_FnExactPathLine := by kernel_rfl
instance : Has K 401 ir_laws_FnExactPathLine := ⟨fun _ _ hb => KS.of_body tabOk mixed (r := ⟨401, 3, ⟨[.v], [.v], [], none⟩⟩) rfl t401 Try.func3 hb⟩
theorem t457 : trF (cfOf Try.prog tab 43 [] none) (sgOf tab) [(0, .v), (2, .v), (3, .v), (4, .v), (5, .v), (8, .v), (23, .v)] [(1, []), (33, []), (2, []), (5, []), (13, []), (29, []), (93, []), (29, []), (29, []), (2, [])] Try.f10 ⟨[.v], [.v], [], none⟩ = some ir_spec_PathLine := by kernel_rfl
instance : Has K 457 ir_spec_PathLine := ⟨fun _ _ hb => KS.of_body tabOk mixed (r := ⟨457, 10, ⟨[.v], [.v], [], none⟩⟩) rfl t457 Try.func10 hb⟩
theorem t458 : trF (cfOf Try.prog tab 33 [] none) (sgOf tab) [(0, .v), (2, .v), (3, .v), (5, .v), (8, .v), (17, .v), (18, .v), (19, .v), (20, .v)] [(1, []), (17, []), (2, []), (5, []), (229, []), (485, []), (237, []), (229, []), (229, []), (2, [])] Try.f11 ⟨[.v], [.v], [], none⟩ = some ir_impl_PathLine := by kernel_rfl
instance : Has K 458 ir_impl_PathLine := ⟨fun _ _ hb => KS.of_body tabOk mixed (r := ⟨458, 11, ⟨[.v], [.v], [], none⟩⟩) rfl t458 Try.func11 hb⟩
theorem t465 : trF (cfOf Try.prog tab 28 [] none) (sgOf tab) [(0, .v), (2, .v), (3, .v), (4, .v), (5, .v), (8, .v), (14, .v), (20, .v)] [(1, []), (33, []), (2, []), (5, []), (13, []), (29, []), (93, []), (157, []), (29, []), (29, []), (2, [])] Try.f135 ⟨[.v], [.v], [], none⟩ = some ir_impl_AreaOf := by kernel_rfl
instance : Has K 465 ir_impl_AreaOf := ⟨fun _ _ hb => KS.of_body tabOk mixed (r := ⟨465, 135, ⟨[.v], [.v], [], none⟩⟩) rfl t465 Try.func135 hb⟩
theorem t475 : trF (cfOf Try.prog tab 52 [] none) (sgOf tab) [(0, .y), (2, (.o .v)), (3, .v), (4, (.o .v)), (5, .v), (6, .v), (7, .v), (8, .v), (9, .v), (10, .v), (13, .v), (16, .y), (17, .v), (18, .v), (19, .v), (26, .y), (27, .v), (28, .v), (29, .v), (35, .v), (43, .v)] [(1, [1, 0]), (1025, []), (6, [1, 0, 0]), (9, [1, 0]), (25, []), (14361, []), (30745, []), (14457, []), (14585, []), (243929, []), (506073, []), (244697, []), (768473, []), (14489, []), (243929, []), (1063065, []), (14489, []), (14361, []), (14361, []), (6, [])] Try.f148 ⟨[.y], [(.o .v), .v], [], none⟩ = some ir_impl_RenumberBlocks := by kernel_rfl
instance : Has K 475 ir_impl_RenumberBlocks := ⟨fun _ _ hb => KS.of_body tabOk mixed (r := ⟨475, 148, ⟨[.y], [(.o .v), .v], [], none⟩⟩) rfl t475 Try.func148 hb⟩
theorem t478 : trF (cfOf Try.prog tab 24 [] none) (sgOf tab) [(0, .y), (2, .v), (3, .v), (5, .v), (8, .v), (9, .y), (10, .v), (11, .v), (12, .v), (18, .v)] [(1, []), (17, []), (2, []), (5, []), (228, []), (484, []), (236, []), (748, []), (2, []), (228, []), (228, []), (2, [])] Try.f152 ⟨[.y], [.v], [], none⟩ = some ir_impl_IsPartition := by kernel_rfl
instance : Has K 478 ir_impl_IsPartition := ⟨fun _ _ hb => KS.of_body tabOk mixed (r := ⟨478, 152, ⟨[.y], [.v], [], none⟩⟩) rfl t478 Try.func152 hb⟩
theorem t479 : trF (cfOf Try.prog tab 38 [] none) (sgOf tab) [(0, .y), (2, .v), (3, (.o (.o .v))), (4, .v), (5, .v), (9, .v), (11, .y), (12, .v), (13, .v), (14, .v), (21, .v)] [(1, []), (5, [2, 0]), (37, []), (2, []), (452, []), (964, []), (476, []), (1500, []), (476, [0, 1, 2, 0, 0]), (452, [500003, 0, 0, 0, 0, 0, 2601031, 0, 0, 0, 7, 0]), (452, []), (2, [])] Try.f153 ⟨[.y], [.v], [], none⟩ = some ir_impl_BlocksOf := by kernel_rfl
instance : Has K 479 ir_impl_BlocksOf := ⟨fun _ _ hb => KS.of_body tabOk mixed (r := ⟨479, 153, ⟨[.y], [.v], [], none⟩⟩) rfl t479 Try.func153 hb⟩
theorem t498 : trF (cfOf Try.prog tab 2 [] none) (sgOf tab) [(0, (.o .v))] [(0, [1]), (1, [1, 0])] Try.f83 ⟨[], [(.o .v)], [], none⟩ = some ir_spec_StatisticNames := by kernel_rfl
instance : Has K 498 ir_spec_StatisticNames := ⟨fun _ _ hb => KS.of_body tabOk mixed (r := ⟨498, 83, ⟨[], [(.o .v)], [], none⟩⟩) rfl t498 Try.func83 hb⟩
theorem t499 : trF (cfOf Try.prog tab 2 [] none) (sgOf tab) [(0, (.o .v))] [(0, [1]), (1, [1, 0])] Try.f90 ⟨[], [(.o .v)], [], none⟩ = some ir_impl_StatisticNames := by kernel_rfl
instance : Has K 499 ir_impl_StatisticNames := ⟨fun _ _ hb => KS.of_body tabOk mixed (r := ⟨499, 90, ⟨[], [(.o .v)], [], none⟩⟩) rfl t499 Try.func90 hb⟩
theorem t500 : trF (cfOf Try.prog tab 95 [] none) (sgOf tab) [(0, .v), (1, .v), (4, .v), (5, .v), (6, .v), (8, .v), (10, .v), (12, .v), (15, .v), (16, .v), (17, .v), (21, .v), (25, .v), (36, .v), (40, .v), (44, .v), (53, .v), (62, .v), (72, .v), (76, .v), (91, .v)] [(3, []), (259, []), (4, []), (514, []), (1538, []), (4, []), (2562, []), (4, []), (4610, []), (10, []), (8202, []), (10, []), (4, []), (16898, []), (4, []), (33282, []), (16, []), (4, []), (66050, []), (32, []), (4, []), (131586, []), (64, []), (4, []), (262658, []), (4, []), (524290, []), (130, []), (1048706, []), (130, []), (4, []), (4, [])] Try.f91 ⟨[.v, .v], [.v], [], none⟩ = some ir_impl_StatisticOf := by kernel_rfl
instance : Has K 500 ir_impl_StatisticOf := ⟨fun _ _ hb => KS.of_body tabOk mixed (r := ⟨500, 91, ⟨[.v, .v], [.v], [], none⟩⟩) rfl t500 Try.func91 hb⟩
theorem t501 : trF (cfOf Try.prog tab 15 [] none) (sgOf tab) [(0, .v), (2, (.o .v)), (3, (.o .v)), (7, .v)] [(1, [1]), (9, []), (2, [1, 0]), (4, []), (2, [])] Try.f215 ⟨[.v], [(.o .v)], [], none⟩ = some ir_impl_HeightsOf := by kernel_rfl
instance : Has K 501 ir_impl_HeightsOf := ⟨fun _ _ hb => KS.of_body tabOk mixed (r := ⟨501, 215, ⟨[.v], [(.o .v)], [], none⟩⟩) rfl t501 Try.func215 hb⟩
theorem t503 : trF (cfOf Try.prog tab 67 [] none) (sgOf tab) [(0, .v), (2, (.o .v)), (3, .v), (4, .v), (5, (.o .v)), (6, .v), (7, .v), (8, (.o .v)), (9, .v), (12, .v), (22, .v), (35, .v), (46, .v), (52, .v)] [(1, [1, 0]), (513, []), (6, [1, 0, 0]), (9, []), (25, [0, 0, 1, 0]), (57, []), (121, []), (1145, []), (2169, []), (121, []), (121, []), (121, []), (153, [1, 0]), (409, []), (4505, []), (8601, []), (409, []), (409, []), (6, [])] Try.f112 ⟨[.v], [(.o .v), .v], [], none⟩ = some ir_impl_PartitionOf := by kernel_rfl
instance : Has K 503 ir_impl_PartitionOf := ⟨fun _ _ hb => KS.of_body tabOk mixed (r := ⟨503, 112, ⟨[.v], [(.o .v), .v], [], none⟩⟩) rfl t503 Try.func112 hb⟩
theorem t507 : trF (cfOf Try.prog tab 23 [] none) (sgOf tab) [(0, .v), (2, .v), (3, .v), (5, .v), (8, .v), (11, .v), (12, .v), (13, .v), (14, .v), (18, .v)] [(1, []), (17, []), (2, []), (5, []), (228, []), (484, []), (236, []), (740, []), (228, []), (228, []), (2, [])] Try.f192 ⟨[.v], [.v], [], none⟩ = some ir_impl_ReturnsOf := by kernel_rfl
instance : Has K 507 ir_impl_ReturnsOf := ⟨fun _ _ hb => KS.of_body tabOk mixed (r := ⟨507, 192, ⟨[.v], [.v], [], none⟩⟩) rfl t507 Try.func192 hb⟩
theorem t508 : trF (cfOf Try.prog tab 11 [] none) (sgOf tab) [(0, .v), (2, .v), (3, .v), (6, .v)] [(1, []), (9, []), (6, []), (6, [])] Try.f104 ⟨[.v], [.v, .v], [], none⟩ = some ir_impl_BracketsOf := by kernel_rfl
instance : Has K 508 ir_impl_BracketsOf := ⟨fun _ _ hb => KS.of_body tabOk mixed (r := ⟨508, 104, ⟨[.v], [.v, .v], [], none⟩⟩) rfl t508 Try.func104 hb⟩
theorem t509 : trF (cfOf Try.prog tab 27 [] none) (sgOf tab) [(0, .v), (2, .v), (3, .v), (4, .v), (5, .v), (7, .v), (14, .v), (16, .v), (17, .v), (18, .v), (19, .v)] [(1, []), (12, []), (68, []), (2, []), (20, []), (912, []), (1936, []), (944, []), (912, []), (912, []), (2, [])] Try.f193 ⟨[.v], [.v], [], none⟩ = some ir_impl_DepthOf := by kernel_rfl
instance : Has K 509 ir_impl_DepthOf := ⟨fun _ _ hb => KS.of_body tabOk mixed (r := ⟨509, 193, ⟨[.v], [.v], [], none⟩⟩) rfl t509 Try.func193 hb⟩
theorem t510 : trF (cfOf Try.prog tab 44 [] none) (sgOf tab) [(0, .v), (2, (.o .v)), (3, .v), (4, (.o .v)), (5, (.o .v)), (6, .v), (9, .v), (16, .v), (22, .v)] [(1, [1, 0]), (65, []), (6, [1, 0, 0]), (9, [1, 0]), (25, [1, 0]), (57, []), (185, []), (313, []), (57, []), (57, []), (57, []), (57, []), (6, [])] Try.f105 ⟨[.v], [(.o .v), .v], [], none⟩ = some ir_impl_PlaneOf := by kernel_rfl
instance : Has K 510 ir_impl_PlaneOf := ⟨fun _ _ hb => KS.of_body tabOk mixed (r := ⟨510, 105, ⟨[.v], [(.o .v), .v], [], none⟩⟩) rfl t510 Try.func105 hb⟩
theorem t511 : trF (cfOf Try.prog tab 23 [] none) (sgOf tab) [(0, .y), (2, .v), (3, .v), (4, .v), (6, .v), (7, .v), (8, .v), (18, .v)] [(1, []), (5, []), (53, []), (117, []), (61, []), (181, []), (53, []), (53, []), (2, [])] Try.f194 ⟨[.y], [.v], [], none⟩ = some ir_impl_LeavesOf := by kernel_rfl
instance : Has K 511 ir_impl_LeavesOf := ⟨fun _ _ hb => KS.of_body tabOk mixed (r := ⟨511, 194, ⟨[.y], [.v], [], none⟩⟩) rfl t511 Try.func194 hb⟩
theorem t512 : trF (cfOf Try.prog tab 29 [] none) (sgOf tab) [(0, .v), (2, .v), (3, .v), (4, .v), (7, .v), (11, .v), (24, .v)] [(1, []), (17, []), (2, []), (5, []), (13, []), (45, []), (77, []), (13, []), (13, []), (2, [])] Try.f195 ⟨[.v], [.v], [], none⟩ = some ir_impl_MajorOf := by kernel_rfl
instance : Has K 512 ir_impl_MajorOf := ⟨fun _ _ hb => KS.of_body tabOk mixed (r := ⟨512, 195, ⟨[.v], [.v], [], none⟩⟩) rfl t512 Try.func195 hb⟩
theorem t515 : trF (cfOf Try.prog tab 19 [] none) (sgOf tab) [(0, .v), (2, .v), (3, .v), (4, .v), (5, .v), (17, .v)] [(1, []), (24, []), (40, []), (6, []), (6, [])] Try.f231 ⟨[.v], [.v, .v], [], none⟩ = some ir_impl_PathOfBrackets := by kernel_rfl
instance : Has K 515 ir_impl_PathOfBrackets := ⟨fun _ _ hb => KS.of_body tabOk mixed (r := ⟨515, 231, ⟨[.v], [.v, .v], [], none⟩⟩) rfl t515 Try.func231 hb⟩
theorem t516 : trF (cfOf Try.prog tab 39 [] none) (sgOf tab) [(0, .y), (2, .v), (3, .v), (4, .v), (14, .v), (18, .v), (32, .v), (38, .v)] [(1, []), (17, []), (2, []), (5, []), (37, []), (13, []), (77, []), (13, []), (133, []), (2, []), (5, []), (2, [])] Try.f204 ⟨[.y], [.v], [], none⟩ = some ir_impl_IsPlane := by kernel_rfl
instance : Has K 516 ir_impl_IsPlane := ⟨fun _ _ hb => KS.of_body tabOk mixed (r := ⟨516, 204, ⟨[.y], [.v], [], none⟩⟩) rfl t516 Try.func204 hb⟩
theorem t517 : trF (cfOf Try.prog tab 33 [] none) (sgOf tab) [(0, .y), (1, .v), (4, (.o .v)), (5, (.o .v)), (6, .v), (7, .v), (15, .v), (17, .y), (18, .v), (19, .v), (20, .v), (26, .v)] [(3, [1]), (11, [1, 0]), (75, []), (4, []), (906, []), (1930, []), (954, []), (2970, []), (906, []), (906, []), (4, [])] Try.f232 ⟨[.y, .v], [(.o .v)], [], none⟩ = some ir_impl_ChildrenOf := by kernel_rfl
instance : Has K 517 ir_impl_ChildrenOf := ⟨fun _ _ hb => KS.of_body tabOk mixed (r := ⟨517, 232, ⟨[.y, .v], [(.o .v)], [], none⟩⟩) rfl t517 Try.func232 hb⟩
end Go.Proofs.Ytdifmcppfcbgdaa.fnExactPathLine

