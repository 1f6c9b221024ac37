/-
  Texts of the little language.
-/
import Derived.Test.YtfjkbocblpjpjaaIrAllA
import Derived.Test.YtfjkbocblpjpjaaRows
import Derived.Test.YtfjkbocblpjpjaaCatThree
namespace Go.Proofs.Ytfjkbocblpjpjaa.fnMachines
open Go Go.Cat Go.Proofs
set_option maxRecDepth 100000
def tab : List Row := [⟨22, 132, ⟨[.v, .v, .v], [.v], [], none⟩⟩,
  ⟨23, 134, ⟨[.v, .v, .v], [.v], [], none⟩⟩,
  ⟨27, 129, ⟨[.v, .v], [.v], [], none⟩⟩,
  ⟨28, 41, ⟨[.v], [.v], [], none⟩⟩,
  ⟨49, 65, ⟨[.y], [(.o .v), .v], [], none⟩⟩,
  ⟨50, 64, ⟨[.y], [(.o .v), .v], [], none⟩⟩,
  ⟨51, 69, ⟨[.y], [(.o .v), .v], [], none⟩⟩,
  ⟨52, 68, ⟨[.y], [(.o .v), .v], [], none⟩⟩,
  ⟨61, 52, ⟨[.y], [(.o .v), .v], [], none⟩⟩,
  ⟨62, 51, ⟨[.y], [(.o .v), .v], [], none⟩⟩,
  ⟨64, 144, ⟨[.v], [.v], [], none⟩⟩,
  ⟨67, 23, ⟨[.v], [.v], [], none⟩⟩,
  ⟨73, 166, ⟨[.y], [.v], [], none⟩⟩,
  ⟨74, 164, ⟨[.y], [.v], [], none⟩⟩,
  ⟨75, 175, ⟨[.y], [(.o .v)], [], none⟩⟩,
  ⟨80, 167, ⟨[.y], [(.o .v)], [], none⟩⟩,
  ⟨81, 165, ⟨[(.o .v)], [], [0], none⟩⟩,
  ⟨82, 141, ⟨[.v], [(.o .v), .v], [], none⟩⟩,
  ⟨101, 55, ⟨[.y], [.v], [], none⟩⟩,
  ⟨102, 54, ⟨[.y], [.v], [], none⟩⟩,
  ⟨105, 58, ⟨[.y], [.v], [], none⟩⟩,
  ⟨106, 57, ⟨[.y], [.v], [], none⟩⟩,
  ⟨109, 61, ⟨[.v, .y], [(.o .v), .v], [], none⟩⟩,
  ⟨110, 60, ⟨[.v, .y], [(.o .v), .v], [], none⟩⟩,
  ⟨111, 73, ⟨[.v, .v], [.v], [], none⟩⟩,
  ⟨112, 72, ⟨[.v, .v], [.v], [], none⟩⟩,
  ⟨130, 169, ⟨[.y], [.v], [], none⟩⟩,
  ⟨131, 168, ⟨[.y], [.v], [], none⟩⟩,
  ⟨132, 174, ⟨[.v], [.v], [], none⟩⟩,
  ⟨133, 178, ⟨[.v, .v], [(.o .v)], [], none⟩⟩,
  ⟨134, 176, ⟨[.y, (.b .v), (.b .v), (.b .v), .v], [], [1, 2, 3], (some (4, 134, [1, 2, 3, 4]))⟩⟩,
  ⟨135, 177, ⟨[.y, .v], [.v], [], none⟩⟩,
  ⟨156, 62, ⟨[.y], [.v, .v], [], none⟩⟩,
  ⟨178, 207, ⟨[.y], [.v], [], none⟩⟩,
  ⟨179, 208, ⟨[.y, .v], [.v], [], none⟩⟩,
  ⟨186, 66, ⟨[.y], [.v], [], none⟩⟩,
  ⟨187, 56, ⟨[.y], [.v], [], none⟩⟩,
  ⟨203, 211, ⟨[.v, .v], [.v], [], none⟩⟩,
  ⟨205, 170, ⟨[.y, .v], [.v], [], none⟩⟩,
  ⟨206, 171, ⟨[.v, .v, .v], [.v], [], none⟩⟩,
  ⟨211, 212, ⟨[.v], [.v], [], none⟩⟩,
  ⟨216, 6, ⟨[.v], [.v], [], none⟩⟩,
  ⟨220, 12, ⟨[.v], [.v], [], none⟩⟩,
  ⟨238, 50, ⟨[.v], [(.o .v)], [], none⟩⟩,
  ⟨239, 53, ⟨[.y, .y], [.v], [], none⟩⟩,
  ⟨240, 59, ⟨[.v], [.v, (.o .v)], [], none⟩⟩,
  ⟨241, 63, ⟨[.v], [(.o .v)], [], none⟩⟩,
  ⟨242, 67, ⟨[.v], [(.o .v)], [], none⟩⟩,
  ⟨243, 70, ⟨[.y], [.v], [], none⟩⟩,
  ⟨244, 71, ⟨[.v], [.v, .v], [], none⟩⟩,
  ⟨288, 136, ⟨[.v], [(.b .v)], [], none⟩⟩,
  ⟨289, 142, ⟨[(.b .v), .v], [.v], [0], none⟩⟩,
  ⟨305, 163, ⟨[(.b .v)], [(.o .v)], [0], none⟩⟩,
  ⟨306, 172, ⟨[(.b .v), .v], [.v], [0], none⟩⟩,
  ⟨307, 173, ⟨[(.b .v), .v], [.v], [0], none⟩⟩,
  ⟨313, 193, ⟨[(.b .v), .y], [.v], [0], none⟩⟩,
  ⟨316, 196, ⟨[(.b .v)], [.v], [0], none⟩⟩,
  ⟨317, 197, ⟨[(.b .v)], [.v], [0], none⟩⟩,
  ⟨325, 206, ⟨[.v], [(.o .v), .v], [], none⟩⟩]
theorem tabOk : tabOK Try.prog tab = true := by kernel_rfl
theorem mixed : Try.prog.follows .mixedOrders = true := Try.checked.mixed
abbrev K := KS Try.prog tab
theorem t22 : trF (cfOf Try.prog tab 15 [] none) (sgOf tab) [(0, .v), (1, .v), (2, .v), (6, .v)] [(7, []), (8, [])] Try.f132 ⟨[.v, .v, .v], [.v], [], none⟩ = some ir_spec_l1In := by kernel_rfl
instance : Has K 22 ir_spec_l1In := ⟨fun _ _ hb => KS.of_body tabOk mixed (r := ⟨22, 132, ⟨[.v, .v, .v], [.v], [], none⟩⟩) rfl t22 Try.func132 hb⟩
theorem t23 : trF (cfOf Try.prog tab 15 [] none) (sgOf tab) [(0, .v), (1, .v), (2, .v), (6, .v)] [(7, []), (8, [])] Try.f134 ⟨[.v, .v, .v], [.v], [], none⟩ = some ir_impl_within := by kernel_rfl
instance : Has K 23 ir_impl_within := ⟨fun _ _ hb => KS.of_body tabOk mixed (r := ⟨23, 134, ⟨[.v, .v, .v], [.v], [], none⟩⟩) rfl t23 Try.func134 hb⟩
theorem t27 : trF (cfOf Try.prog tab 73 [] none) (sgOf tab) [(0, .v), (1, .v), (4, .v), (5, (.o .v)), (6, .v), (7, .v), (8, (.o .v)), (9, .v), (18, .v), (23, .v), (24, .v), (25, .v), (33, .v), (42, .v), (54, .v)] [(3, []), (259, []), (4, []), (11, [0, 0, 1, 0]), (1547, []), (3595, []), (1563, []), (1547, []), (1547, []), (43, []), (4139, []), (107, [0, 0, 1, 0]), (235, []), (8427, []), (235, []), (16619, []), (235, []), (235, []), (43, []), (43, []), (4, [])] Try.f129 ⟨[.v, .v], [.v], [], none⟩ = some ir_impl_BallotNumber := by kernel_rfl
instance : Has K 27 ir_impl_BallotNumber := ⟨fun _ _ hb => KS.of_body tabOk mixed (r := ⟨27, 129, ⟨[.v, .v], [.v], [], none⟩⟩) rfl t27 Try.func129 hb⟩
theorem t28 : trF (cfOf Try.prog tab 9 [] none) (sgOf tab) [(0, .v), (2, .v), (5, .v)] [(1, []), (5, []), (2, []), (2, [])] Try.f41 ⟨[.v], [.v], [], none⟩ = some ir_impl_CatalanNumber := by kernel_rfl
instance : Has K 28 ir_impl_CatalanNumber := ⟨fun _ _ hb => KS.of_body tabOk mixed (r := ⟨28, 41, ⟨[.v], [.v], [], none⟩⟩) rfl t28 Try.func41 hb⟩
theorem t49 : trF (cfOf Try.prog tab 58 [] none) (sgOf tab) [(0, .y), (2, (.o .v)), (3, .v), (4, .v), (5, .v), (6, .v), (14, .v), (22, .v), (30, .v), (52, .v)] [(1, [1, 0]), (9, []), (73, []), (25, []), (153, []), (57, []), (313, []), (569, []), (6, [0, 0, 0, 1, 0, 0]), (57, []), (25, []), (9, []), (6, [1, 0, 0])] Try.f65 ⟨[.y], [(.o .v), .v], [], none⟩ = some ir_spec_PatternOf231 := by kernel_rfl
instance : Has K 49 ir_spec_PatternOf231 := ⟨fun _ _ hb => KS.of_body tabOk mixed (r := ⟨49, 65, ⟨[.y], [(.o .v), .v], [], none⟩⟩) rfl t49 Try.func65 hb⟩
theorem t50 : trF (cfOf Try.prog tab 58 [] none) (sgOf tab) [(0, .y), (2, (.o .v)), (3, .v), (4, .v), (5, .v), (6, .v), (9, .v), (12, .v), (13, .v), (14, .v), (21, .v), (29, .v), (51, .v)] [(1, [1, 0]), (65, []), (6, [1, 0, 0]), (385, []), (897, []), (393, []), (409, []), (1433, []), (441, []), (2489, []), (4537, []), (6, [0, 0, 0, 1, 0, 0]), (441, []), (409, []), (385, []), (6, [1, 0, 0])] Try.f64 ⟨[.y], [(.o .v), .v], [], none⟩ = some ir_impl_PatternOf231 := by kernel_rfl
instance : Has K 50 ir_impl_PatternOf231 := ⟨fun _ _ hb => KS.of_body tabOk mixed (r := ⟨50, 64, ⟨[.y], [(.o .v), .v], [], none⟩⟩) rfl t50 Try.func64 hb⟩
theorem t51 : trF (cfOf Try.prog tab 48 [] none) (sgOf tab) [(0, .y), (2, (.o .v)), (3, .v), (4, (.o .v)), (5, .v), (6, .v), (9, .v), (17, .v), (29, .v)] [(1, [1, 0]), (65, []), (6, [1, 0, 0]), (8, [1, 0, 0, 0]), (24, []), (152, []), (280, []), (56, []), (56, []), (24, []), (24, []), (6, [])] Try.f69 ⟨[.y], [(.o .v), .v], [], none⟩ = some ir_spec_BubbleOnce := by kernel_rfl
instance : Has K 51 ir_spec_BubbleOnce := ⟨fun _ _ hb => KS.of_body tabOk mixed (r := ⟨51, 69, ⟨[.y], [(.o .v), .v], [], none⟩⟩) rfl t51 Try.func69 hb⟩
theorem t52 : trF (cfOf Try.prog tab 45 [] none) (sgOf tab) [(0, .y), (2, (.o .v)), (3, .v), (4, (.o .v)), (5, .v), (8, .v), (15, .v), (27, .v)] [(1, [1, 0]), (33, []), (6, [1, 0, 0]), (8, []), (24, []), (88, []), (152, []), (24, [0, 0, 0, 0, 0, 0, 0, 0, 0, 0, 0, 0, 0, 0, 0, 6, 0, 6]), (24, []), (6, [])] Try.f68 ⟨[.y], [(.o .v), .v], [], none⟩ = some ir_impl_BubbleOnce := by kernel_rfl
instance : Has K 52 ir_impl_BubbleOnce := ⟨fun _ _ hb => KS.of_body tabOk mixed (r := ⟨52, 68, ⟨[.y], [(.o .v), .v], [], none⟩⟩) rfl t52 Try.func68 hb⟩
theorem t61 : trF (cfOf Try.prog tab 10 [] none) (sgOf tab) [(0, .y), (2, (.o .v)), (3, .v), (6, .v)] [(1, [1, 0]), (9, []), (6, [1, 0, 0]), (6, [])] Try.f52 ⟨[.y], [(.o .v), .v], [], none⟩ = some ir_spec_SortOnce := by kernel_rfl
instance : Has K 61 ir_spec_SortOnce := ⟨fun _ _ hb => KS.of_body tabOk mixed (r := ⟨61, 52, ⟨[.y], [(.o .v), .v], [], none⟩⟩) rfl t61 Try.func52 hb⟩
theorem t62 : trF (cfOf Try.prog tab 57 [] none) (sgOf tab) [(0, .y), (2, (.o .v)), (3, .v), (4, (.o .v)), (5, (.o .v)), (7, .v), (11, .v), (14, .y), (15, .v), (16, .v), (17, .v), (32, .v)] [(1, [1, 0]), (9, [1, 0]), (73, []), (6, []), (25, [1, 0]), (920, []), (1944, []), (952, []), (3000, []), (952, []), (952, []), (920, []), (920, []), (24, []), (6, [])] Try.f51 ⟨[.y], [(.o .v), .v], [], none⟩ = some ir_impl_SortOnce := by kernel_rfl
instance : Has K 62 ir_impl_SortOnce := ⟨fun _ _ hb => KS.of_body tabOk mixed (r := ⟨62, 51, ⟨[.y], [(.o .v), .v], [], none⟩⟩) rfl t62 Try.func51 hb⟩
theorem t64 : trF (cfOf Try.prog tab 31 [] none) (sgOf tab) [(0, .v), (2, .v), (3, .v), (4, .v), (8, .v), (13, .v), (14, .v), (18, .v), (23, .v)] [(1, []), (5, []), (13, []), (29, []), (45, []), (109, []), (13, []), (141, []), (13, []), (2, []), (269, []), (2, []), (13, []), (2, [])] Try.f144 ⟨[.v], [.v], [], none⟩ = some ir_spec_IsDyck := by kernel_rfl
instance : Has K 64 ir_spec_IsDyck := ⟨fun _ _ hb => KS.of_body tabOk mixed (r := ⟨64, 144, ⟨[.v], [.v], [], none⟩⟩) rfl t64 Try.func144 hb⟩
theorem t67 : trF (cfOf Try.prog tab 14 [] none) (sgOf tab) [(0, .v), (2, .v), (4, .v), (7, .v)] [(1, []), (9, []), (2, []), (4, []), (2, [])] Try.f23 ⟨[.v], [.v], [], none⟩ = some ir_impl_IsDyck := by kernel_rfl
instance : Has K 67 ir_impl_IsDyck := ⟨fun _ _ hb => KS.of_body tabOk mixed (r := ⟨67, 23, ⟨[.v], [.v], [], none⟩⟩) rfl t67 Try.func23 hb⟩
theorem t73 : trF (cfOf Try.prog tab 37 [] none) (sgOf tab) [(0, .y), (2, .v), (3, .v), (4, .v), (8, .v), (19, .v), (22, .v), (33, .v)] [(1, []), (5, []), (21, []), (37, []), (2, []), (13, []), (77, []), (141, []), (2, []), (13, []), (5, []), (2, [])] Try.f166 ⟨[.y], [.v], [], none⟩ = some ir_spec_IsPermutation := by kernel_rfl
instance : Has K 73 ir_spec_IsPermutation := ⟨fun _ _ hb => KS.of_body tabOk mixed (r := ⟨73, 166, ⟨[.y], [.v], [], none⟩⟩) rfl t73 Try.func166 hb⟩
theorem t74 : trF (cfOf Try.prog tab 34 [] none) (sgOf tab) [(0, .y), (2, .v), (3, (.o .v)), (5, .v), (8, .v), (12, .y), (13, .v), (14, .v), (15, .v), (29, .v)] [(1, []), (17, []), (2, []), (5, [0, 0, 1, 0]), (229, []), (485, []), (237, []), (749, []), (2, []), (229, []), (229, []), (2, [])] Try.f164 ⟨[.y], [.v], [], none⟩ = some ir_impl_IsPermutation := by kernel_rfl
instance : Has K 74 ir_impl_IsPermutation := ⟨fun _ _ hb => KS.of_body tabOk mixed (r := ⟨74, 164, ⟨[.y], [.v], [], none⟩⟩) rfl t74 Try.func164 hb⟩
theorem t75 : trF (cfOf Try.prog tab 6 [] none) (sgOf tab) [(0, .y), (2, (.o .v))] [(1, [1]), (2, [1, 0, 0, 0])] Try.f175 ⟨[.y], [(.o .v)], [], none⟩ = some ir_impl_copyInts := by kernel_rfl
instance : Has K 75 ir_impl_copyInts := ⟨fun _ _ hb => KS.of_body tabOk mixed (r := ⟨75, 175, ⟨[.y], [(.o .v)], [], none⟩⟩) rfl t75 Try.func175 hb⟩
theorem t80 : trF (cfOf Try.prog tab 69 [] none) (sgOf tab) [(0, .y), (2, (.o .v)), (3, (.o .v)), (4, (.o .v)), (5, .v), (11, .v), (29, .v), (53, .v)] [(1, [1]), (5, [1, 0]), (13, [1, 0]), (29, []), (61, []), (93, []), (29, []), (29, []), (29, []), (29, []), (140, []), (12, []), (12, []), (2, [])] Try.f167 ⟨[.y], [(.o .v)], [], none⟩ = some ir_spec_l31Sort := by kernel_rfl
instance : Has K 80 ir_spec_l31Sort := ⟨fun _ _ hb => KS.of_body tabOk mixed (r := ⟨80, 167, ⟨[.y], [(.o .v)], [], none⟩⟩) rfl t80 Try.func167 hb⟩
theorem t81 : trF (cfOf Try.prog tab 28 [0] none) (sgOf tab) [(0, (.o .v)), (2, .v), (3, .v), (9, .v)] [(7, []), (15, []), (7, [0, 0, 0, 0, 0, 0, 0, 0, 0, 0, 0, 0, 0, 2, 0, 2]), (7, [])] Try.f165 ⟨[(.o .v)], [], [0], none⟩ = some ir_slices_Reverse___int_int_ := by kernel_rfl
instance : Has K 81 ir_slices_Reverse___int_int_ := ⟨fun _ _ hb => KS.of_body tabOk mixed (r := ⟨81, 165, ⟨[(.o .v)], [], [0], none⟩⟩) rfl t81 Try.func165 hb⟩
theorem t82 : trF (cfOf Try.prog tab 34 [] none) (sgOf tab) [(0, .v), (2, (.o .v)), (3, .v), (4, (.o .v)), (5, .v), (6, .v), (11, .v), (16, .v), (17, .v), (21, .v), (26, .v)] [(1, [1, 0]), (9, [1, 0]), (25, []), (57, []), (121, []), (185, []), (441, []), (57, []), (569, []), (57, []), (6, [1, 0]), (1081, []), (6, [1, 0]), (57, []), (57, []), (6, [])] Try.f141 ⟨[.v], [(.o .v), .v], [], none⟩ = some ir_impl_heights := by kernel_rfl
instance : Has K 82 ir_impl_heights := ⟨fun _ _ hb => KS.of_body tabOk mixed (r := ⟨82, 141, ⟨[.v], [(.o .v), .v], [], none⟩⟩) rfl t82 Try.func141 hb⟩
theorem t101 : trF (cfOf Try.prog tab 10 [] none) (sgOf tab) [(0, .y), (2, .v)] [(1, []), (2, [])] Try.f55 ⟨[.y], [.v], [], none⟩ = some ir_spec_IsSortable := by kernel_rfl
instance : Has K 101 ir_spec_IsSortable := ⟨fun _ _ hb => KS.of_body tabOk mixed (r := ⟨101, 55, ⟨[.y], [.v], [], none⟩⟩) rfl t101 Try.func55 hb⟩
theorem t102 : trF (cfOf Try.prog tab 15 [] none) (sgOf tab) [(0, .y), (2, .v), (3, .v), (4, .v)] [(1, []), (12, []), (2, [])] Try.f54 ⟨[.y], [.v], [], none⟩ = some ir_impl_IsSortable := by kernel_rfl
instance : Has K 102 ir_impl_IsSortable := ⟨fun _ _ hb => KS.of_body tabOk mixed (r := ⟨102, 54, ⟨[.y], [.v], [], none⟩⟩) rfl t102 Try.func54 hb⟩
theorem t105 : trF (cfOf Try.prog tab 19 [] none) (sgOf tab) [(0, .y), (2, .v), (3, .v), (4, .v), (7, .v), (13, .v)] [(1, []), (17, []), (2, []), (4, [1, 0, 0, 0]), (12, []), (44, []), (12, []), (12, []), (2, [])] Try.f58 ⟨[.y], [.v], [], none⟩ = some ir_spec_PassesOf := by kernel_rfl
instance : Has K 105 ir_spec_PassesOf := ⟨fun _ _ hb => KS.of_body tabOk mixed (r := ⟨105, 58, ⟨[.y], [.v], [], none⟩⟩) rfl t105 Try.func58 hb⟩
theorem t106 : trF (cfOf Try.prog tab 18 [] none) (sgOf tab) [(0, .y), (2, .v), (3, .v), (6, .v), (9, .v)] [(1, []), (9, []), (2, []), (5, []), (21, []), (5, []), (5, []), (2, [])] Try.f57 ⟨[.y], [.v], [], none⟩ = some ir_impl_PassesOf := by kernel_rfl
instance : Has K 106 ir_impl_PassesOf := ⟨fun _ _ hb => KS.of_body tabOk mixed (r := ⟨106, 57, ⟨[.y], [.v], [], none⟩⟩) rfl t106 Try.func57 hb⟩
theorem t109 : trF (cfOf Try.prog tab 63 [] none) (sgOf tab) [(0, .v), (1, .y), (4, (.o .v)), (5, .v), (6, (.o .v)), (7, (.o .v)), (8, .v), (9, .v), (26, .v), (32, .v), (38, .v)] [(3, [1, 0]), (19, [1, 0]), (275, []), (12, []), (51, [1, 0]), (115, []), (243, []), (755, []), (1267, []), (243, []), (243, []), (243, []), (243, []), (243, []), (12, [])] Try.f61 ⟨[.v, .y], [(.o .v), .v], [], none⟩ = some ir_spec_OutputOf := by kernel_rfl
instance : Has K 109 ir_spec_OutputOf := ⟨fun _ _ hb => KS.of_body tabOk mixed (r := ⟨109, 61, ⟨[.v, .y], [(.o .v), .v], [], none⟩⟩) rfl t109 Try.func61 hb⟩
theorem t110 : trF (cfOf Try.prog tab 62 [] none) (sgOf tab) [(0, .v), (1, .y), (4, (.o .v)), (5, .v), (6, (.o .v)), (7, (.o .v)), (8, .v), (9, .v), (25, .v), (31, .v), (37, .v)] [(3, [1, 0]), (19, [1, 0]), (275, []), (12, []), (51, [1, 0]), (115, []), (243, []), (755, []), (1267, []), (243, []), (243, []), (243, []), (243, []), (243, []), (12, [])] Try.f60 ⟨[.v, .y], [(.o .v), .v], [], none⟩ = some ir_impl_OutputOf := by kernel_rfl
instance : Has K 110 ir_impl_OutputOf := ⟨fun _ _ hb => KS.of_body tabOk mixed (r := ⟨110, 60, ⟨[.v, .y], [(.o .v), .v], [], none⟩⟩) rfl t110 Try.func60 hb⟩
theorem t111 : trF (cfOf Try.prog tab 35 [] none) (sgOf tab) [(0, .v), (1, .v), (4, .v), (5, .v), (6, .v), (7, .v), (15, .v), (22, .v), (31, .v)] [(3, []), (67, []), (4, []), (10, [0, 1000, 0, 0]), (26, []), (58, []), (186, []), (314, []), (58, []), (58, []), (4, [])] Try.f73 ⟨[.v, .v], [.v], [], none⟩ = some ir_spec_CountSortable := by kernel_rfl
instance : Has K 111 ir_spec_CountSortable := ⟨fun _ _ hb => KS.of_body tabOk mixed (r := ⟨111, 73, ⟨[.v, .v], [.v], [], none⟩⟩) rfl t111 Try.func73 hb⟩
theorem t112 : trF (cfOf Try.prog tab 20 [] none) (sgOf tab) [(0, .v), (1, .v), (2, (.b .v)), (3, (.b .v)), (4, .v), (5, (.b .v)), (6, (.b .v)), (14, .v)] [(12, []), (140, []), (16, []), (44, []), (108, []), (96, [77777, 0, 0]), (32, [0, 0, 134]), (16, [])] Try.f72 ⟨[.v, .v], [.v], [], none⟩ = some ir_impl_CountSortable := by kernel_rfl
instance : Has K 112 ir_impl_CountSortable := ⟨fun _ _ hb => KS.of_body tabOk mixed (r := ⟨112, 72, ⟨[.v, .v], [.v], [], none⟩⟩) rfl t112 Try.func72 hb⟩
theorem t130 : trF (cfOf Try.prog tab 16 [] none) (sgOf tab) [(0, .y), (2, .v), (3, .v), (7, .v), (15, .v)] [(1, []), (5, []), (13, []), (21, []), (2, []), (5, []), (2, [])] Try.f169 ⟨[.y], [.v], [], none⟩ = some ir_spec_l31Sorted := by kernel_rfl
instance : Has K 130 ir_spec_l31Sorted := ⟨fun _ _ hb => KS.of_body tabOk mixed (r := ⟨130, 169, ⟨[.y], [.v], [], none⟩⟩) rfl t130 Try.func169 hb⟩
theorem t131 : trF (cfOf Try.prog tab 5 [] none) (sgOf tab) [(0, .y), (2, .v)] [(1, []), (2, [])] Try.f168 ⟨[.y], [.v], [], none⟩ = some ir_impl_ascends := by kernel_rfl
instance : Has K 131 ir_impl_ascends := ⟨fun _ _ hb => KS.of_body tabOk mixed (r := ⟨131, 168, ⟨[.y], [.v], [], none⟩⟩) rfl t131 Try.func168 hb⟩
theorem t132 : trF (cfOf Try.prog tab 9 [] none) (sgOf tab) [(0, .v), (2, .v), (5, .v)] [(1, []), (5, []), (2, []), (2, [])] Try.f174 ⟨[.v], [.v], [], none⟩ = some ir_impl_SizeOf := by kernel_rfl
instance : Has K 132 ir_impl_SizeOf := ⟨fun _ _ hb => KS.of_body tabOk mixed (r := ⟨132, 174, ⟨[.v], [.v], [], none⟩⟩) rfl t132 Try.func174 hb⟩
theorem t133 : trF (cfOf Try.prog tab 49 [] none) (sgOf tab) [(0, .v), (1, .v), (4, (.o .v)), (5, (.o .v)), (6, .v), (7, .v), (8, .v), (12, .v), (18, .v), (24, .v), (37, .v)] [(3, [1]), (131, []), (4, [0, 1, 0]), (11, [1, 0]), (27, []), (283, []), (59, []), (123, []), (635, []), (123, []), (123, []), (1051, []), (27, [0, 0, 1, 0, 0, 0, 0, 1000, 0, 0, 0]), (27, []), (4, [])] Try.f178 ⟨[.v, .v], [(.o .v)], [], none⟩ = some ir_spec_l10All := by kernel_rfl
instance : Has K 133 ir_spec_l10All := ⟨fun _ _ hb => KS.of_body tabOk mixed (r := ⟨133, 178, ⟨[.v, .v], [(.o .v)], [], none⟩⟩) rfl t133 Try.func178 hb⟩
theorem t134 : trF (cfOf Try.prog tab 33 [1, 2, 3] (some (4, 134, [1, 2, 3, 4]))) (sgOf tab) [(0, .y), (1, (.b .v)), (2, (.b .v)), (3, (.b .v)), (4, .v), (6, .v), (10, .v), (14, .v), (17, .v), (18, .v), (19, .v), (24, .v)] [(95, []), (142, []), (14, []), (799, []), (1823, []), (831, []), (2879, []), (799, [0, 0, 0, 0, 0, 0, 134]), (799, [])] Try.f176 ⟨[.y, (.b .v), (.b .v), (.b .v), .v], [], [1, 2, 3], (some (4, 134, [1, 2, 3, 4]))⟩ = some ir_impl_CountSortable_f1 := by kernel_rfl
instance : Has K 134 ir_impl_CountSortable_f1 := ⟨fun _ _ hb => KS.of_body tabOk mixed (r := ⟨134, 176, ⟨[.y, (.b .v), (.b .v), (.b .v), .v], [], [1, 2, 3], (some (4, 134, [1, 2, 3, 4]))⟩⟩) rfl t134 Try.func176 hb⟩
theorem t135 : trF (cfOf Try.prog tab 9 [] none) (sgOf tab) [(0, .y), (1, .v), (4, .v)] [(3, []), (4, [])] Try.f177 ⟨[.y, .v], [.v], [], none⟩ = some ir_slices_Contains___int_int_ := by kernel_rfl
instance : Has K 135 ir_slices_Contains___int_int_ := ⟨fun _ _ hb => KS.of_body tabOk mixed (r := ⟨135, 177, ⟨[.y, .v], [.v], [], none⟩⟩) rfl t135 Try.func177 hb⟩
theorem t156 : trF (cfOf Try.prog tab 54 [] none) (sgOf tab) [(0, .y), (2, .v), (3, .v), (4, .v), (5, (.o .v)), (6, .v), (7, .v), (14, .v), (19, .v), (43, .v)] [(1, []), (129, []), (6, []), (9, []), (25, [1, 0]), (57, []), (121, []), (377, []), (121, []), (121, []), (633, []), (121, []), (121, []), (121, []), (121, []), (6, [])] Try.f62 ⟨[.y], [.v, .v], [], none⟩ = some ir_spec_PathOfPermutation := by kernel_rfl
instance : Has K 156 ir_spec_PathOfPermutation := ⟨fun _ _ hb => KS.of_body tabOk mixed (r := ⟨156, 62, ⟨[.y], [.v, .v], [], none⟩⟩) rfl t156 Try.func62 hb⟩
theorem t178 : trF (cfOf Try.prog tab 21 [] none) (sgOf tab) [(0, .y), (2, .v), (3, .v), (8, .v), (20, .v)] [(1, []), (5, []), (13, []), (21, []), (2, []), (5, []), (2, [])] Try.f207 ⟨[.y], [.v], [], none⟩ = some ir_slices_IsSorted___int_int_ := by kernel_rfl
instance : Has K 178 ir_slices_IsSorted___int_int_ := ⟨fun _ _ hb => KS.of_body tabOk mixed (r := ⟨178, 207, ⟨[.y], [.v], [], none⟩⟩) rfl t178 Try.func207 hb⟩
theorem t179 : trF (cfOf Try.prog tab 19 [] none) (sgOf tab) [(0, .y), (1, .v), (4, .v), (5, .v), (7, .v), (8, .v), (9, .v), (16, .v)] [(3, []), (51, []), (115, []), (59, []), (187, []), (4, []), (51, []), (4, [])] Try.f208 ⟨[.y, .v], [.v], [], none⟩ = some ir_slices_Index___int_int_ := by kernel_rfl
instance : Has K 179 ir_slices_Index___int_int_ := ⟨fun _ _ hb => KS.of_body tabOk mixed (r := ⟨179, 208, ⟨[.y, .v], [.v], [], none⟩⟩) rfl t179 Try.func208 hb⟩
theorem t186 : trF (cfOf Try.prog tab 52 [] none) (sgOf tab) [(0, .y), (2, .v), (3, .v), (4, .v), (5, .v), (13, .v), (21, .v), (29, .v), (51, .v)] [(1, []), (5, []), (37, []), (13, []), (77, []), (29, []), (157, []), (285, []), (2, []), (29, []), (13, []), (5, []), (2, [])] Try.f66 ⟨[.y], [.v], [], none⟩ = some ir_spec_Contains231 := by kernel_rfl
instance : Has K 186 ir_spec_Contains231 := ⟨fun _ _ hb => KS.of_body tabOk mixed (r := ⟨186, 66, ⟨[.y], [.v], [], none⟩⟩) rfl t186 Try.func66 hb⟩
theorem t187 : trF (cfOf Try.prog tab 5 [] none) (sgOf tab) [(0, .y), (2, .v)] [(1, []), (2, [])] Try.f56 ⟨[.y], [.v], [], none⟩ = some ir_impl_Contains231 := by kernel_rfl
instance : Has K 187 ir_impl_Contains231 := ⟨fun _ _ hb => KS.of_body tabOk mixed (r := ⟨187, 56, ⟨[.y], [.v], [], none⟩⟩) rfl t187 Try.func56 hb⟩
theorem t203 : trF (cfOf Try.prog tab 17 [] none) (sgOf tab) [(0, .v), (1, .v), (4, .v)] [(3, []), (4, [])] Try.f211 ⟨[.v, .v], [.v], [], none⟩ = some ir_cmp_Less_int_ := by kernel_rfl
instance : Has K 203 ir_cmp_Less_int_ := ⟨fun _ _ hb => KS.of_body tabOk mixed (r := ⟨203, 211, ⟨[.v, .v], [.v], [], none⟩⟩) rfl t203 Try.func211 hb⟩
theorem t205 : trF (cfOf Try.prog tab 47 [] none) (sgOf tab) [(0, .y), (1, .v), (4, .v), (5, .v), (6, .v), (7, .v), (10, .v), (12, .v), (13, .v), (14, .v), (21, .v), (29, .v), (45, .v)] [(3, []), (67, []), (4, []), (387, []), (899, []), (395, []), (411, []), (1435, []), (443, []), (2491, []), (4539, [0, 0, 0, 0, 0, 0, 0, 0, 0, 0, 0, 0, 0, 206]), (4, []), (443, []), (411, []), (387, []), (4, [])] Try.f170 ⟨[.y, .v], [.v], [], none⟩ = some ir_impl_hasTriple := by kernel_rfl
instance : Has K 205 ir_impl_hasTriple := ⟨fun _ _ hb => KS.of_body tabOk mixed (r := ⟨205, 170, ⟨[.y, .v], [.v], [], none⟩⟩) rfl t205 Try.func170 hb⟩
theorem t206 : trF (cfOf Try.prog tab 15 [] none) (sgOf tab) [(0, .v), (1, .v), (2, .v), (6, .v)] [(7, []), (8, [])] Try.f171 ⟨[.v, .v, .v], [.v], [], none⟩ = some ir_impl_Contains231_f1 := by kernel_rfl
instance : Has K 206 ir_impl_Contains231_f1 := ⟨fun _ _ hb => KS.of_body tabOk mixed (r := ⟨206, 171, ⟨[.v, .v, .v], [.v], [], none⟩⟩) rfl t206 Try.func171 hb⟩
theorem t211 : trF (cfOf Try.prog tab 6 [] none) (sgOf tab) [(0, .v), (2, .v)] [(1, []), (2, [])] Try.f212 ⟨[.v], [.v], [], none⟩ = some ir_cmp_isNaN_int_ := by kernel_rfl
instance : Has K 211 ir_cmp_isNaN_int_ := ⟨fun _ _ hb => KS.of_body tabOk mixed (r := ⟨211, 212, ⟨[.v], [.v], [], none⟩⟩) rfl t211 Try.func212 hb⟩
theorem t216 : trF (cfOf Try.prog tab 250 [] none) (sgOf tab) [(0, .v), (2, .v), (3, .v), (4, .v), (5, .v), (6, .v), (7, .v), (8, .v), (9, .v), (10, .v), (11, .v), (12, .v), (13, .v), (14, .v), (15, .v), (16, .v), (17, .v), (18, .v), (19, .v), (20, .v), (21, .v), (22, .v), (23, .v), (24, .v), (25, .v), (26, .v), (27, .v), (28, .v), (29, .v), (30, .v), (31, .v), (32, .v), (34, .v), (73, .v), (112, .v), (138, .v), (144, .v), (154, .v), (162, .v), (164, .v), (191, .v), (222, .v)] [(1, []), (4294967297, []), (2, []), (5, []), (29, []), (125, []), (8589934645, []), (2, []), (181, []), (17179869185, []), (2, []), (769, []), (3841, []), (15873, []), (34359738881, []), (2, []), (49665, []), (68719493633, []), (196609, []), (458753, []), (137439412225, []), (274878365697, []), (2, []), (458753, []), (549755813889, []), (2, []), (524289, []), (3670017, []), (16252929, []), (1099511627777, []), (2, []), (16777217, []), (117440513, []), (520093697, []), (2199023255553, []), (2, []), (1610612736, []), (3758096384, []), (2, [])] Try.f6 ⟨[.v], [.v], [], none⟩ = some ir_laws_FnMachines := by kernel_rfl
instance : Has K 216 ir_laws_FnMachines := ⟨fun _ _ hb => KS.of_body tabOk mixed (r := ⟨216, 6, ⟨[.v], [.v], [], none⟩⟩) rfl t216 Try.func6 hb⟩
theorem t220 : trF (cfOf Try.prog tab 6 [] none) (sgOf tab) [(0, .v), (2, .v)] [(1, []), (2, [])] Try.f12 ⟨[.v], [.v], [], none⟩ = some ir_laws_big := by kernel_rfl
instance : Has K 220 ir_laws_big := ⟨fun _ _ hb => KS.of_body tabOk mixed (r := ⟨220, 12, ⟨[.v], [.v], [], none⟩⟩) rfl t220 Try.func12 hb⟩
theorem t238 : trF (cfOf Try.prog tab 6 [] none) (sgOf tab) [(0, .v), (2, (.o .v))] [(1, [1]), (2, [])] Try.f50 ⟨[.v], [(.o .v)], [], none⟩ = some ir_spec_DrawSortOnce := by kernel_rfl
instance : Has K 238 ir_spec_DrawSortOnce := ⟨fun _ _ hb => KS.of_body tabOk mixed (r := ⟨238, 50, ⟨[.v], [(.o .v)], [], none⟩⟩) rfl t238 Try.func50 hb⟩
theorem t239 : trF (cfOf Try.prog tab 26 [] none) (sgOf tab) [(0, .y), (1, .y), (4, .v), (5, .v), (10, .v), (14, .v), (25, .v)] [(3, []), (19, []), (4, []), (11, []), (43, []), (75, []), (4, []), (11, []), (4, [])] Try.f53 ⟨[.y, .y], [.v], [], none⟩ = some ir_laws_sameInts := by kernel_rfl
instance : Has K 239 ir_laws_sameInts := ⟨fun _ _ hb => KS.of_body tabOk mixed (r := ⟨239, 53, ⟨[.y, .y], [.v], [], none⟩⟩) rfl t239 Try.func53 hb⟩
theorem t240 : trF (cfOf Try.prog tab 32 [] none) (sgOf tab) [(0, .v), (2, .v), (3, (.o .v)), (4, (.b .v)), (5, (.o .v)), (6, .v), (7, .v), (8, .v), (27, .v)] [(1, [0, 1]), (8, []), (24, []), (56, []), (248, []), (368, []), (6, []), (6, [])] Try.f59 ⟨[.v], [.v, (.o .v)], [], none⟩ = some ir_spec_DrawOutputOf := by kernel_rfl
instance : Has K 240 ir_spec_DrawOutputOf := ⟨fun _ _ hb => KS.of_body tabOk mixed (r := ⟨240, 59, ⟨[.v], [.v, (.o .v)], [], none⟩⟩) rfl t240 Try.func59 hb⟩
theorem t241 : trF (cfOf Try.prog tab 6 [] none) (sgOf tab) [(0, .v), (2, (.o .v))] [(1, [1]), (2, [])] Try.f63 ⟨[.v], [(.o .v)], [], none⟩ = some ir_spec_DrawPatternOf231 := by kernel_rfl
instance : Has K 241 ir_spec_DrawPatternOf231 := ⟨fun _ _ hb => KS.of_body tabOk mixed (r := ⟨241, 63, ⟨[.v], [(.o .v)], [], none⟩⟩) rfl t241 Try.func63 hb⟩
theorem t242 : trF (cfOf Try.prog tab 6 [] none) (sgOf tab) [(0, .v), (2, (.o .v))] [(1, [1]), (2, [])] Try.f67 ⟨[.v], [(.o .v)], [], none⟩ = some ir_spec_DrawBubbleOnce := by kernel_rfl
instance : Has K 242 ir_spec_DrawBubbleOnce := ⟨fun _ _ hb => KS.of_body tabOk mixed (r := ⟨242, 67, ⟨[.v], [(.o .v)], [], none⟩⟩) rfl t242 Try.func67 hb⟩
theorem t243 : trF (cfOf Try.prog tab 35 [] none) (sgOf tab) [(0, .y), (2, .v), (3, .v), (4, .v), (5, .v), (7, .v), (10, .v), (11, .y), (12, .v), (13, .v), (14, .v), (21, .y), (22, .v), (23, .v), (24, .v), (29, .v)] [(1, []), (65, []), (2, []), (5, []), (901, []), (1925, []), (925, []), (15253, []), (31637, []), (15285, []), (48021, []), (15253, []), (15253, []), (901, []), (2, [])] Try.f70 ⟨[.y], [.v], [], none⟩ = some ir_impl_InversionsOf := by kernel_rfl
instance : Has K 243 ir_impl_InversionsOf := ⟨fun _ _ hb => KS.of_body tabOk mixed (r := ⟨243, 70, ⟨[.y], [.v], [], none⟩⟩) rfl t243 Try.func70 hb⟩
theorem t244 : trF (cfOf Try.prog tab 14 [] none) (sgOf tab) [(0, .v), (2, .v), (3, .v), (4, (.b .v)), (5, .v)] [(1, []), (8, []), (24, []), (6, [])] Try.f71 ⟨[.v], [.v, .v], [], none⟩ = some ir_spec_DrawCountSortable := by kernel_rfl
instance : Has K 244 ir_spec_DrawCountSortable := ⟨fun _ _ hb => KS.of_body tabOk mixed (r := ⟨244, 71, ⟨[.v], [.v, .v], [], none⟩⟩) rfl t244 Try.func71 hb⟩
theorem t288 : trF (cfOf Try.prog tab 32 [] none) (sgOf tab) [(0, .v), (2, (.b .v)), (3, .v), (4, .v), (15, .v)] [(1, []), (5, []), (13, []), (29, []), (13, []), (13, []), (2, [0, 0, 0, 1, 0])] Try.f136 ⟨[.v], [(.b .v)], [], none⟩ = some ir_spec_l1New := by kernel_rfl
instance : Has K 288 ir_spec_l1New := ⟨fun _ _ hb => KS.of_body tabOk mixed (r := ⟨288, 136, ⟨[.v], [(.b .v)], [], none⟩⟩) rfl t288 Try.func136 hb⟩
theorem t289 : trF (cfOf Try.prog tab 37 [0] none) (sgOf tab) [(0, (.b .v)), (1, .v), (4, .v), (5, .v), (6, .v), (7, .v), (8, .v), (10, .v), (12, .v)] [(3, []), (131, []), (5, []), (259, []), (5, []), (11, []), (27, []), (59, []), (123, []), (5, [])] Try.f142 ⟨[(.b .v), .v], [.v], [0], none⟩ = some ir_spec_l1Below := by kernel_rfl
instance : Has K 289 ir_spec_l1Below := ⟨fun _ _ hb => KS.of_body tabOk mixed (r := ⟨289, 142, ⟨[(.b .v), .v], [.v], [0], none⟩⟩) rfl t289 Try.func142 hb⟩
theorem t305 : trF (cfOf Try.prog tab 53 [0] none) (sgOf tab) [(0, (.b .v)), (2, (.o .v)), (3, (.o .v)), (5, .v), (6, .v), (14, .v), (19, .v), (46, .v), (3, .v)] [(1, [1]), (5, []), (37, []), (5, [1, 0]), (13, []), (77, []), (281, []), (13, [1, 0, 0, 0, 0, 0, 0, 0, 0, 0, 0, 0, 0, 0]), (13, []), (133, []), (5, []), (3, [])] Try.f163 ⟨[(.b .v)], [(.o .v)], [0], none⟩ = some ir_spec_l10Any := by kernel_rfl
instance : Has K 305 ir_spec_l10Any := ⟨fun _ _ hb => KS.of_body tabOk mixed (r := ⟨305, 163, ⟨[(.b .v)], [(.o .v)], [0], none⟩⟩) rfl t305 Try.func163 hb⟩
theorem t306 : trF (cfOf Try.prog tab 32 [0] none) (sgOf tab) [(0, (.b .v)), (1, .v), (4, .v), (5, .v), (6, .v), (7, .v), (10, .v), (22, .v)] [(3, []), (11, []), (27, []), (59, []), (123, []), (187, []), (59, []), (59, []), (59, []), (59, []), (5, [])] Try.f172 ⟨[(.b .v), .v], [.v], [0], none⟩ = some ir_spec_l2Draw := by kernel_rfl
instance : Has K 306 ir_spec_l2Draw := ⟨fun _ _ hb => KS.of_body tabOk mixed (r := ⟨306, 172, ⟨[(.b .v), .v], [.v], [0], none⟩⟩) rfl t306 Try.func172 hb⟩
theorem t307 : trF (cfOf Try.prog tab 9 [0] none) (sgOf tab) [(0, (.b .v)), (1, .v), (4, .v)] [(3, []), (5, [])] Try.f173 ⟨[(.b .v), .v], [.v], [0], none⟩ = some ir_spec_l1Once := by kernel_rfl
instance : Has K 307 ir_spec_l1Once := ⟨fun _ _ hb => KS.of_body tabOk mixed (r := ⟨307, 173, ⟨[(.b .v), .v], [.v], [0], none⟩⟩) rfl t307 Try.func173 hb⟩
theorem t313 : trF (cfOf Try.prog tab 12 [0] none) (sgOf tab) [(0, (.b .v)), (1, .y), (4, .v)] [(3, []), (5, [])] Try.f193 ⟨[(.b .v), .y], [.v], [0], none⟩ = some ir_spec_l1PickInt := by kernel_rfl
instance : Has K 313 ir_spec_l1PickInt := ⟨fun _ _ hb => KS.of_body tabOk mixed (r := ⟨313, 193, ⟨[(.b .v), .y], [.v], [0], none⟩⟩) rfl t313 Try.func193 hb⟩
theorem t316 : trF (cfOf Try.prog tab 58 [0] none) (sgOf tab) [(0, (.b .v)), (2, .v), (3, .v), (34, .v)] [(1, []), (1, []), (5, []), (13, []), (5, []), (5, []), (3, [])] Try.f196 ⟨[(.b .v)], [.v], [0], none⟩ = some ir_spec_l1Byte := by kernel_rfl
instance : Has K 316 ir_spec_l1Byte := ⟨fun _ _ hb => KS.of_body tabOk mixed (r := ⟨316, 196, ⟨[(.b .v)], [.v], [0], none⟩⟩) rfl t316 Try.func196 hb⟩
theorem t317 : trF (cfOf Try.prog tab 7 [0] none) (sgOf tab) [(0, (.b .v)), (2, .v)] [(1, []), (3, [])] Try.f197 ⟨[(.b .v)], [.v], [0], none⟩ = some ir_spec_l2Path := by kernel_rfl
instance : Has K 317 ir_spec_l2Path := ⟨fun _ _ hb => KS.of_body tabOk mixed (r := ⟨317, 197, ⟨[(.b .v)], [.v], [0], none⟩⟩) rfl t317 Try.func197 hb⟩
theorem t325 : trF (cfOf Try.prog tab 51 [] none) (sgOf tab) [(0, .v), (2, (.o .v)), (3, .v), (4, (.o .v)), (5, (.o .v)), (6, .v), (7, .v), (8, .v), (11, .v), (21, .v), (27, .v)] [(1, [1, 0]), (257, []), (6, [1, 0, 0]), (9, [0, 0, 0, 1, 0]), (25, [1, 0]), (57, []), (121, []), (249, []), (761, []), (1273, []), (249, []), (249, []), (249, []), (249, []), (249, []), (249, []), (6, [])] Try.f206 ⟨[.v], [(.o .v), .v], [], none⟩ = some ir_spec_PermutationOf := by kernel_rfl
instance : Has K 325 ir_spec_PermutationOf := ⟨fun _ _ hb => KS.of_body tabOk mixed (r := ⟨325, 206, ⟨[.v], [(.o .v), .v], [], none⟩⟩) rfl t325 Try.func206 hb⟩
end Go.Proofs.Ytfjkbocblpjpjaa.fnMachines

