/-
  Texts of the little language.
-/
import Derived.Test.YtfjkbocblpjpjaaIrAllA
import Derived.Test.YtfjkbocblpjpjaaRows
import Derived.Test.YtfjkbocblpjpjaaCatThree
namespace Go.Proofs.Ytfjkbocblpjpjaa.fnMotzkin
open Go Go.Cat Go.Proofs
set_option maxRecDepth 100000
def tab : List Row := [⟨10, 40, ⟨[.v, .v], [.v], [], none⟩⟩,
  ⟨22, 132, ⟨[.v, .v, .v], [.v], [], none⟩⟩,
  ⟨23, 134, ⟨[.v, .v, .v], [.v], [], none⟩⟩,
  ⟨25, 149, ⟨[.v, .v], [.v], [], none⟩⟩,
  ⟨27, 129, ⟨[.v, .v], [.v], [], none⟩⟩,
  ⟨28, 41, ⟨[.v], [.v], [], none⟩⟩,
  ⟨64, 144, ⟨[.v], [.v], [], none⟩⟩,
  ⟨66, 140, ⟨[.v, .v], [.v], [], none⟩⟩,
  ⟨67, 23, ⟨[.v], [.v], [], none⟩⟩,
  ⟨82, 141, ⟨[.v], [(.o .v), .v], [], none⟩⟩,
  ⟨218, 8, ⟨[.v], [.v], [], none⟩⟩,
  ⟨220, 12, ⟨[.v], [.v], [], none⟩⟩,
  ⟨252, 96, ⟨[.v], [.v], [], none⟩⟩,
  ⟨253, 97, ⟨[.v], [(.o .v), .v], [], none⟩⟩,
  ⟨254, 98, ⟨[.v], [(.o .v), .v], [], none⟩⟩,
  ⟨255, 99, ⟨[.y, .y], [.v], [], none⟩⟩,
  ⟨256, 100, ⟨[.v], [.v], [], none⟩⟩,
  ⟨257, 101, ⟨[.v], [.v], [], none⟩⟩,
  ⟨258, 102, ⟨[.v], [.v], [], none⟩⟩,
  ⟨259, 103, ⟨[.v], [.v, .v], [], none⟩⟩,
  ⟨260, 104, ⟨[.v], [.v, .v], [], none⟩⟩,
  ⟨261, 105, ⟨[.v], [.v, .v], [], none⟩⟩,
  ⟨262, 106, ⟨[.v], [.v], [], none⟩⟩,
  ⟨263, 107, ⟨[.v], [.v, .v], [], none⟩⟩,
  ⟨264, 108, ⟨[.v], [.v], [], none⟩⟩,
  ⟨265, 109, ⟨[.v], [.v], [], none⟩⟩,
  ⟨266, 110, ⟨[.v], [.v], [], none⟩⟩,
  ⟨267, 111, ⟨[.v], [.v], [], none⟩⟩,
  ⟨268, 112, ⟨[.v], [.v], [], none⟩⟩,
  ⟨269, 113, ⟨[.v], [.v], [], none⟩⟩,
  ⟨288, 136, ⟨[.v], [(.b .v)], [], none⟩⟩,
  ⟨289, 142, ⟨[(.b .v), .v], [.v], [0], none⟩⟩,
  ⟨290, 143, ⟨[(.b .v)], [.v], [0], none⟩⟩,
  ⟨306, 172, ⟨[(.b .v), .v], [.v], [0], none⟩⟩,
  ⟨307, 173, ⟨[(.b .v), .v], [.v], [0], none⟩⟩,
  ⟨309, 189, ⟨[.v, .v, (.b .v), (.b (.o .v)), .v], [], [2, 3], (some (4, 309, [2, 3, 4]))⟩⟩,
  ⟨310, 190, ⟨[.v, .v, .v], [(.o .v)], [], none⟩⟩,
  ⟨311, 191, ⟨[.v], [.v], [], none⟩⟩,
  ⟨312, 192, ⟨[(.b .v)], [.v], [0], none⟩⟩,
  ⟨315, 195, ⟨[(.b .v), .v], [.v], [0], none⟩⟩,
  ⟨316, 196, ⟨[(.b .v)], [.v], [0], none⟩⟩,
  ⟨317, 197, ⟨[(.b .v)], [.v], [0], none⟩⟩,
  ⟨318, 198, ⟨[(.b .v), .y], [.v], [0], none⟩⟩,
  ⟨327, 210, ⟨[(.b .v), .v], [.v], [0], none⟩⟩]
theorem tabOk : tabOK Try.prog tab = true := by kernel_rfl
theorem mixed : Try.prog.follows .mixedOrders = true := Try.checked.mixed
abbrev K := KS Try.prog tab
theorem t10 : trF (cfOf Try.prog tab 18 [] none) (sgOf tab) [(0, .v), (1, .v), (4, .v), (12, .v)] [(3, []), (11, []), (4, []), (4, [])] Try.f40 ⟨[.v, .v], [.v], [], none⟩ = some ir_impl_CountWords := by kernel_rfl
instance : Has K 10 ir_impl_CountWords := ⟨fun _ _ hb => KS.of_body tabOk mixed (r := ⟨10, 40, ⟨[.v, .v], [.v], [], none⟩⟩) rfl t10 Try.func40 hb⟩
theorem t22 : trF (cfOf Try.prog tab 15 [] none) (sgOf tab) [(0, .v), (1, .v), (2, .v), (6, .v)] [(7, []), (8, [])] Try.f132 ⟨[.v, .v, .v], [.v], [], none⟩ = some ir_spec_l1In := by kernel_rfl
instance : Has K 22 ir_spec_l1In := ⟨fun _ _ hb => KS.of_body tabOk mixed (r := ⟨22, 132, ⟨[.v, .v, .v], [.v], [], none⟩⟩) rfl t22 Try.func132 hb⟩
theorem t23 : trF (cfOf Try.prog tab 15 [] none) (sgOf tab) [(0, .v), (1, .v), (2, .v), (6, .v)] [(7, []), (8, [])] Try.f134 ⟨[.v, .v, .v], [.v], [], none⟩ = some ir_impl_within := by kernel_rfl
instance : Has K 23 ir_impl_within := ⟨fun _ _ hb => KS.of_body tabOk mixed (r := ⟨23, 134, ⟨[.v, .v, .v], [.v], [], none⟩⟩) rfl t23 Try.func134 hb⟩
theorem t25 : trF (cfOf Try.prog tab 29 [] none) (sgOf tab) [(0, .v), (1, .v), (4, .v), (5, .v), (6, .v), (13, .v), (16, .v)] [(3, []), (35, []), (4, []), (11, []), (27, []), (91, []), (27, []), (27, []), (4, [])] Try.f149 ⟨[.v, .v], [.v], [], none⟩ = some ir_impl_choose := by kernel_rfl
instance : Has K 25 ir_impl_choose := ⟨fun _ _ hb => KS.of_body tabOk mixed (r := ⟨25, 149, ⟨[.v, .v], [.v], [], none⟩⟩) rfl t25 Try.func149 hb⟩
theorem t27 : trF (cfOf Try.prog tab 73 [] none) (sgOf tab) [(0, .v), (1, .v), (4, .v), (5, (.o .v)), (6, .v), (7, .v), (8, (.o .v)), (9, .v), (18, .v), (23, .v), (24, .v), (25, .v), (33, .v), (42, .v), (54, .v)] [(3, []), (259, []), (4, []), (11, [0, 0, 1, 0]), (1547, []), (3595, []), (1563, []), (1547, []), (1547, []), (43, []), (4139, []), (107, [0, 0, 1, 0]), (235, []), (8427, []), (235, []), (16619, []), (235, []), (235, []), (43, []), (43, []), (4, [])] Try.f129 ⟨[.v, .v], [.v], [], none⟩ = some ir_impl_BallotNumber := by kernel_rfl
instance : Has K 27 ir_impl_BallotNumber := ⟨fun _ _ hb => KS.of_body tabOk mixed (r := ⟨27, 129, ⟨[.v, .v], [.v], [], none⟩⟩) rfl t27 Try.func129 hb⟩
theorem t28 : trF (cfOf Try.prog tab 9 [] none) (sgOf tab) [(0, .v), (2, .v), (5, .v)] [(1, []), (5, []), (2, []), (2, [])] Try.f41 ⟨[.v], [.v], [], none⟩ = some ir_impl_CatalanNumber := by kernel_rfl
instance : Has K 28 ir_impl_CatalanNumber := ⟨fun _ _ hb => KS.of_body tabOk mixed (r := ⟨28, 41, ⟨[.v], [.v], [], none⟩⟩) rfl t28 Try.func41 hb⟩
theorem t64 : trF (cfOf Try.prog tab 31 [] none) (sgOf tab) [(0, .v), (2, .v), (3, .v), (4, .v), (8, .v), (13, .v), (14, .v), (18, .v), (23, .v)] [(1, []), (5, []), (13, []), (29, []), (45, []), (109, []), (13, []), (141, []), (13, []), (2, []), (269, []), (2, []), (13, []), (2, [])] Try.f144 ⟨[.v], [.v], [], none⟩ = some ir_spec_IsDyck := by kernel_rfl
instance : Has K 64 ir_spec_IsDyck := ⟨fun _ _ hb => KS.of_body tabOk mixed (r := ⟨64, 144, ⟨[.v], [.v], [], none⟩⟩) rfl t64 Try.func144 hb⟩
theorem t66 : trF (cfOf Try.prog tab 21 [] none) (sgOf tab) [(0, .v), (1, .v), (4, .v), (5, .v), (6, .v), (10, .v), (17, .v)] [(3, []), (11, []), (27, []), (59, []), (91, []), (27, []), (27, []), (4, [])] Try.f140 ⟨[.v, .v], [.v], [], none⟩ = some ir_impl_count := by kernel_rfl
instance : Has K 66 ir_impl_count := ⟨fun _ _ hb => KS.of_body tabOk mixed (r := ⟨66, 140, ⟨[.v, .v], [.v], [], none⟩⟩) rfl t66 Try.func140 hb⟩
theorem t67 : trF (cfOf Try.prog tab 14 [] none) (sgOf tab) [(0, .v), (2, .v), (4, .v), (7, .v)] [(1, []), (9, []), (2, []), (4, []), (2, [])] Try.f23 ⟨[.v], [.v], [], none⟩ = some ir_impl_IsDyck := by kernel_rfl
instance : Has K 67 ir_impl_IsDyck := ⟨fun _ _ hb => KS.of_body tabOk mixed (r := ⟨67, 23, ⟨[.v], [.v], [], none⟩⟩) rfl t67 Try.func23 hb⟩
theorem t82 : trF (cfOf Try.prog tab 34 [] none) (sgOf tab) [(0, .v), (2, (.o .v)), (3, .v), (4, (.o .v)), (5, .v), (6, .v), (11, .v), (16, .v), (17, .v), (21, .v), (26, .v)] [(1, [1, 0]), (9, [1, 0]), (25, []), (57, []), (121, []), (185, []), (441, []), (57, []), (569, []), (57, []), (6, [1, 0]), (1081, []), (6, [1, 0]), (57, []), (57, []), (6, [])] Try.f141 ⟨[.v], [(.o .v), .v], [], none⟩ = some ir_impl_heights := by kernel_rfl
instance : Has K 82 ir_impl_heights := ⟨fun _ _ hb => KS.of_body tabOk mixed (r := ⟨82, 141, ⟨[.v], [(.o .v), .v], [], none⟩⟩) rfl t82 Try.func141 hb⟩
theorem t218 : trF (cfOf Try.prog tab 185 [] none) (sgOf tab) [(0, .v), (2, .v), (3, .v), (4, .v), (5, .v), (6, .v), (7, .v), (8, .v), (9, .v), (10, .v), (11, .v), (12, .v), (13, .v), (14, .v), (15, .v), (16, .v), (17, .v), (18, .v), (19, .v), (20, .v), (21, .v), (22, .v), (23, .v), (24, .v), (26, .v), (57, .v), (61, .v), (78, .v), (79, .v), (83, .v), (101, .v), (121, .v), (122, .v), (139, .v)] [(1, []), (16777217, []), (2, []), (5, []), (29, []), (125, []), (33554485, []), (2, []), (181, []), (67109045, []), (134217909, []), (2, []), (181, []), (268435493, []), (293, []), (805, []), (536871717, []), (805, []), (805, []), (1073741825, []), (2, []), (1025, []), (7169, []), (31745, []), (2147496961, []), (2, []), (4294976513, []), (107521, []), (8589934593, []), (2, []), (131073, []), (917505, []), (3932161, []), (8126465, []), (16515072, []), (2, [])] Try.f8 ⟨[.v], [.v], [], none⟩ = some ir_laws_FnMotzkin := by kernel_rfl
instance : Has K 218 ir_laws_FnMotzkin := ⟨fun _ _ hb => KS.of_body tabOk mixed (r := ⟨218, 8, ⟨[.v], [.v], [], none⟩⟩) rfl t218 Try.func8 hb⟩
theorem t220 : trF (cfOf Try.prog tab 6 [] none) (sgOf tab) [(0, .v), (2, .v)] [(1, []), (2, [])] Try.f12 ⟨[.v], [.v], [], none⟩ = some ir_laws_big := by kernel_rfl
instance : Has K 220 ir_laws_big := ⟨fun _ _ hb => KS.of_body tabOk mixed (r := ⟨220, 12, ⟨[.v], [.v], [], none⟩⟩) rfl t220 Try.func12 hb⟩
theorem t252 : trF (cfOf Try.prog tab 7 [] none) (sgOf tab) [(0, .v), (2, .v)] [(1, []), (2, [])] Try.f96 ⟨[.v], [.v], [], none⟩ = some ir_spec_DrawMotzkinPaths := by kernel_rfl
instance : Has K 252 ir_spec_DrawMotzkinPaths := ⟨fun _ _ hb => KS.of_body tabOk mixed (r := ⟨252, 96, ⟨[.v], [.v], [], none⟩⟩) rfl t252 Try.func96 hb⟩
theorem t253 : trF (cfOf Try.prog tab 15 [] none) (sgOf tab) [(0, .v), (1, (.b .v)), (2, (.o .v)), (3, .v), (4, (.b (.o .v))), (5, (.b .v)), (9, .v)] [(2, [0, 1, 0]), (18, [1, 1, 0]), (82, []), (12, [1, 0, 0]), (50, []), (48, [77777, 0, 0]), (16, [0, 309]), (12, [1, 0, 0])] Try.f97 ⟨[.v], [(.o .v), .v], [], none⟩ = some ir_impl_MotzkinPaths := by kernel_rfl
instance : Has K 253 ir_impl_MotzkinPaths := ⟨fun _ _ hb => KS.of_body tabOk mixed (r := ⟨253, 97, ⟨[.v], [(.o .v), .v], [], none⟩⟩) rfl t253 Try.func97 hb⟩
theorem t254 : trF (cfOf Try.prog tab 10 [] none) (sgOf tab) [(0, .v), (2, (.o .v)), (3, .v), (6, .v)] [(1, [1, 0]), (9, []), (6, [1, 0, 0]), (6, [])] Try.f98 ⟨[.v], [(.o .v), .v], [], none⟩ = some ir_spec_MotzkinPaths := by kernel_rfl
instance : Has K 254 ir_spec_MotzkinPaths := ⟨fun _ _ hb => KS.of_body tabOk mixed (r := ⟨254, 98, ⟨[.v], [(.o .v), .v], [], none⟩⟩) rfl t254 Try.func98 hb⟩
theorem t255 : trF (cfOf Try.prog tab 26 [] none) (sgOf tab) [(0, .y), (1, .y), (4, .v), (5, .v), (10, .v), (14, .v), (25, .v)] [(3, []), (19, []), (4, []), (11, []), (43, []), (75, []), (4, []), (11, []), (4, [])] Try.f99 ⟨[.y, .y], [.v], [], none⟩ = some ir_laws_sameWords := by kernel_rfl
instance : Has K 255 ir_laws_sameWords := ⟨fun _ _ hb => KS.of_body tabOk mixed (r := ⟨255, 99, ⟨[.y, .y], [.v], [], none⟩⟩) rfl t255 Try.func99 hb⟩
theorem t256 : trF (cfOf Try.prog tab 58 [] none) (sgOf tab) [(0, .v), (2, .v), (3, (.o .v)), (4, (.o .v)), (5, .v), (8, .v), (14, .v), (15, .v), (16, .v), (22, .v), (39, .v)] [(1, []), (33, []), (2, []), (5, [0, 0, 1, 0]), (5, []), (197, []), (453, []), (205, [0, 0, 1, 0]), (221, []), (733, []), (221, []), (1245, []), (221, []), (221, []), (197, []), (197, []), (2, [])] Try.f100 ⟨[.v], [.v], [], none⟩ = some ir_impl_MotzkinNumber := by kernel_rfl
instance : Has K 256 ir_impl_MotzkinNumber := ⟨fun _ _ hb => KS.of_body tabOk mixed (r := ⟨256, 100, ⟨[.v], [.v], [], none⟩⟩) rfl t256 Try.func100 hb⟩
theorem t257 : trF (cfOf Try.prog tab 10 [] none) (sgOf tab) [(0, .v), (2, .v)] [(1, []), (2, [])] Try.f101 ⟨[.v], [.v], [], none⟩ = some ir_impl_IsMotzkin := by kernel_rfl
instance : Has K 257 ir_impl_IsMotzkin := ⟨fun _ _ hb => KS.of_body tabOk mixed (r := ⟨257, 101, ⟨[.v], [.v], [], none⟩⟩) rfl t257 Try.func101 hb⟩
theorem t258 : trF (cfOf Try.prog tab 6 [] none) (sgOf tab) [(0, .v), (2, .v)] [(1, []), (2, [])] Try.f102 ⟨[.v], [.v], [], none⟩ = some ir_spec_DrawDyckOfMotzkin := by kernel_rfl
instance : Has K 258 ir_spec_DrawDyckOfMotzkin := ⟨fun _ _ hb => KS.of_body tabOk mixed (r := ⟨258, 102, ⟨[.v], [.v], [], none⟩⟩) rfl t258 Try.func102 hb⟩
theorem t259 : trF (cfOf Try.prog tab 34 [] none) (sgOf tab) [(0, .v), (2, .v), (3, .v), (4, .v), (5, .v), (13, .v), (17, .v), (22, .v), (25, .v), (29, .v)] [(1, []), (33, []), (6, []), (9, []), (25, []), (89, []), (153, []), (409, []), (25, []), (537, []), (25, []), (25, []), (25, []), (6, [])] Try.f103 ⟨[.v], [.v, .v], [], none⟩ = some ir_impl_DyckOfMotzkin := by kernel_rfl
instance : Has K 259 ir_impl_DyckOfMotzkin := ⟨fun _ _ hb => KS.of_body tabOk mixed (r := ⟨259, 103, ⟨[.v], [.v, .v], [], none⟩⟩) rfl t259 Try.func103 hb⟩
theorem t260 : trF (cfOf Try.prog tab 34 [] none) (sgOf tab) [(0, .v), (2, .v), (3, .v), (4, .v), (5, .v), (13, .v), (17, .v), (22, .v), (25, .v), (29, .v)] [(1, []), (9, []), (41, []), (6, []), (25, []), (89, []), (153, []), (409, []), (25, []), (537, []), (25, []), (25, []), (25, []), (6, [])] Try.f104 ⟨[.v], [.v, .v], [], none⟩ = some ir_spec_DyckOfMotzkin := by kernel_rfl
instance : Has K 260 ir_spec_DyckOfMotzkin := ⟨fun _ _ hb => KS.of_body tabOk mixed (r := ⟨260, 104, ⟨[.v], [.v, .v], [], none⟩⟩) rfl t260 Try.func104 hb⟩
theorem t261 : trF (cfOf Try.prog tab 33 [] none) (sgOf tab) [(0, .v), (2, .v), (3, .v), (4, .v), (5, .v), (8, .v), (12, .v), (19, .v), (20, .v), (24, .v), (28, .v)] [(1, []), (33, []), (6, []), (9, []), (25, []), (89, []), (153, []), (409, []), (25, []), (665, []), (25, []), (1049, []), (25, []), (6, []), (25, []), (6, [])] Try.f105 ⟨[.v], [.v, .v], [], none⟩ = some ir_impl_MotzkinOf := by kernel_rfl
instance : Has K 261 ir_impl_MotzkinOf := ⟨fun _ _ hb => KS.of_body tabOk mixed (r := ⟨261, 105, ⟨[.v], [.v, .v], [], none⟩⟩) rfl t261 Try.func105 hb⟩
theorem t262 : trF (cfOf Try.prog tab 19 [] none) (sgOf tab) [(0, .v), (2, .v), (3, (.b .v)), (4, .v), (9, .v)] [(1, []), (4, []), (20, []), (8, []), (2, []), (2, [])] Try.f106 ⟨[.v], [.v], [], none⟩ = some ir_spec_DrawMotzkinOf := by kernel_rfl
instance : Has K 262 ir_spec_DrawMotzkinOf := ⟨fun _ _ hb => KS.of_body tabOk mixed (r := ⟨262, 106, ⟨[.v], [.v], [], none⟩⟩) rfl t262 Try.func106 hb⟩
theorem t263 : trF (cfOf Try.prog tab 34 [] none) (sgOf tab) [(0, .v), (2, .v), (3, .v), (4, .v), (5, .v), (8, .v), (13, .v), (20, .v), (21, .v), (25, .v), (29, .v)] [(1, []), (9, []), (41, []), (6, []), (25, []), (89, []), (153, []), (409, []), (25, []), (665, []), (25, []), (1049, []), (25, []), (6, []), (25, []), (6, [])] Try.f107 ⟨[.v], [.v, .v], [], none⟩ = some ir_spec_MotzkinOf := by kernel_rfl
instance : Has K 263 ir_spec_MotzkinOf := ⟨fun _ _ hb => KS.of_body tabOk mixed (r := ⟨263, 107, ⟨[.v], [.v, .v], [], none⟩⟩) rfl t263 Try.func107 hb⟩
theorem t264 : trF (cfOf Try.prog tab 6 [] none) (sgOf tab) [(0, .v), (2, .v)] [(1, []), (2, [])] Try.f108 ⟨[.v], [.v], [], none⟩ = some ir_spec_DrawIsMotzkin := by kernel_rfl
instance : Has K 264 ir_spec_DrawIsMotzkin := ⟨fun _ _ hb => KS.of_body tabOk mixed (r := ⟨264, 108, ⟨[.v], [.v], [], none⟩⟩) rfl t264 Try.func108 hb⟩
theorem t265 : trF (cfOf Try.prog tab 7 [] none) (sgOf tab) [(0, .v), (2, .v)] [(1, []), (2, [])] Try.f109 ⟨[.v], [.v], [], none⟩ = some ir_spec_DrawMotzkinNumber := by kernel_rfl
instance : Has K 265 ir_spec_DrawMotzkinNumber := ⟨fun _ _ hb => KS.of_body tabOk mixed (r := ⟨265, 109, ⟨[.v], [.v], [], none⟩⟩) rfl t265 Try.func109 hb⟩
theorem t266 : trF (cfOf Try.prog tab 33 [] none) (sgOf tab) [(0, .v), (2, .v), (3, .v), (4, .v), (8, .v), (13, .v), (14, .v), (18, .v), (22, .v), (25, .v)] [(1, []), (5, []), (13, []), (29, []), (45, []), (109, []), (13, []), (173, []), (13, []), (269, []), (2, []), (525, []), (2, []), (13, []), (2, [])] Try.f110 ⟨[.v], [.v], [], none⟩ = some ir_spec_IsMotzkin := by kernel_rfl
instance : Has K 266 ir_spec_IsMotzkin := ⟨fun _ _ hb => KS.of_body tabOk mixed (r := ⟨266, 110, ⟨[.v], [.v], [], none⟩⟩) rfl t266 Try.func110 hb⟩
theorem t267 : trF (cfOf Try.prog tab 49 [] none) (sgOf tab) [(0, .v), (2, .v), (3, (.o .v)), (4, .v), (5, .v), (6, .v), (9, .v), (13, .v), (24, .v)] [(1, []), (65, []), (2, []), (5, [1, 0]), (13, []), (141, []), (29, []), (61, []), (317, []), (61, []), (61, []), (13, []), (13, []), (2, [])] Try.f111 ⟨[.v], [.v], [], none⟩ = some ir_spec_MotzkinNumber := by kernel_rfl
instance : Has K 267 ir_spec_MotzkinNumber := ⟨fun _ _ hb => KS.of_body tabOk mixed (r := ⟨267, 111, ⟨[.v], [.v], [], none⟩⟩) rfl t267 Try.func111 hb⟩
theorem t268 : trF (cfOf Try.prog tab 8 [] none) (sgOf tab) [(0, .v), (2, .v), (5, .v)] [(1, []), (5, []), (2, []), (2, [])] Try.f112 ⟨[.v], [.v], [], none⟩ = some ir_impl_LevelSteps := by kernel_rfl
instance : Has K 268 ir_impl_LevelSteps := ⟨fun _ _ hb => KS.of_body tabOk mixed (r := ⟨268, 112, ⟨[.v], [.v], [], none⟩⟩) rfl t268 Try.func112 hb⟩
theorem t269 : trF (cfOf Try.prog tab 21 [] none) (sgOf tab) [(0, .v), (2, .v), (3, .v), (4, .v), (7, .v), (11, .v), (17, .v)] [(1, []), (17, []), (2, []), (5, []), (13, []), (45, []), (77, []), (13, []), (13, []), (2, [])] Try.f113 ⟨[.v], [.v], [], none⟩ = some ir_spec_LevelSteps := by kernel_rfl
instance : Has K 269 ir_spec_LevelSteps := ⟨fun _ _ hb => KS.of_body tabOk mixed (r := ⟨269, 113, ⟨[.v], [.v], [], none⟩⟩) rfl t269 Try.func113 hb⟩
theorem t288 : trF (cfOf Try.prog tab 32 [] none) (sgOf tab) [(0, .v), (2, (.b .v)), (3, .v), (4, .v), (15, .v)] [(1, []), (5, []), (13, []), (29, []), (13, []), (13, []), (2, [0, 0, 0, 1, 0])] Try.f136 ⟨[.v], [(.b .v)], [], none⟩ = some ir_spec_l1New := by kernel_rfl
instance : Has K 288 ir_spec_l1New := ⟨fun _ _ hb => KS.of_body tabOk mixed (r := ⟨288, 136, ⟨[.v], [(.b .v)], [], none⟩⟩) rfl t288 Try.func136 hb⟩
theorem t289 : trF (cfOf Try.prog tab 37 [0] none) (sgOf tab) [(0, (.b .v)), (1, .v), (4, .v), (5, .v), (6, .v), (7, .v), (8, .v), (10, .v), (12, .v)] [(3, []), (131, []), (5, []), (259, []), (5, []), (11, []), (27, []), (59, []), (123, []), (5, [])] Try.f142 ⟨[(.b .v), .v], [.v], [0], none⟩ = some ir_spec_l1Below := by kernel_rfl
instance : Has K 289 ir_spec_l1Below := ⟨fun _ _ hb => KS.of_body tabOk mixed (r := ⟨289, 142, ⟨[(.b .v), .v], [.v], [0], none⟩⟩) rfl t289 Try.func142 hb⟩
theorem t290 : trF (cfOf Try.prog tab 19 [0] none) (sgOf tab) [(0, (.b .v)), (2, .v), (3, .v), (7, .v), (8, .v), (13, .v)] [(1, []), (5, []), (13, []), (29, []), (3, []), (37, []), (3, []), (3, [])] Try.f143 ⟨[(.b .v)], [.v], [0], none⟩ = some ir_spec_l2Any := by kernel_rfl
instance : Has K 290 ir_spec_l2Any := ⟨fun _ _ hb => KS.of_body tabOk mixed (r := ⟨290, 143, ⟨[(.b .v)], [.v], [0], none⟩⟩) rfl t290 Try.func143 hb⟩
theorem t306 : trF (cfOf Try.prog tab 32 [0] none) (sgOf tab) [(0, (.b .v)), (1, .v), (4, .v), (5, .v), (6, .v), (7, .v), (10, .v), (22, .v)] [(3, []), (11, []), (27, []), (59, []), (123, []), (187, []), (59, []), (59, []), (59, []), (59, []), (5, [])] Try.f172 ⟨[(.b .v), .v], [.v], [0], none⟩ = some ir_spec_l2Draw := by kernel_rfl
instance : Has K 306 ir_spec_l2Draw := ⟨fun _ _ hb => KS.of_body tabOk mixed (r := ⟨306, 172, ⟨[(.b .v), .v], [.v], [0], none⟩⟩) rfl t306 Try.func172 hb⟩
theorem t307 : trF (cfOf Try.prog tab 9 [0] none) (sgOf tab) [(0, (.b .v)), (1, .v), (4, .v)] [(3, []), (5, [])] Try.f173 ⟨[(.b .v), .v], [.v], [0], none⟩ = some ir_spec_l1Once := by kernel_rfl
instance : Has K 307 ir_spec_l1Once := ⟨fun _ _ hb => KS.of_body tabOk mixed (r := ⟨307, 173, ⟨[(.b .v), .v], [.v], [0], none⟩⟩) rfl t307 Try.func173 hb⟩
theorem t309 : trF (cfOf Try.prog tab 42 [2, 3] (some (4, 309, [2, 3, 4]))) (sgOf tab) [(0, .v), (1, .v), (2, (.b .v)), (3, (.b (.o .v))), (4, .v), (7, .v), (18, .v), (20, .v)] [(63, []), (127, []), (159, []), (12, [1, 0, 0, 0, 0]), (31, [0, 0, 0, 0, 0, 309]), (31, [0, 0, 0, 0, 309]), (12, [0, 0, 0, 0, 0, 309])] Try.f189 ⟨[.v, .v, (.b .v), (.b (.o .v)), .v], [], [2, 3], (some (4, 309, [2, 3, 4]))⟩ = some ir_impl_MotzkinPaths_f1 := by kernel_rfl
instance : Has K 309 ir_impl_MotzkinPaths_f1 := ⟨fun _ _ hb => KS.of_body tabOk mixed (r := ⟨309, 189, ⟨[.v, .v, (.b .v), (.b (.o .v)), .v], [], [2, 3], (some (4, 309, [2, 3, 4]))⟩⟩) rfl t309 Try.func189 hb⟩
theorem t310 : trF (cfOf Try.prog tab 51 [] none) (sgOf tab) [(0, .v), (1, .v), (2, .v), (6, (.o .v)), (7, (.o .v)), (9, .v), (17, .v), (30, .v), (40, .v)] [(7, [1]), (39, []), (8, [0, 1, 0]), (23, [1, 0]), (87, []), (23, []), (151, []), (23, []), (279, []), (16, []), (8, [])] Try.f190 ⟨[.v, .v, .v], [(.o .v)], [], none⟩ = some ir_spec_l25All := by kernel_rfl
instance : Has K 310 ir_spec_l25All := ⟨fun _ _ hb => KS.of_body tabOk mixed (r := ⟨310, 190, ⟨[.v, .v, .v], [(.o .v)], [], none⟩⟩) rfl t310 Try.func190 hb⟩
theorem t311 : trF (cfOf Try.prog tab 28 [] none) (sgOf tab) [(0, .v), (2, .v), (3, .v), (4, .v), (8, .v), (13, .v), (14, .v), (18, .v), (22, .v), (25, .v)] [(1, []), (5, []), (13, []), (29, []), (45, []), (109, []), (13, []), (173, []), (13, []), (269, []), (2, []), (525, []), (2, []), (13, []), (2, [])] Try.f191 ⟨[.v], [.v], [], none⟩ = some ir_impl_rises := by kernel_rfl
instance : Has K 311 ir_impl_rises := ⟨fun _ _ hb => KS.of_body tabOk mixed (r := ⟨311, 191, ⟨[.v], [.v], [], none⟩⟩) rfl t311 Try.func191 hb⟩
theorem t312 : trF (cfOf Try.prog tab 46 [0] none) (sgOf tab) [(0, (.b .v)), (2, .v), (3, .v), (4, .v), (5, .v), (9, .v), (13, .v), (15, .v), (20, .v), (26, .v), (36, .v), (42, .v)] [(1, []), (5, []), (13, []), (29, []), (61, []), (93, []), (349, []), (29, []), (29, []), (541, []), (29, []), (157, []), (29, []), (29, []), (29, []), (1037, []), (13, []), (13, []), (2053, []), (3, []), (3, [])] Try.f192 ⟨[(.b .v)], [.v], [0], none⟩ = some ir_spec_l25Any := by kernel_rfl
instance : Has K 312 ir_spec_l25Any := ⟨fun _ _ hb => KS.of_body tabOk mixed (r := ⟨312, 192, ⟨[(.b .v)], [.v], [0], none⟩⟩) rfl t312 Try.func192 hb⟩
theorem t315 : trF (cfOf Try.prog tab 67 [0] none) (sgOf tab) [(0, (.b .v)), (1, .v), (4, .v), (5, .v), (8, .v), (16, .v), (17, .v), (27, .v), (42, .v)] [(3, []), (19, []), (5, []), (11, []), (43, []), (107, []), (5, []), (171, []), (5, []), (267, []), (5, []), (5, [])] Try.f195 ⟨[(.b .v), .v], [.v], [0], none⟩ = some ir_spec_l1Spoil := by kernel_rfl
instance : Has K 315 ir_spec_l1Spoil := ⟨fun _ _ hb => KS.of_body tabOk mixed (r := ⟨315, 195, ⟨[(.b .v), .v], [.v], [0], none⟩⟩) rfl t315 Try.func195 hb⟩
theorem t316 : trF (cfOf Try.prog tab 58 [0] none) (sgOf tab) [(0, (.b .v)), (2, .v), (3, .v), (34, .v)] [(1, []), (1, []), (5, []), (13, []), (5, []), (5, []), (3, [])] Try.f196 ⟨[(.b .v)], [.v], [0], none⟩ = some ir_spec_l1Byte := by kernel_rfl
instance : Has K 316 ir_spec_l1Byte := ⟨fun _ _ hb => KS.of_body tabOk mixed (r := ⟨316, 196, ⟨[(.b .v)], [.v], [0], none⟩⟩) rfl t316 Try.func196 hb⟩
theorem t317 : trF (cfOf Try.prog tab 7 [0] none) (sgOf tab) [(0, (.b .v)), (2, .v)] [(1, []), (3, [])] Try.f197 ⟨[(.b .v)], [.v], [0], none⟩ = some ir_spec_l2Path := by kernel_rfl
instance : Has K 317 ir_spec_l2Path := ⟨fun _ _ hb => KS.of_body tabOk mixed (r := ⟨317, 197, ⟨[(.b .v)], [.v], [0], none⟩⟩) rfl t317 Try.func197 hb⟩
theorem t318 : trF (cfOf Try.prog tab 12 [0] none) (sgOf tab) [(0, (.b .v)), (1, .y), (4, .v)] [(3, []), (5, [])] Try.f198 ⟨[(.b .v), .y], [.v], [0], none⟩ = some ir_spec_l1Pick := by kernel_rfl
instance : Has K 318 ir_spec_l1Pick := ⟨fun _ _ hb => KS.of_body tabOk mixed (r := ⟨318, 198, ⟨[(.b .v), .y], [.v], [0], none⟩⟩) rfl t318 Try.func198 hb⟩
theorem t327 : trF (cfOf Try.prog tab 38 [0] none) (sgOf tab) [(0, (.b .v)), (1, .v), (4, .v), (5, (.o .v)), (6, .v), (7, .v), (8, .v), (17, .v), (23, .v), (27, .v)] [(3, []), (11, [1, 0]), (27, []), (57, []), (185, []), (121, []), (377, []), (121, []), (633, []), (121, []), (57, []), (57, []), (5, [])] Try.f210 ⟨[(.b .v), .v], [.v], [0], none⟩ = some ir_spec_l1Text := by kernel_rfl
instance : Has K 327 ir_spec_l1Text := ⟨fun _ _ hb => KS.of_body tabOk mixed (r := ⟨327, 210, ⟨[(.b .v), .v], [.v], [0], none⟩⟩) rfl t327 Try.func210 hb⟩
end Go.Proofs.Ytfjkbocblpjpjaa.fnMotzkin

