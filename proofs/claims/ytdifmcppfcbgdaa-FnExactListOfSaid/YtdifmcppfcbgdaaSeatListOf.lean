/-
  Texts of the little language.
-/
import Derived.Test.YtdifmcppfcbgdaaIrAllA
import Derived.Test.YtdifmcppfcbgdaaRows
import Derived.Test.YtdifmcppfcbgdaaCatThree
namespace Go.Proofs.Ytdifmcppfcbgdaa.fnExactListOf
open Go Go.Cat Go.Proofs
set_option maxRecDepth 100000
def tab : List Row := [⟨13, 117, ⟨[], [(.o .v)], [], none⟩⟩,
  ⟨15, 18, ⟨[.y, .y], [.v], [], none⟩⟩,
  ⟨16, 19, ⟨[(.o .v), .v], [.v], [0], none⟩⟩,
  ⟨17, 20, ⟨[.y, .v], [.v], [], none⟩⟩,
  ⟨22, 131, ⟨[.v, .v, .v], [.v], [], none⟩⟩,
  ⟨23, 121, ⟨[.v, .v, .v], [.v], [], none⟩⟩,
  ⟨26, 123, ⟨[.v], [.v], [], none⟩⟩,
  ⟨27, 163, ⟨[.v, .v], [.v], [], none⟩⟩,
  ⟨64, 80, ⟨[.v], [.v], [], none⟩⟩,
  ⟨67, 85, ⟨[.v], [.v], [], none⟩⟩,
  ⟨82, 190, ⟨[.v], [(.o .v), .v], [], none⟩⟩,
  ⟨83, 203, ⟨[.v, .v, .v], [.v, .v], [], none⟩⟩,
  ⟨84, 182, ⟨[.v, .v], [.v], [], none⟩⟩,
  ⟨138, 81, ⟨[.v], [.v], [], none⟩⟩,
  ⟨143, 87, ⟨[.v], [.v], [], none⟩⟩,
  ⟨160, 197, ⟨[.v], [.v], [], none⟩⟩,
  ⟨162, 198, ⟨[.v], [.v], [], none⟩⟩,
  ⟨184, 144, ⟨[.y, .v], [.v], [], none⟩⟩,
  ⟨188, 233, ⟨[.v, .v], [.v], [], none⟩⟩,
  ⟨194, 205, ⟨[.v], [.v, .v], [], none⟩⟩,
  ⟨196, 110, ⟨[.v], [.v], [], none⟩⟩,
  ⟨197, 207, ⟨[.v], [.v], [], none⟩⟩,
  ⟨208, 235, ⟨[.v, .v], [.v, .v], [], none⟩⟩,
  ⟨211, 256, ⟨[.v], [.v], [], none⟩⟩,
  ⟨234, 119, ⟨[.v], [(.o .v)], [], none⟩⟩,
  ⟨273, 89, ⟨[.v], [.v], [], none⟩⟩,
  ⟨276, 82, ⟨[.v], [.v], [], none⟩⟩,
  ⟨279, 122, ⟨[.v], [(.o .v)], [], none⟩⟩,
  ⟨292, 212, ⟨[.v, .v, .v], [(.o .v)], [], none⟩⟩,
  ⟨297, 92, ⟨[.v], [.v, .v], [], none⟩⟩,
  ⟨299, 93, ⟨[.v], [(.o .v), .v], [], none⟩⟩,
  ⟨301, 99, ⟨[.v], [(.o .v), .v], [], none⟩⟩,
  ⟨302, 166, ⟨[.y], [.v], [], none⟩⟩,
  ⟨314, 134, ⟨[.v], [(.o .v)], [], none⟩⟩,
  ⟨321, 196, ⟨[.y], [.v], [], none⟩⟩,
  ⟨323, 151, ⟨[.y], [(.o .v)], [], none⟩⟩,
  ⟨324, 160, ⟨[.y], [.v], [], none⟩⟩,
  ⟨325, 103, ⟨[.v], [(.o .v), .v], [], none⟩⟩,
  ⟨326, 214, ⟨[.v, .v, .v, (.b (.o .v)), .v], [], [3], (some (4, 326, [3, 4]))⟩⟩,
  ⟨352, 98, ⟨[.y], [.v], [], none⟩⟩,
  ⟨354, 111, ⟨[.y], [.v], [], none⟩⟩,
  ⟨356, 101, ⟨[.v], [(.o .v), .v], [], none⟩⟩,
  ⟨362, 234, ⟨[.v, .v], [(.o .v)], [], none⟩⟩,
  ⟨363, 208, ⟨[(.o .v), .v], [], [0], none⟩⟩,
  ⟨364, 209, ⟨[.y, .y], [.v], [], none⟩⟩,
  ⟨370, 201, ⟨[.v, .v], [.v], [], none⟩⟩,
  ⟨373, 115, ⟨[.v], [(.o .v)], [], none⟩⟩,
  ⟨374, 245, ⟨[.y, .y], [.v], [], none⟩⟩,
  ⟨375, 236, ⟨[(.o .v), .v, .v, .v, .v], [], [0], none⟩⟩,
  ⟨376, 237, ⟨[.v], [.v], [], none⟩⟩,
  ⟨377, 238, ⟨[.v, .v], [.v], [], none⟩⟩,
  ⟨378, 120, ⟨[.y, .v], [.v], [], none⟩⟩,
  ⟨379, 202, ⟨[.y], [.v], [], none⟩⟩,
  ⟨380, 211, ⟨[.y], [.v], [], none⟩⟩,
  ⟨382, 246, ⟨[(.o .v), .v, .v, .v], [], [0], none⟩⟩,
  ⟨383, 247, ⟨[(.o .v), .v, .v, .v], [], [0], none⟩⟩,
  ⟨384, 248, ⟨[(.o .v), .v, .v, .v], [], [0], none⟩⟩,
  ⟨385, 249, ⟨[.y, .v, .v, .v], [.v, .v], [], none⟩⟩,
  ⟨386, 250, ⟨[(.o .v), .v, .v, .v], [], [0], none⟩⟩,
  ⟨387, 251, ⟨[(.o .v), .v, .v, .v], [.v], [0], none⟩⟩,
  ⟨388, 252, ⟨[(.o .v), .v, .v, .v, .v], [.v], [0], none⟩⟩,
  ⟨389, 253, ⟨[(.o .v), .v, .v, .v, .v], [.v, .v], [0], none⟩⟩,
  ⟨390, 254, ⟨[.v], [.v], [], none⟩⟩,
  ⟨391, 255, ⟨[.v], [.v], [], none⟩⟩,
  ⟨392, 261, ⟨[(.o .v), .v, .v, .v, .v], [], [0], none⟩⟩,
  ⟨475, 148, ⟨[.y], [(.o .v), .v], [], none⟩⟩,
  ⟨478, 152, ⟨[.y], [.v], [], none⟩⟩,
  ⟨479, 153, ⟨[.y], [.v], [], none⟩⟩,
  ⟨501, 215, ⟨[.v], [(.o .v)], [], none⟩⟩,
  ⟨503, 112, ⟨[.v], [(.o .v), .v], [], none⟩⟩,
  ⟨508, 104, ⟨[.v], [.v, .v], [], none⟩⟩,
  ⟨510, 105, ⟨[.v], [(.o .v), .v], [], none⟩⟩,
  ⟨513, 97, ⟨[.v], [.v], [], none⟩⟩,
  ⟨514, 109, ⟨[.v], [.v], [], none⟩⟩,
  ⟨516, 204, ⟨[.y], [.v], [], none⟩⟩,
  ⟨518, 200, ⟨[.v], [.v], [], none⟩⟩,
  ⟨519, 210, ⟨[.v], [.v, .v, .v], [], none⟩⟩,
  ⟨522, 6, ⟨[.v, .v], [.v], [], none⟩⟩,
  ⟨523, 12, ⟨[.v, .v], [.v, .v], [], none⟩⟩,
  ⟨524, 13, ⟨[.v, .v], [.v, .v], [], none⟩⟩,
  ⟨527, 16, ⟨[.v, .v], [(.o .v), .v], [], none⟩⟩,
  ⟨528, 17, ⟨[.v, .v], [(.o .v), .v], [], none⟩⟩,
  ⟨529, 94, ⟨[.y], [.v], [], none⟩⟩,
  ⟨530, 95, ⟨[.v], [.v, .v], [], none⟩⟩,
  ⟨531, 96, ⟨[.v], [(.o .v), .v], [], none⟩⟩,
  ⟨532, 100, ⟨[.y], [.v], [], none⟩⟩,
  ⟨533, 102, ⟨[.y], [.v], [], none⟩⟩,
  ⟨534, 106, ⟨[.y], [.v], [], none⟩⟩,
  ⟨535, 107, ⟨[.v], [.v, .v], [], none⟩⟩,
  ⟨536, 108, ⟨[.v], [(.o .v), .v], [], none⟩⟩,
  ⟨537, 113, ⟨[.y], [.v], [], none⟩⟩,
  ⟨538, 114, ⟨[.y], [.v], [], none⟩⟩,
  ⟨539, 116, ⟨[.v], [(.o .v), .v], [], none⟩⟩,
  ⟨540, 199, ⟨[.v, .v, .v, (.o .v), .v], [(.o .v)], [], none⟩⟩,
  ⟨541, 206, ⟨[.v, .v, .v, (.o .v), (.o .v)], [(.o .v), (.o .v)], [], none⟩⟩]
theorem tabOk : tabOK Try.prog tab = true := by kernel_rfl
theorem mixed : Try.prog.follows .mixedOrders = true := Try.checked.mixed
abbrev K := KS Try.prog tab
theorem t13 : trF (cfOf Try.prog tab 2 [] none) (sgOf tab) [(0, (.o .v))] [(0, [1]), (1, [1, 0])] Try.f117 ⟨[], [(.o .v)], [], none⟩ = some ir_spec_KindNames := by kernel_rfl
instance : Has K 13 ir_spec_KindNames := ⟨fun _ _ hb => KS.of_body tabOk mixed (r := ⟨13, 117, ⟨[], [(.o .v)], [], none⟩⟩) rfl t13 Try.func117 hb⟩
theorem t15 : trF (cfOf Try.prog tab 26 [] none) (sgOf tab) [(0, .y), (1, .y), (4, .v), (5, .v), (10, .v), (14, .v), (25, .v)] [(3, []), (19, []), (4, []), (11, []), (43, []), (75, []), (4, []), (11, []), (4, [])] Try.f18 ⟨[.y, .y], [.v], [], none⟩ = some ir_laws_eqStringS := by kernel_rfl
instance : Has K 15 ir_laws_eqStringS := ⟨fun _ _ hb => KS.of_body tabOk mixed (r := ⟨15, 18, ⟨[.y, .y], [.v], [], none⟩⟩) rfl t15 Try.func18 hb⟩
theorem t16 : trF (cfOf Try.prog tab 20 [0] none) (sgOf tab) [(0, (.o .v)), (1, .v), (4, .v), (5, .v), (9, .v)] [(3, []), (11, []), (27, []), (11, []), (11, []), (11, []), (5, [])] Try.f19 ⟨[(.o .v), .v], [.v], [0], none⟩ = some ir_laws_markStringS := by kernel_rfl
instance : Has K 16 ir_laws_markStringS := ⟨fun _ _ hb => KS.of_body tabOk mixed (r := ⟨16, 19, ⟨[(.o .v), .v], [.v], [0], none⟩⟩) rfl t16 Try.func19 hb⟩
theorem t17 : trF (cfOf Try.prog tab 22 [] none) (sgOf tab) [(0, .y), (1, .v), (4, .v), (5, .v), (9, .v), (18, .v)] [(3, []), (11, []), (27, []), (43, []), (4, []), (11, []), (11, []), (4, [])] Try.f20 ⟨[.y, .v], [.v], [], none⟩ = some ir_laws_heldStringS := by kernel_rfl
instance : Has K 17 ir_laws_heldStringS := ⟨fun _ _ hb => KS.of_body tabOk mixed (r := ⟨17, 20, ⟨[.y, .v], [.v], [], none⟩⟩) rfl t17 Try.func20 hb⟩
theorem t22 : trF (cfOf Try.prog tab 15 [] none) (sgOf tab) [(0, .v), (1, .v), (2, .v), (6, .v)] [(7, []), (8, [])] Try.f131 ⟨[.v, .v, .v], [.v], [], none⟩ = some ir_spec_l1In := by kernel_rfl
instance : Has K 22 ir_spec_l1In := ⟨fun _ _ hb => KS.of_body tabOk mixed (r := ⟨22, 131, ⟨[.v, .v, .v], [.v], [], none⟩⟩) rfl t22 Try.func131 hb⟩
theorem t23 : trF (cfOf Try.prog tab 15 [] none) (sgOf tab) [(0, .v), (1, .v), (2, .v), (6, .v)] [(7, []), (8, [])] Try.f121 ⟨[.v, .v, .v], [.v], [], none⟩ = some ir_impl_within := by kernel_rfl
instance : Has K 23 ir_impl_within := ⟨fun _ _ hb => KS.of_body tabOk mixed (r := ⟨23, 121, ⟨[.v, .v, .v], [.v], [], none⟩⟩) rfl t23 Try.func121 hb⟩
theorem t26 : trF (cfOf Try.prog tab 20 [] none) (sgOf tab) [(0, .v), (2, .v), (3, .v), (5, .v), (7, .v)] [(1, []), (9, []), (2, []), (5, []), (21, []), (5, []), (5, []), (2, [])] Try.f123 ⟨[.v], [.v], [], none⟩ = some ir_laws_markText := by kernel_rfl
instance : Has K 26 ir_laws_markText := ⟨fun _ _ hb => KS.of_body tabOk mixed (r := ⟨26, 123, ⟨[.v], [.v], [], none⟩⟩) rfl t26 Try.func123 hb⟩
theorem t27 : trF (cfOf Try.prog tab 73 [] none) (sgOf tab) [(0, .v), (1, .v), (4, .v), (5, (.o .v)), (6, .v), (7, .v), (8, (.o .v)), (9, .v), (18, .v), (23, .v), (24, .v), (25, .v), (33, .v), (42, .v), (54, .v)] [(3, []), (259, []), (4, []), (11, [0, 0, 1, 0]), (1547, []), (3595, []), (1563, []), (1547, []), (1547, []), (43, []), (4139, []), (107, [0, 0, 1, 0]), (235, []), (8427, []), (235, []), (16619, []), (235, []), (235, []), (43, []), (43, []), (4, [])] Try.f163 ⟨[.v, .v], [.v], [], none⟩ = some ir_impl_BallotNumber := by kernel_rfl
instance : Has K 27 ir_impl_BallotNumber := ⟨fun _ _ hb => KS.of_body tabOk mixed (r := ⟨27, 163, ⟨[.v, .v], [.v], [], none⟩⟩) rfl t27 Try.func163 hb⟩
theorem t64 : trF (cfOf Try.prog tab 31 [] none) (sgOf tab) [(0, .v), (2, .v), (3, .v), (4, .v), (8, .v), (13, .v), (14, .v), (18, .v), (23, .v)] [(1, []), (5, []), (13, []), (29, []), (45, []), (109, []), (13, []), (141, []), (13, []), (2, []), (269, []), (2, []), (13, []), (2, [])] Try.f80 ⟨[.v], [.v], [], none⟩ = some ir_spec_IsDyck := by kernel_rfl
instance : Has K 64 ir_spec_IsDyck := ⟨fun _ _ hb => KS.of_body tabOk mixed (r := ⟨64, 80, ⟨[.v], [.v], [], none⟩⟩) rfl t64 Try.func80 hb⟩
theorem t67 : trF (cfOf Try.prog tab 14 [] none) (sgOf tab) [(0, .v), (2, .v), (4, .v), (7, .v)] [(1, []), (9, []), (2, []), (4, []), (2, [])] Try.f85 ⟨[.v], [.v], [], none⟩ = some ir_impl_IsDyck := by kernel_rfl
instance : Has K 67 ir_impl_IsDyck := ⟨fun _ _ hb => KS.of_body tabOk mixed (r := ⟨67, 85, ⟨[.v], [.v], [], none⟩⟩) rfl t67 Try.func85 hb⟩
theorem t82 : trF (cfOf Try.prog tab 34 [] none) (sgOf tab) [(0, .v), (2, (.o .v)), (3, .v), (4, (.o .v)), (5, .v), (6, .v), (11, .v), (16, .v), (17, .v), (21, .v), (26, .v)] [(1, [1, 0]), (9, [1, 0]), (25, []), (57, []), (121, []), (185, []), (441, []), (57, []), (569, []), (57, []), (6, [1, 0]), (1081, []), (6, [1, 0]), (57, []), (57, []), (6, [])] Try.f190 ⟨[.v], [(.o .v), .v], [], none⟩ = some ir_impl_heights := by kernel_rfl
instance : Has K 82 ir_impl_heights := ⟨fun _ _ hb => KS.of_body tabOk mixed (r := ⟨82, 190, ⟨[.v], [(.o .v), .v], [], none⟩⟩) rfl t82 Try.func190 hb⟩
theorem t83 : trF (cfOf Try.prog tab 40 [] none) (sgOf tab) [(0, .v), (1, .v), (2, .v), (6, .v), (7, .v), (8, (.o .v)), (9, .v), (14, .v), (19, .v), (20, .v), (29, .v)] [(7, []), (39, [1, 0]), (103, []), (231, []), (359, []), (871, []), (103, []), (1127, []), (103, []), (24, []), (103, []), (24, [])] Try.f203 ⟨[.v, .v, .v], [.v, .v], [], none⟩ = some ir_impl_exchanged := by kernel_rfl
instance : Has K 83 ir_impl_exchanged := ⟨fun _ _ hb => KS.of_body tabOk mixed (r := ⟨83, 203, ⟨[.v, .v, .v], [.v, .v], [], none⟩⟩) rfl t83 Try.func203 hb⟩
theorem t84 : trF (cfOf Try.prog tab 83 [] none) (sgOf tab) [(0, .v), (1, .v), (4, .v), (5, (.o (.o .v))), (6, .v), (7, .v), (11, .v), (23, .v), (49, .v), (58, .v)] [(3, []), (11, [2, 0]), (27, []), (91, []), (27, [0, 0, 0, 1, 2, 0, 0]), (59, []), (187, []), (315, []), (59, [0, 0, 0, 1, 0, 0, 0]), (571, []), (59, [0, 0, 0, 1, 0, 0, 0, 0, 0, 0, 0, 0, 0, 0, 0]), (59, [0, 0, 0, 1, 0, 0, 0, 0, 0, 0, 0, 0, 0, 0, 0, 0, 0, 0, 0, 0, 0, 0, 0, 0]), (59, []), (27, []), (4, [])] Try.f182 ⟨[.v, .v], [.v], [], none⟩ = some ir_spec_l3Ways := by kernel_rfl
instance : Has K 84 ir_spec_l3Ways := ⟨fun _ _ hb => KS.of_body tabOk mixed (r := ⟨84, 182, ⟨[.v, .v], [.v], [], none⟩⟩) rfl t84 Try.func182 hb⟩
theorem t138 : trF (cfOf Try.prog tab 31 [] none) (sgOf tab) [(0, .v), (2, .v), (3, .v), (4, .v), (5, .v), (7, .v), (11, .v), (15, .v), (27, .v)] [(1, []), (33, []), (2, []), (5, []), (13, []), (77, []), (29, []), (157, []), (29, []), (13, []), (13, []), (260, []), (2, []), (2, [])] Try.f81 ⟨[.v], [.v], [], none⟩ = some ir_spec_FormatInt := by kernel_rfl
instance : Has K 138 ir_spec_FormatInt := ⟨fun _ _ hb => KS.of_body tabOk mixed (r := ⟨138, 81, ⟨[.v], [.v], [], none⟩⟩) rfl t138 Try.func81 hb⟩
theorem t143 : trF (cfOf Try.prog tab 59 [] none) (sgOf tab) [(0, .v), (2, .v), (3, (.o .v)), (4, .v), (5, .v), (6, .v), (7, .v), (9, .v), (13, .v), (19, .v), (29, .v), (38, .v)] [(1, []), (129, []), (2, []), (5, [1, 0]), (13, []), (269, []), (29, []), (541, []), (29, []), (13, []), (13, []), (1028, []), (4, []), (100, []), (2148, []), (100, [0, 0, 0, 0, 0, 0, 0, 0, 0, 0, 0, 0, 0, 5, 0, 5]), (100, []), (2, [])] Try.f87 ⟨[.v], [.v], [], none⟩ = some ir_impl_FormatInt := by kernel_rfl
instance : Has K 143 ir_impl_FormatInt := ⟨fun _ _ hb => KS.of_body tabOk mixed (r := ⟨143, 87, ⟨[.v], [.v], [], none⟩⟩) rfl t143 Try.func87 hb⟩
theorem t160 : trF (cfOf Try.prog tab 17 [] none) (sgOf tab) [(0, .v), (2, .v)] [(1, []), (2, [])] Try.f197 ⟨[.v], [.v], [], none⟩ = some ir_spec_IsBinary := by kernel_rfl
instance : Has K 160 ir_spec_IsBinary := ⟨fun _ _ hb => KS.of_body tabOk mixed (r := ⟨160, 197, ⟨[.v], [.v], [], none⟩⟩) rfl t160 Try.func197 hb⟩
theorem t162 : trF (cfOf Try.prog tab 10 [] none) (sgOf tab) [(0, .v), (2, .v), (5, .v)] [(1, []), (5, []), (2, []), (2, [])] Try.f198 ⟨[.v], [.v], [], none⟩ = some ir_spec_NodesOf := by kernel_rfl
instance : Has K 162 ir_spec_NodesOf := ⟨fun _ _ hb => KS.of_body tabOk mixed (r := ⟨162, 198, ⟨[.v], [.v], [], none⟩⟩) rfl t162 Try.func198 hb⟩
theorem t184 : trF (cfOf Try.prog tab 25 [] none) (sgOf tab) [(0, .y), (1, .v), (4, .v), (5, .v), (6, .v), (7, .v), (8, .y), (9, .v), (10, .v), (11, .v), (16, .v)] [(3, []), (11, []), (458, []), (970, []), (506, []), (1514, []), (490, []), (458, []), (458, []), (4, [])] Try.f144 ⟨[.y, .v], [.v], [], none⟩ = some ir_impl_glued := by kernel_rfl
instance : Has K 184 ir_impl_glued := ⟨fun _ _ hb => KS.of_body tabOk mixed (r := ⟨184, 144, ⟨[.y, .v], [.v], [], none⟩⟩) rfl t184 Try.func144 hb⟩
theorem t188 : trF (cfOf Try.prog tab 46 [] none) (sgOf tab) [(0, .v), (1, .v), (4, .v), (5, .v), (6, .v), (10, .v), (14, .v), (20, .v), (26, .v), (43, .v)] [(3, []), (35, []), (4, []), (67, []), (4, []), (131, []), (4, []), (9, []), (265, []), (4, []), (17, []), (528, []), (4, []), (4, [])] Try.f233 ⟨[.v, .v], [.v], [], none⟩ = some ir_spec_l6End := by kernel_rfl
instance : Has K 188 ir_spec_l6End := ⟨fun _ _ hb => KS.of_body tabOk mixed (r := ⟨188, 233, ⟨[.v, .v], [.v], [], none⟩⟩) rfl t188 Try.func233 hb⟩
theorem t194 : trF (cfOf Try.prog tab 24 [] none) (sgOf tab) [(0, .v), (2, .v), (3, .v), (4, .v), (5, .v), (8, .v), (22, .v)] [(1, []), (33, []), (6, []), (25, []), (72, []), (6, []), (6, [])] Try.f205 ⟨[.v], [.v, .v], [], none⟩ = some ir_impl_parseTree := by kernel_rfl
instance : Has K 194 ir_impl_parseTree := ⟨fun _ _ hb => KS.of_body tabOk mixed (r := ⟨194, 205, ⟨[.v], [.v, .v], [], none⟩⟩) rfl t194 Try.func205 hb⟩
theorem t196 : trF (cfOf Try.prog tab 18 [] none) (sgOf tab) [(0, .v), (2, .v), (4, .v)] [(1, []), (5, []), (2, []), (2, [])] Try.f110 ⟨[.v], [.v], [], none⟩ = some ir_impl_tree_text := by kernel_rfl
instance : Has K 196 ir_impl_tree_text := ⟨fun _ _ hb => KS.of_body tabOk mixed (r := ⟨196, 110, ⟨[.v], [.v], [], none⟩⟩) rfl t196 Try.func110 hb⟩
theorem t197 : trF (cfOf Try.prog tab 17 [] none) (sgOf tab) [(0, .v), (2, .v), (4, .v)] [(1, []), (5, []), (2, []), (2, [])] Try.f207 ⟨[.v], [.v], [], none⟩ = some ir_impl_tree_nodes := by kernel_rfl
instance : Has K 197 ir_impl_tree_nodes := ⟨fun _ _ hb => KS.of_body tabOk mixed (r := ⟨197, 207, ⟨[.v], [.v], [], none⟩⟩) rfl t197 Try.func207 hb⟩
theorem t208 : trF (cfOf Try.prog tab 58 [] none) (sgOf tab) [(0, .v), (1, .v), (4, .v), (5, .v), (6, .v), (7, .v), (8, .v), (9, .v), (13, .v), (16, .v), (17, .v), (21, .v), (31, .v), (51, .v)] [(3, []), (259, []), (12, []), (515, []), (1539, []), (12, []), (2051, []), (49, []), (4145, []), (12, []), (209, []), (8400, []), (12, []), (12, []), (12, [])] Try.f235 ⟨[.v, .v], [.v, .v], [], none⟩ = some ir_impl_readTree := by kernel_rfl
instance : Has K 208 ir_impl_readTree := ⟨fun _ _ hb => KS.of_body tabOk mixed (r := ⟨208, 235, ⟨[.v, .v], [.v, .v], [], none⟩⟩) rfl t208 Try.func235 hb⟩
theorem t211 : trF (cfOf Try.prog tab 6 [] none) (sgOf tab) [(0, .v), (2, .v)] [(1, []), (2, [])] Try.f256 ⟨[.v], [.v], [], none⟩ = some ir_cmp_isNaN_int_ := by kernel_rfl
instance : Has K 211 ir_cmp_isNaN_int_ := ⟨fun _ _ hb => KS.of_body tabOk mixed (r := ⟨211, 256, ⟨[.v], [.v], [], none⟩⟩) rfl t211 Try.func256 hb⟩
theorem t234 : trF (cfOf Try.prog tab 10 [] none) (sgOf tab) [(0, .v), (2, (.o .v)), (5, .v)] [(1, [1]), (5, []), (2, [1, 0]), (2, [])] Try.f119 ⟨[.v], [(.o .v)], [], none⟩ = some ir_spec_PathsOf := by kernel_rfl
instance : Has K 234 ir_spec_PathsOf := ⟨fun _ _ hb => KS.of_body tabOk mixed (r := ⟨234, 119, ⟨[.v], [(.o .v)], [], none⟩⟩) rfl t234 Try.func119 hb⟩
theorem t273 : trF (cfOf Try.prog tab 39 [] none) (sgOf tab) [(0, .v), (2, .v), (3, .v), (4, .v), (5, .v), (6, .v), (9, .v), (19, .v), (25, .v), (29, .v)] [(1, []), (65, []), (2, []), (5, []), (29, []), (61, []), (189, []), (317, []), (61, []), (573, []), (61, []), (61, []), (61, []), (2, [])] Try.f89 ⟨[.v], [.v], [], none⟩ = some ir_impl_RankPath := by kernel_rfl
instance : Has K 273 ir_impl_RankPath := ⟨fun _ _ hb => KS.of_body tabOk mixed (r := ⟨273, 89, ⟨[.v], [.v], [], none⟩⟩) rfl t273 Try.func89 hb⟩
theorem t276 : trF (cfOf Try.prog tab 37 [] none) (sgOf tab) [(0, .v), (2, .v), (3, .v), (4, .v), (5, .v), (6, .v), (9, .v), (17, .v), (23, .v), (27, .v)] [(1, []), (65, []), (2, []), (5, []), (13, []), (29, []), (61, []), (189, []), (317, []), (61, []), (573, []), (61, []), (61, []), (61, []), (2, [])] Try.f82 ⟨[.v], [.v], [], none⟩ = some ir_spec_RankPath := by kernel_rfl
instance : Has K 276 ir_spec_RankPath := ⟨fun _ _ hb => KS.of_body tabOk mixed (r := ⟨276, 82, ⟨[.v], [.v], [], none⟩⟩) rfl t276 Try.func82 hb⟩
theorem t279 : trF (cfOf Try.prog tab 9 [] none) (sgOf tab) [(0, .v), (2, (.o .v)), (5, .v)] [(1, [1]), (5, []), (2, [1, 0]), (2, [])] Try.f122 ⟨[.v], [(.o .v)], [], none⟩ = some ir_impl_PathsOf := by kernel_rfl
instance : Has K 279 ir_impl_PathsOf := ⟨fun _ _ hb => KS.of_body tabOk mixed (r := ⟨279, 122, ⟨[.v], [(.o .v)], [], none⟩⟩) rfl t279 Try.func122 hb⟩
theorem t292 : trF (cfOf Try.prog tab 35 [] none) (sgOf tab) [(0, .v), (1, .v), (2, .v), (6, (.o .v)), (7, (.o .v)), (9, .v), (14, .v), (25, .v)] [(7, [1]), (39, []), (8, [0, 1, 0]), (23, [1, 0]), (87, []), (23, []), (151, []), (16, []), (8, [])] Try.f212 ⟨[.v, .v, .v], [(.o .v)], [], none⟩ = some ir_spec_l3All := by kernel_rfl
instance : Has K 292 ir_spec_l3All := ⟨fun _ _ hb => KS.of_body tabOk mixed (r := ⟨292, 212, ⟨[.v, .v, .v], [(.o .v)], [], none⟩⟩) rfl t292 Try.func212 hb⟩
theorem t297 : trF (cfOf Try.prog tab 27 [] none) (sgOf tab) [(0, .v), (2, .v), (3, .v), (4, .v), (5, .v), (13, .v), (19, .v)] [(1, []), (9, []), (25, []), (57, []), (89, []), (25, []), (25, []), (25, []), (6, [])] Try.f92 ⟨[.v], [.v, .v], [], none⟩ = some ir_spec_BracketsOf := by kernel_rfl
instance : Has K 297 ir_spec_BracketsOf := ⟨fun _ _ hb => KS.of_body tabOk mixed (r := ⟨297, 92, ⟨[.v], [.v, .v], [], none⟩⟩) rfl t297 Try.func92 hb⟩
theorem t299 : trF (cfOf Try.prog tab 38 [] none) (sgOf tab) [(0, .v), (2, (.o .v)), (3, .v), (4, (.o .v)), (5, .v), (6, .v), (15, .v), (21, .v), (35, .v)] [(1, [1, 0]), (9, [1, 0]), (25, []), (57, []), (121, []), (185, []), (41, []), (57, []), (57, []), (57, []), (264, []), (6, [1, 0, 0]), (6, [])] Try.f93 ⟨[.v], [(.o .v), .v], [], none⟩ = some ir_spec_PlaneOf := by kernel_rfl
instance : Has K 299 ir_spec_PlaneOf := ⟨fun _ _ hb => KS.of_body tabOk mixed (r := ⟨299, 93, ⟨[.v], [(.o .v), .v], [], none⟩⟩) rfl t299 Try.func93 hb⟩
theorem t301 : trF (cfOf Try.prog tab 64 [] none) (sgOf tab) [(0, .v), (2, (.o .v)), (3, .v), (4, (.o .v)), (5, (.o .v)), (6, .v), (7, .v), (8, .v), (11, .v), (21, .v), (27, .v), (59, .v)] [(1, [1, 0]), (257, []), (6, [1, 0, 0]), (9, [0, 0, 0, 1, 0]), (25, [1, 0]), (57, []), (121, []), (249, []), (761, []), (1273, []), (249, []), (249, []), (249, []), (249, []), (2297, []), (249, []), (249, []), (6, [])] Try.f99 ⟨[.v], [(.o .v), .v], [], none⟩ = some ir_spec_PartitionOf := by kernel_rfl
instance : Has K 301 ir_spec_PartitionOf := ⟨fun _ _ hb => KS.of_body tabOk mixed (r := ⟨301, 99, ⟨[.v], [(.o .v), .v], [], none⟩⟩) rfl t301 Try.func99 hb⟩
theorem t302 : trF (cfOf Try.prog tab 44 [] none) (sgOf tab) [(0, .y), (2, .v), (3, (.o (.o .v))), (4, .v), (13, .v), (22, .v)] [(1, []), (5, [2, 0]), (13, []), (29, []), (45, []), (13, [0, 1, 2, 0, 0]), (13, [500003, 0, 0, 0, 0, 0, 0, 0, 0, 0, 0, 0, 2601038, 0, 0, 0, 7, 0]), (13, []), (2, [])] Try.f166 ⟨[.y], [.v], [], none⟩ = some ir_spec_BlocksOf := by kernel_rfl
instance : Has K 302 ir_spec_BlocksOf := ⟨fun _ _ hb => KS.of_body tabOk mixed (r := ⟨302, 166, ⟨[.y], [.v], [], none⟩⟩) rfl t302 Try.func166 hb⟩
theorem t314 : trF (cfOf Try.prog tab 12 [] none) (sgOf tab) [(0, .v), (2, (.o .v)), (3, (.b (.o .v))), (4, (.b .v))] [(1, [1]), (5, [1, 1, 0]), (13, []), (13, [77777, 0, 0]), (4, [0, 0, 0, 326]), (2, [1, 0])] Try.f134 ⟨[.v], [(.o .v)], [], none⟩ = some ir_impl_allPaths := by kernel_rfl
instance : Has K 314 ir_impl_allPaths := ⟨fun _ _ hb => KS.of_body tabOk mixed (r := ⟨314, 134, ⟨[.v], [(.o .v)], [], none⟩⟩) rfl t314 Try.func134 hb⟩
theorem t321 : trF (cfOf Try.prog tab 62 [] none) (sgOf tab) [(0, .y), (2, .v), (3, .v), (4, .v), (5, .v), (9, .v), (33, .v), (43, .v), (58, .v)] [(1, []), (5, []), (37, []), (69, []), (2, []), (13, []), (29, []), (157, []), (29, []), (29, []), (261, []), (2, []), (5, []), (2, [])] Try.f196 ⟨[.y], [.v], [], none⟩ = some ir_spec_IsPlane := by kernel_rfl
instance : Has K 321 ir_spec_IsPlane := ⟨fun _ _ hb => KS.of_body tabOk mixed (r := ⟨321, 196, ⟨[.y], [.v], [], none⟩⟩) rfl t321 Try.func196 hb⟩
theorem t323 : trF (cfOf Try.prog tab 48 [] none) (sgOf tab) [(0, .y), (2, (.o .v)), (3, (.o .v)), (4, (.o .v)), (5, .v), (6, .v), (7, .v), (13, .v), (19, .v), (30, .v), (33, .v)] [(1, [1]), (5, [1, 0]), (13, [1, 0]), (29, []), (157, []), (61, []), (125, []), (381, []), (637, []), (125, []), (125, []), (1085, []), (61, []), (61, []), (29, []), (29, []), (2, [])] Try.f151 ⟨[.y], [(.o .v)], [], none⟩ = some ir_spec_l8Renumber := by kernel_rfl
instance : Has K 323 ir_spec_l8Renumber := ⟨fun _ _ hb => KS.of_body tabOk mixed (r := ⟨323, 151, ⟨[.y], [(.o .v)], [], none⟩⟩) rfl t323 Try.func151 hb⟩
theorem t324 : trF (cfOf Try.prog tab 29 [] none) (sgOf tab) [(0, .y), (2, .v), (3, .v), (4, .v), (8, .v), (17, .v), (23, .v)] [(1, []), (5, []), (13, []), (29, []), (45, []), (2, []), (77, []), (13, []), (13, []), (2, [])] Try.f160 ⟨[.y], [.v], [], none⟩ = some ir_spec_IsPartition := by kernel_rfl
instance : Has K 324 ir_spec_IsPartition := ⟨fun _ _ hb => KS.of_body tabOk mixed (r := ⟨324, 160, ⟨[.y], [.v], [], none⟩⟩) rfl t324 Try.func160 hb⟩
theorem t325 : trF (cfOf Try.prog tab 51 [] none) (sgOf tab) [(0, .v), (2, (.o .v)), (3, .v), (4, (.o .v)), (5, (.o .v)), (6, .v), (7, .v), (8, .v), (11, .v), (21, .v), (27, .v)] [(1, [1, 0]), (257, []), (6, [1, 0, 0]), (9, [0, 0, 0, 1, 0]), (25, [1, 0]), (57, []), (121, []), (249, []), (761, []), (1273, []), (249, []), (249, []), (249, []), (249, []), (249, []), (249, []), (6, [])] Try.f103 ⟨[.v], [(.o .v), .v], [], none⟩ = some ir_spec_PermutationOf := by kernel_rfl
instance : Has K 325 ir_spec_PermutationOf := ⟨fun _ _ hb => KS.of_body tabOk mixed (r := ⟨325, 103, ⟨[.v], [(.o .v), .v], [], none⟩⟩) rfl t325 Try.func103 hb⟩
theorem t326 : trF (cfOf Try.prog tab 37 [3] (some (4, 326, [3, 4]))) (sgOf tab) [(0, .v), (1, .v), (2, .v), (3, (.b (.o .v))), (4, .v), (13, .v), (19, .v), (29, .v)] [(63, []), (8, [1, 0, 0, 0, 0]), (95, []), (31, [0, 0, 0, 0, 0, 0, 326]), (159, []), (8, [0, 0, 0, 0, 0, 0, 326])] Try.f214 ⟨[.v, .v, .v, (.b (.o .v)), .v], [], [3], (some (4, 326, [3, 4]))⟩ = some ir_impl_allPaths_f1 := by kernel_rfl
instance : Has K 326 ir_impl_allPaths_f1 := ⟨fun _ _ hb => KS.of_body tabOk mixed (r := ⟨326, 214, ⟨[.v, .v, .v, (.b (.o .v)), .v], [], [3], (some (4, 326, [3, 4]))⟩⟩) rfl t326 Try.func214 hb⟩
theorem t352 : trF (cfOf Try.prog tab 66 [] none) (sgOf tab) [(0, .y), (2, .v), (3, .v), (4, .v), (8, .v), (41, .v), (43, .v), (64, .v)] [(1, []), (5, []), (13, []), (29, []), (45, []), (2, []), (77, []), (13, []), (13, []), (13, []), (132, []), (2, []), (2, [])] Try.f98 ⟨[.y], [.v], [], none⟩ = some ir_spec_FormatDiagonals := by kernel_rfl
instance : Has K 352 ir_spec_FormatDiagonals := ⟨fun _ _ hb => KS.of_body tabOk mixed (r := ⟨352, 98, ⟨[.y], [.v], [], none⟩⟩) rfl t352 Try.func98 hb⟩
theorem t354 : trF (cfOf Try.prog tab 51 [] none) (sgOf tab) [(0, .y), (2, .v), (3, (.o .v)), (5, .y), (8, .v), (11, .v), (13, .y), (14, .v), (15, .v), (16, .v), (35, .v)] [(1, []), (17, []), (2, []), (33, []), (2, []), (5, [1, 0]), (452, []), (964, []), (460, []), (1484, []), (2, []), (452, []), (452, []), (2, [])] Try.f111 ⟨[.y], [.v], [], none⟩ = some ir_impl_FormatDiagonals := by kernel_rfl
instance : Has K 354 ir_impl_FormatDiagonals := ⟨fun _ _ hb => KS.of_body tabOk mixed (r := ⟨354, 111, ⟨[.y], [.v], [], none⟩⟩) rfl t354 Try.func111 hb⟩
theorem t356 : trF (cfOf Try.prog tab 26 [] none) (sgOf tab) [(0, .v), (2, (.o .v)), (3, .v), (4, (.o .v)), (5, .v), (14, .v)] [(1, [1, 0]), (9, [1, 0]), (25, []), (57, []), (25, []), (25, []), (6, [])] Try.f101 ⟨[.v], [(.o .v), .v], [], none⟩ = some ir_spec_MatchingOf := by kernel_rfl
instance : Has K 356 ir_spec_MatchingOf := ⟨fun _ _ hb => KS.of_body tabOk mixed (r := ⟨356, 101, ⟨[.v], [(.o .v), .v], [], none⟩⟩) rfl t356 Try.func101 hb⟩
theorem t362 : trF (cfOf Try.prog tab 33 [] none) (sgOf tab) [(0, .v), (1, .v), (4, (.o .v)), (5, .v), (18, .v)] [(3, [1]), (11, []), (27, []), (11, []), (4, [1, 0, 0, 0, 0, 0, 0, 0, 0, 0, 0, 0, 0])] Try.f234 ⟨[.v, .v], [(.o .v)], [], none⟩ = some ir_spec_l7Put := by kernel_rfl
instance : Has K 362 ir_spec_l7Put := ⟨fun _ _ hb => KS.of_body tabOk mixed (r := ⟨362, 234, ⟨[.v, .v], [(.o .v)], [], none⟩⟩) rfl t362 Try.func234 hb⟩
theorem t363 : trF (cfOf Try.prog tab 14 [0] none) (sgOf tab) [(0, (.o .v)), (1, .v), (4, .v)] [(7, []), (1, [])] Try.f208 ⟨[(.o .v), .v], [], [0], none⟩ = some ir_slices_SortFunc_____int___int_ := by kernel_rfl
instance : Has K 363 ir_slices_SortFunc_____int___int_ := ⟨fun _ _ hb => KS.of_body tabOk mixed (r := ⟨363, 208, ⟨[(.o .v), .v], [], [0], none⟩⟩) rfl t363 Try.func208 hb⟩
theorem t364 : trF (cfOf Try.prog tab 36 [] none) (sgOf tab) [(0, .y), (1, .y), (4, .v), (5, .v), (6, .v), (7, .v), (8, .v), (9, .y), (10, .v), (11, .v), (12, .v), (19, .v), (28, .v), (35, .v)] [(3, []), (899, []), (1923, []), (923, []), (2971, []), (4, []), (947, []), (963, []), (5059, []), (4, []), (899, []), (8192, []), (4, []), (4, [])] Try.f209 ⟨[.y, .y], [.v], [], none⟩ = some ir_slices_Compare___int_int_ := by kernel_rfl
instance : Has K 364 ir_slices_Compare___int_int_ := ⟨fun _ _ hb => KS.of_body tabOk mixed (r := ⟨364, 209, ⟨[.y, .y], [.v], [], none⟩⟩) rfl t364 Try.func209 hb⟩
theorem t370 : trF (cfOf Try.prog tab 46 [] none) (sgOf tab) [(0, .v), (1, .v), (4, .v), (5, .v), (6, .v), (7, .v), (11, .v), (16, .v), (22, .v), (28, .v), (32, .v), (38, .v), (44, .v)] [(3, []), (11, []), (75, []), (27, []), (155, []), (283, []), (27, []), (27, []), (539, []), (4, []), (27, []), (41, []), (1065, []), (2089, []), (41, []), (41, []), (4137, []), (4, []), (41, []), (4, [])] Try.f201 ⟨[.v, .v], [.v], [], none⟩ = some ir_spec_l4Partner := by kernel_rfl
instance : Has K 370 ir_spec_l4Partner := ⟨fun _ _ hb => KS.of_body tabOk mixed (r := ⟨370, 201, ⟨[.v, .v], [.v], [], none⟩⟩) rfl t370 Try.func201 hb⟩
theorem t373 : trF (cfOf Try.prog tab 45 [] none) (sgOf tab) [(0, .v), (2, (.o .v)), (3, (.o .v)), (4, (.o .v)), (5, .v), (6, .v), (14, .v), (20, .v)] [(1, [1]), (5, [0, 0, 1, 0]), (13, [1, 0]), (29, []), (93, []), (157, []), (29, []), (61, []), (61, []), (61, []), (29, []), (29, []), (2, [])] Try.f115 ⟨[.v], [(.o .v)], [], none⟩ = some ir_impl_partners := by kernel_rfl
instance : Has K 373 ir_impl_partners := ⟨fun _ _ hb => KS.of_body tabOk mixed (r := ⟨373, 115, ⟨[.v], [(.o .v)], [], none⟩⟩) rfl t373 Try.func115 hb⟩
theorem t374 : trF (cfOf Try.prog tab 30 [] none) (sgOf tab) [(0, .y), (1, .y), (4, .v)] [(3, []), (4, [])] Try.f245 ⟨[.y, .y], [.v], [], none⟩ = some ir_spec_l7Before := by kernel_rfl
instance : Has K 374 ir_spec_l7Before := ⟨fun _ _ hb => KS.of_body tabOk mixed (r := ⟨374, 245, ⟨[.y, .y], [.v], [], none⟩⟩) rfl t374 Try.func245 hb⟩
theorem t375 : trF (cfOf Try.prog tab 148 [0] none) (sgOf tab) [(0, (.o .v)), (1, .v), (2, .v), (3, .v), (4, .v), (10, .v), (11, .v), (12, .v), (13, .v), (14, .v), (15, .v), (16, .v), (17, .v), (18, .v), (19, .v), (20, .v), (25, .v), (32, .v), (39, .v), (56, .v), (75, .v), (80, .v), (97, .v), (125, .v)] [(63, []), (127, []), (255, []), (65791, []), (1, []), (131327, []), (1, []), (262399, []), (255, []), (255, []), (1023, []), (525311, []), (511, []), (511, []), (1023, []), (1049087, []), (2097663, []), (4194815, [0, 0, 0, 0, 0, 0, 0, 0, 0, 0, 0, 0, 0, 364, 0, 0, 0]), (1149, []), (127, []), (6303, []), (2271, []), (26847, []), (59487, []), (8448095, []), (2175, []), (2173, []), (127, []), (2175, []), (2171, []), (127, [])] Try.f236 ⟨[(.o .v), .v, .v, .v, .v], [], [0], none⟩ = some ir_slices_pdqsortCmpFunc___int_ := by kernel_rfl
instance : Has K 375 ir_slices_pdqsortCmpFunc___int_ := ⟨fun _ _ hb => KS.of_body tabOk mixed (r := ⟨375, 236, ⟨[(.o .v), .v, .v, .v, .v], [], [0], none⟩⟩) rfl t375 Try.func236 hb⟩
theorem t376 : trF (cfOf Try.prog tab 8 [] none) (sgOf tab) [(0, .v), (2, .v)] [(1, []), (2, []), (2, [])] Try.f237 ⟨[.v], [.v], [], none⟩ = some ir_math_bits_Len := by kernel_rfl
instance : Has K 376 ir_math_bits_Len := ⟨fun _ _ hb => KS.of_body tabOk mixed (r := ⟨376, 237, ⟨[.v], [.v], [], none⟩⟩) rfl t376 Try.func237 hb⟩
theorem t377 : trF (cfOf Try.prog tab 20 [] none) (sgOf tab) [(0, .v), (1, .v), (4, .v), (5, .v), (6, .v), (11, .v), (12, .v), (13, .v), (16, .v), (19, .v)] [(3, []), (11, []), (27, []), (51, []), (64, []), (4, []), (4, []), (131, []), (4, []), (259, []), (4, []), (512, []), (4, []), (4, [])] Try.f238 ⟨[.v, .v], [.v], [], none⟩ = some ir_cmp_Compare_int_ := by kernel_rfl
instance : Has K 377 ir_cmp_Compare_int_ := ⟨fun _ _ hb => KS.of_body tabOk mixed (r := ⟨377, 238, ⟨[.v, .v], [.v], [], none⟩⟩) rfl t377 Try.func238 hb⟩
theorem t378 : trF (cfOf Try.prog tab 18 [] none) (sgOf tab) [(0, .y), (1, .v), (4, .v), (5, .v), (9, .v), (17, .v)] [(3, []), (11, []), (27, []), (43, []), (4, []), (11, []), (4, [])] Try.f120 ⟨[.y, .v], [.v], [], none⟩ = some ir_spec_l15Has := by kernel_rfl
instance : Has K 378 ir_spec_l15Has := ⟨fun _ _ hb => KS.of_body tabOk mixed (r := ⟨378, 120, ⟨[.y, .v], [.v], [], none⟩⟩) rfl t378 Try.func120 hb⟩
theorem t379 : trF (cfOf Try.prog tab 41 [] none) (sgOf tab) [(0, .y), (2, .v), (3, .v), (7, .v), (37, .v)] [(1, []), (5, []), (13, []), (21, []), (2, []), (5, []), (2, [])] Try.f202 ⟨[.y], [.v], [], none⟩ = some ir_spec_IsMatching := by kernel_rfl
instance : Has K 379 ir_spec_IsMatching := ⟨fun _ _ hb => KS.of_body tabOk mixed (r := ⟨379, 202, ⟨[.y], [.v], [], none⟩⟩) rfl t379 Try.func202 hb⟩
theorem t380 : trF (cfOf Try.prog tab 35 [] none) (sgOf tab) [(0, .y), (2, .v), (3, .v), (4, .v), (7, .v), (8, .y), (9, .v), (10, .v), (11, .v), (33, .v)] [(1, []), (17, []), (2, []), (225, []), (481, []), (237, []), (737, []), (2, []), (225, []), (2, [])] Try.f211 ⟨[.y], [.v], [], none⟩ = some ir_impl_IsMatching := by kernel_rfl
instance : Has K 380 ir_impl_IsMatching := ⟨fun _ _ hb => KS.of_body tabOk mixed (r := ⟨380, 211, ⟨[.y], [.v], [], none⟩⟩) rfl t380 Try.func211 hb⟩
theorem t382 : trF (cfOf Try.prog tab 53 [0] none) (sgOf tab) [(0, (.o .v)), (1, .v), (2, .v), (3, .v), (8, .v), (9, .v), (14, .v), (34, .v)] [(31, []), (95, []), (63, []), (191, [0, 0, 0, 0, 0, 0, 0, 0, 0, 0, 0, 0, 0, 0, 364, 0, 0]), (63, [0, 0, 0, 0, 0, 0, 0, 0, 0, 0, 0, 0, 0, 0, 0, 2, 0, 2]), (63, []), (31, [])] Try.f246 ⟨[(.o .v), .v, .v, .v], [], [0], none⟩ = some ir_slices_insertionSortCmpFunc___int_ := by kernel_rfl
instance : Has K 382 ir_slices_insertionSortCmpFunc___int_ := ⟨fun _ _ hb => KS.of_body tabOk mixed (r := ⟨382, 246, ⟨[(.o .v), .v, .v, .v], [], [0], none⟩⟩) rfl t382 Try.func246 hb⟩
theorem t383 : trF (cfOf Try.prog tab 60 [0] none) (sgOf tab) [(0, (.o .v)), (1, .v), (2, .v), (3, .v), (8, .v), (9, .v), (10, .v), (11, .v), (12, .v), (21, .v), (33, .v)] [(31, []), (63, []), (121, []), (249, []), (761, []), (249, []), (249, []), (313, []), (1337, []), (313, [0, 0, 0, 0, 0, 0, 0, 0, 0, 0, 0, 0, 0, 0, 0, 0, 0, 2, 0, 2]), (313, []), (313, [])] Try.f247 ⟨[(.o .v), .v, .v, .v], [], [0], none⟩ = some ir_slices_heapSortCmpFunc___int_ := by kernel_rfl
instance : Has K 383 ir_slices_heapSortCmpFunc___int_ := ⟨fun _ _ hb => KS.of_body tabOk mixed (r := ⟨383, 247, ⟨[(.o .v), .v, .v, .v], [], [0], none⟩⟩) rfl t383 Try.func247 hb⟩
theorem t386 : trF (cfOf Try.prog tab 34 [0] none) (sgOf tab) [(0, (.o .v)), (1, .v), (2, .v), (3, .v), (8, .v), (9, .v), (15, .v)] [(21, []), (49, []), (113, []), (49, [0, 0, 0, 0, 0, 0, 0, 0, 0, 0, 0, 0, 0, 2, 0, 2]), (49, []), (49, [])] Try.f250 ⟨[(.o .v), .v, .v, .v], [], [0], none⟩ = some ir_slices_reverseRangeCmpFunc___int_ := by kernel_rfl
instance : Has K 386 ir_slices_reverseRangeCmpFunc___int_ := ⟨fun _ _ hb => KS.of_body tabOk mixed (r := ⟨386, 250, ⟨[(.o .v), .v, .v, .v], [], [0], none⟩⟩) rfl t386 Try.func250 hb⟩
theorem t387 : trF (cfOf Try.prog tab 141 [0] none) (sgOf tab) [(0, (.o .v)), (1, .v), (2, .v), (3, .v), (8, .v), (9, .v), (10, .v), (11, .v), (12, .v), (16, .v), (36, .v), (41, .v), (45, .v), (65, .v), (69, .v), (84, .v), (104, .v), (109, .v), (124, .v)] [(15, []), (47, []), (111, []), (623, []), (1135, [0, 0, 0, 0, 0, 0, 0, 0, 0, 0, 0, 0, 0, 0, 364, 0, 0, 0]), (111, []), (2159, []), (17, []), (4207, []), (17, []), (111, [0, 0, 0, 0, 0, 0, 0, 0, 0, 0, 0, 0, 0, 0, 0, 2, 0, 2]), (8303, []), (239, []), (16623, []), (33007, [0, 0, 0, 0, 0, 0, 0, 0, 0, 0, 364, 0, 0]), (239, [0, 0, 0, 0, 0, 0, 0, 0, 0, 0, 0, 0, 0, 0, 0, 2, 0, 2]), (239, []), (65647, []), (367, []), (131439, []), (262511, [0, 0, 0, 0, 0, 0, 0, 0, 0, 0, 364, 0, 0]), (367, [0, 0, 0, 0, 0, 0, 0, 0, 0, 0, 0, 0, 0, 0, 0, 2, 0, 2]), (367, []), (111, []), (17, [])] Try.f251 ⟨[(.o .v), .v, .v, .v], [.v], [0], none⟩ = some ir_slices_partialInsertionSortCmpFunc___int_ := by kernel_rfl
instance : Has K 387 ir_slices_partialInsertionSortCmpFunc___int_ := ⟨fun _ _ hb => KS.of_body tabOk mixed (r := ⟨387, 251, ⟨[(.o .v), .v, .v, .v], [.v], [0], none⟩⟩) rfl t387 Try.func251 hb⟩
theorem t388 : trF (cfOf Try.prog tab 90 [0] none) (sgOf tab) [(0, (.o .v)), (1, .v), (2, .v), (3, .v), (4, .v), (10, .v), (11, .v), (12, .v), (47, .v), (65, .v), (70, .v)] [(31, []), (23, [0, 0, 0, 0, 0, 0, 0, 0, 0, 0, 0, 0, 0, 2, 0, 2]), (211, []), (467, [0, 0, 0, 0, 0, 0, 0, 0, 0, 0, 0, 0, 0, 364, 0, 0, 0]), (211, []), (723, [0, 0, 0, 0, 0, 0, 0, 0, 0, 0, 0, 0, 0, 364, 0, 0]), (211, []), (1235, []), (211, [0, 0, 0, 0, 0, 0, 0, 0, 0, 0, 0, 0, 0, 2, 0, 2]), (211, []), (211, []), (33, [])] Try.f252 ⟨[(.o .v), .v, .v, .v, .v], [.v], [0], none⟩ = some ir_slices_partitionEqualCmpFunc___int_ := by kernel_rfl
instance : Has K 388 ir_slices_partitionEqualCmpFunc___int_ := ⟨fun _ _ hb => KS.of_body tabOk mixed (r := ⟨388, 252, ⟨[(.o .v), .v, .v, .v, .v], [.v], [0], none⟩⟩) rfl t388 Try.func252 hb⟩
theorem t389 : trF (cfOf Try.prog tab 178 [0] none) (sgOf tab) [(0, (.o .v)), (1, .v), (2, .v), (3, .v), (4, .v), (10, .v), (11, .v), (12, .v), (13, .v), (47, .v), (66, .v), (71, .v), (120, .v), (139, .v), (144, .v)] [(31, []), (23, [0, 0, 0, 0, 0, 0, 0, 0, 0, 0, 0, 0, 0, 2, 0, 2]), (403, []), (915, [0, 0, 0, 0, 0, 0, 0, 0, 0, 0, 0, 0, 0, 364, 0, 0]), (403, []), (1427, [0, 0, 0, 0, 0, 0, 0, 0, 0, 0, 0, 0, 0, 364, 0, 0, 0]), (403, []), (2451, []), (257, [0, 0, 0, 0, 0, 0, 0, 0, 0, 0, 0, 0, 0, 2, 0, 2]), (97, []), (403, [0, 0, 0, 0, 0, 0, 0, 0, 0, 0, 0, 0, 0, 2, 0, 2]), (403, []), (403, []), (4499, [0, 0, 0, 0, 0, 0, 0, 0, 0, 0, 0, 0, 0, 364, 0, 0]), (403, []), (8595, [0, 0, 0, 0, 0, 0, 0, 0, 0, 0, 0, 0, 0, 364, 0, 0, 0]), (403, []), (16787, []), (403, [0, 0, 0, 0, 0, 0, 0, 0, 0, 0, 0, 0, 0, 2, 0, 2]), (403, []), (403, []), (257, [0, 0, 0, 0, 0, 0, 0, 0, 0, 0, 0, 0, 0, 2, 0, 2]), (97, [])] Try.f253 ⟨[(.o .v), .v, .v, .v, .v], [.v, .v], [0], none⟩ = some ir_slices_partitionCmpFunc___int_ := by kernel_rfl
instance : Has K 389 ir_slices_partitionCmpFunc___int_ := ⟨fun _ _ hb => KS.of_body tabOk mixed (r := ⟨389, 253, ⟨[(.o .v), .v, .v, .v, .v], [.v, .v], [0], none⟩⟩) rfl t389 Try.func253 hb⟩
theorem t390 : trF (cfOf Try.prog tab 19 [] none) (sgOf tab) [(0, .v), (2, .v), (4, .v), (8, .v)] [(3, []), (7, []), (1, []), (3, []), (11, []), (3, []), (3, []), (2, [])] Try.f254 ⟨[.v], [.v], [], none⟩ = some ir_math_bits_Len32 := by kernel_rfl
instance : Has K 390 ir_math_bits_Len32 := ⟨fun _ _ hb => KS.of_body tabOk mixed (r := ⟨390, 254, ⟨[.v], [.v], [], none⟩⟩) rfl t390 Try.func254 hb⟩
theorem t391 : trF (cfOf Try.prog tab 25 [] none) (sgOf tab) [(0, .v), (2, .v), (4, .v), (8, .v), (14, .v)] [(3, []), (7, []), (1, []), (3, []), (11, []), (3, []), (3, []), (19, []), (3, []), (3, []), (2, [])] Try.f255 ⟨[.v], [.v], [], none⟩ = some ir_math_bits_Len64 := by kernel_rfl
instance : Has K 391 ir_math_bits_Len64 := ⟨fun _ _ hb => KS.of_body tabOk mixed (r := ⟨391, 255, ⟨[.v], [.v], [], none⟩⟩) rfl t391 Try.func255 hb⟩
theorem t392 : trF (cfOf Try.prog tab 82 [0] none) (sgOf tab) [(0, (.o .v)), (1, .v), (2, .v), (3, .v), (4, .v), (10, .v), (11, .v), (18, .v), (40, .v), (58, .v)] [(61, []), (125, []), (253, []), (381, [0, 0, 0, 0, 0, 0, 0, 0, 0, 0, 0, 0, 0, 0, 0, 0, 0, 0, 0, 364, 0, 0]), (125, []), (637, [0, 0, 0, 0, 0, 0, 0, 0, 0, 0, 0, 0, 0, 364, 0, 0]), (93, [0, 0, 0, 0, 0, 0, 0, 0, 0, 0, 0, 0, 0, 0, 0, 0, 0, 0, 0, 0, 0, 2, 0, 2]), (61, [])] Try.f261 ⟨[(.o .v), .v, .v, .v, .v], [], [0], none⟩ = some ir_slices_siftDownCmpFunc___int_ := by kernel_rfl
instance : Has K 392 ir_slices_siftDownCmpFunc___int_ := ⟨fun _ _ hb => KS.of_body tabOk mixed (r := ⟨392, 261, ⟨[(.o .v), .v, .v, .v, .v], [], [0], none⟩⟩) rfl t392 Try.func261 hb⟩
theorem t475 : trF (cfOf Try.prog tab 52 [] none) (sgOf tab) [(0, .y), (2, (.o .v)), (3, .v), (4, (.o .v)), (5, .v), (6, .v), (7, .v), (8, .v), (9, .v), (10, .v), (13, .v), (16, .y), (17, .v), (18, .v), (19, .v), (26, .y), (27, .v), (28, .v), (29, .v), (35, .v), (43, .v)] [(1, [1, 0]), (1025, []), (6, [1, 0, 0]), (9, [1, 0]), (25, []), (14361, []), (30745, []), (14457, []), (14585, []), (243929, []), (506073, []), (244697, []), (768473, []), (14489, []), (243929, []), (1063065, []), (14489, []), (14361, []), (14361, []), (6, [])] Try.f148 ⟨[.y], [(.o .v), .v], [], none⟩ = some ir_impl_RenumberBlocks := by kernel_rfl
instance : Has K 475 ir_impl_RenumberBlocks := ⟨fun _ _ hb => KS.of_body tabOk mixed (r := ⟨475, 148, ⟨[.y], [(.o .v), .v], [], none⟩⟩) rfl t475 Try.func148 hb⟩
theorem t478 : trF (cfOf Try.prog tab 24 [] none) (sgOf tab) [(0, .y), (2, .v), (3, .v), (5, .v), (8, .v), (9, .y), (10, .v), (11, .v), (12, .v), (18, .v)] [(1, []), (17, []), (2, []), (5, []), (228, []), (484, []), (236, []), (748, []), (2, []), (228, []), (228, []), (2, [])] Try.f152 ⟨[.y], [.v], [], none⟩ = some ir_impl_IsPartition := by kernel_rfl
instance : Has K 478 ir_impl_IsPartition := ⟨fun _ _ hb => KS.of_body tabOk mixed (r := ⟨478, 152, ⟨[.y], [.v], [], none⟩⟩) rfl t478 Try.func152 hb⟩
theorem t479 : trF (cfOf Try.prog tab 38 [] none) (sgOf tab) [(0, .y), (2, .v), (3, (.o (.o .v))), (4, .v), (5, .v), (9, .v), (11, .y), (12, .v), (13, .v), (14, .v), (21, .v)] [(1, []), (5, [2, 0]), (37, []), (2, []), (452, []), (964, []), (476, []), (1500, []), (476, [0, 1, 2, 0, 0]), (452, [500003, 0, 0, 0, 0, 0, 2601031, 0, 0, 0, 7, 0]), (452, []), (2, [])] Try.f153 ⟨[.y], [.v], [], none⟩ = some ir_impl_BlocksOf := by kernel_rfl
instance : Has K 479 ir_impl_BlocksOf := ⟨fun _ _ hb => KS.of_body tabOk mixed (r := ⟨479, 153, ⟨[.y], [.v], [], none⟩⟩) rfl t479 Try.func153 hb⟩
theorem t501 : trF (cfOf Try.prog tab 15 [] none) (sgOf tab) [(0, .v), (2, (.o .v)), (3, (.o .v)), (7, .v)] [(1, [1]), (9, []), (2, [1, 0]), (4, []), (2, [])] Try.f215 ⟨[.v], [(.o .v)], [], none⟩ = some ir_impl_HeightsOf := by kernel_rfl
instance : Has K 501 ir_impl_HeightsOf := ⟨fun _ _ hb => KS.of_body tabOk mixed (r := ⟨501, 215, ⟨[.v], [(.o .v)], [], none⟩⟩) rfl t501 Try.func215 hb⟩
theorem t503 : trF (cfOf Try.prog tab 67 [] none) (sgOf tab) [(0, .v), (2, (.o .v)), (3, .v), (4, .v), (5, (.o .v)), (6, .v), (7, .v), (8, (.o .v)), (9, .v), (12, .v), (22, .v), (35, .v), (46, .v), (52, .v)] [(1, [1, 0]), (513, []), (6, [1, 0, 0]), (9, []), (25, [0, 0, 1, 0]), (57, []), (121, []), (1145, []), (2169, []), (121, []), (121, []), (121, []), (153, [1, 0]), (409, []), (4505, []), (8601, []), (409, []), (409, []), (6, [])] Try.f112 ⟨[.v], [(.o .v), .v], [], none⟩ = some ir_impl_PartitionOf := by kernel_rfl
instance : Has K 503 ir_impl_PartitionOf := ⟨fun _ _ hb => KS.of_body tabOk mixed (r := ⟨503, 112, ⟨[.v], [(.o .v), .v], [], none⟩⟩) rfl t503 Try.func112 hb⟩
theorem t508 : trF (cfOf Try.prog tab 11 [] none) (sgOf tab) [(0, .v), (2, .v), (3, .v), (6, .v)] [(1, []), (9, []), (6, []), (6, [])] Try.f104 ⟨[.v], [.v, .v], [], none⟩ = some ir_impl_BracketsOf := by kernel_rfl
instance : Has K 508 ir_impl_BracketsOf := ⟨fun _ _ hb => KS.of_body tabOk mixed (r := ⟨508, 104, ⟨[.v], [.v, .v], [], none⟩⟩) rfl t508 Try.func104 hb⟩
theorem t510 : trF (cfOf Try.prog tab 44 [] none) (sgOf tab) [(0, .v), (2, (.o .v)), (3, .v), (4, (.o .v)), (5, (.o .v)), (6, .v), (9, .v), (16, .v), (22, .v)] [(1, [1, 0]), (65, []), (6, [1, 0, 0]), (9, [1, 0]), (25, [1, 0]), (57, []), (185, []), (313, []), (57, []), (57, []), (57, []), (57, []), (6, [])] Try.f105 ⟨[.v], [(.o .v), .v], [], none⟩ = some ir_impl_PlaneOf := by kernel_rfl
instance : Has K 510 ir_impl_PlaneOf := ⟨fun _ _ hb => KS.of_body tabOk mixed (r := ⟨510, 105, ⟨[.v], [(.o .v), .v], [], none⟩⟩) rfl t510 Try.func105 hb⟩
theorem t513 : trF (cfOf Try.prog tab 20 [] none) (sgOf tab) [(0, .v), (2, .v), (3, .v), (5, .v)] [(1, []), (9, []), (2, []), (5, []), (2, [])] Try.f97 ⟨[.v], [.v], [], none⟩ = some ir_spec_l6Binary := by kernel_rfl
instance : Has K 513 ir_spec_l6Binary := ⟨fun _ _ hb => KS.of_body tabOk mixed (r := ⟨513, 97, ⟨[.v], [.v], [], none⟩⟩) rfl t513 Try.func97 hb⟩
theorem t514 : trF (cfOf Try.prog tab 20 [] none) (sgOf tab) [(0, .v), (2, .v), (3, .v), (4, .v), (5, .v), (13, .v)] [(1, []), (28, []), (44, []), (2, []), (2, [])] Try.f109 ⟨[.v], [.v], [], none⟩ = some ir_impl_treeOfPath := by kernel_rfl
instance : Has K 514 ir_impl_treeOfPath := ⟨fun _ _ hb => KS.of_body tabOk mixed (r := ⟨514, 109, ⟨[.v], [.v], [], none⟩⟩) rfl t514 Try.func109 hb⟩
theorem t516 : trF (cfOf Try.prog tab 39 [] none) (sgOf tab) [(0, .y), (2, .v), (3, .v), (4, .v), (14, .v), (18, .v), (32, .v), (38, .v)] [(1, []), (17, []), (2, []), (5, []), (37, []), (13, []), (77, []), (13, []), (133, []), (2, []), (5, []), (2, [])] Try.f204 ⟨[.y], [.v], [], none⟩ = some ir_impl_IsPlane := by kernel_rfl
instance : Has K 516 ir_impl_IsPlane := ⟨fun _ _ hb => KS.of_body tabOk mixed (r := ⟨516, 204, ⟨[.y], [.v], [], none⟩⟩) rfl t516 Try.func204 hb⟩
theorem t518 : trF (cfOf Try.prog tab 22 [] none) (sgOf tab) [(0, .v), (2, .v), (3, .v), (4, .v), (8, .v), (14, .v), (20, .v)] [(1, []), (5, []), (13, []), (29, []), (45, []), (13, []), (13, []), (77, []), (2, []), (13, []), (2, [])] Try.f200 ⟨[.v], [.v], [], none⟩ = some ir_spec_l2Cut := by kernel_rfl
instance : Has K 518 ir_spec_l2Cut := ⟨fun _ _ hb => KS.of_body tabOk mixed (r := ⟨518, 200, ⟨[.v], [.v], [], none⟩⟩) rfl t518 Try.func200 hb⟩
theorem t519 : trF (cfOf Try.prog tab 30 [] none) (sgOf tab) [(0, .v), (2, .v), (3, .v), (4, .v), (5, .v), (6, .v), (13, .v), (20, .v)] [(1, []), (65, []), (14, []), (17, []), (49, []), (177, []), (49, []), (14, [])] Try.f210 ⟨[.v], [.v, .v, .v], [], none⟩ = some ir_impl_FirstReturn := by kernel_rfl
instance : Has K 519 ir_impl_FirstReturn := ⟨fun _ _ hb => KS.of_body tabOk mixed (r := ⟨519, 210, ⟨[.v], [.v, .v, .v], [], none⟩⟩) rfl t519 Try.func210 hb⟩
theorem t522 : trF (cfOf Try.prog tab 71 [] none) (sgOf tab) [(0, .v), (1, .v), (4, .v), (5, .v), (6, .v), (7, (.o .v)), (8, .v), (9, .v), (10, .v), (11, .v), (12, .v), (15, .v), (36, .v), (44, .v), (47, .v), (62, .v), (67, .v), (70, .v)] [(3, []), (2051, []), (4, []), (27, []), (123, []), (4155, []), (4, []), (187, []), (187, []), (443, []), (443, []), (8635, []), (4, []), (16571, []), (4, []), (1720, []), (32928, []), (4, []), (416, []), (384, []), (65920, []), (4, []), (131072, []), (4, []), (4, [])] Try.f6 ⟨[.v, .v], [.v], [], none⟩ = some ir_laws_FnExactListOf := by kernel_rfl
instance : Has K 522 ir_laws_FnExactListOf := ⟨fun _ _ hb => KS.of_body tabOk mixed (r := ⟨522, 6, ⟨[.v, .v], [.v], [], none⟩⟩) rfl t522 Try.func6 hb⟩
theorem t523 : trF (cfOf Try.prog tab 122 [] none) (sgOf tab) [(0, .v), (1, .v), (4, .v), (5, .v), (6, .v), (8, .v), (10, .v), (12, .v), (14, .v), (16, .v), (18, .v), (20, .v), (21, .v), (24, .v), (25, .v), (26, .v), (29, .v), (37, .v), (46, .v), (54, .v), (71, .v), (80, .v), (89, .v), (99, .v), (111, .v)] [(3, []), (8195, []), (12, []), (16386, []), (49154, []), (12, []), (81922, []), (16, []), (12, []), (147458, []), (32, []), (12, []), (278530, []), (64, []), (12, []), (540674, []), (130, []), (12, []), (1064962, []), (256, []), (12, []), (2113538, []), (512, []), (12, []), (4210690, []), (1024, []), (3072, []), (7168, []), (8395776, []), (7168, []), (7168, []), (12, []), (16777218, []), (12, []), (12, [])] Try.f12 ⟨[.v, .v], [.v, .v], [], none⟩ = some ir_spec_WriteAs := by kernel_rfl
instance : Has K 523 ir_spec_WriteAs := ⟨fun _ _ hb => KS.of_body tabOk mixed (r := ⟨523, 12, ⟨[.v, .v], [.v, .v], [], none⟩⟩) rfl t523 Try.func12 hb⟩
theorem t524 : trF (cfOf Try.prog tab 108 [] none) (sgOf tab) [(0, .v), (1, .v), (4, .v), (5, .v), (6, .v), (8, .v), (10, .v), (12, .v), (14, .v), (16, .v), (19, .v), (20, .v), (21, .v), (24, .v), (30, .v), (39, .v), (45, .v), (63, .v), (72, .v), (77, .v), (84, .v), (85, .v), (86, .v), (87, .v), (97, .v)] [(3, []), (1027, []), (12, []), (2050, []), (6146, []), (12, []), (10242, []), (12, []), (18434, []), (16, []), (12, []), (34818, []), (12, []), (67586, []), (34, []), (12, []), (133122, []), (64, []), (12, []), (264194, []), (12, []), (526338, []), (128, []), (384, []), (7340288, []), (15728896, []), (7340800, []), (7340288, []), (7340288, []), (12, []), (16777218, []), (12, []), (12, [])] Try.f13 ⟨[.v, .v], [.v, .v], [], none⟩ = some ir_impl_WriteAs := by kernel_rfl
instance : Has K 524 ir_impl_WriteAs := ⟨fun _ _ hb => KS.of_body tabOk mixed (r := ⟨524, 13, ⟨[.v, .v], [.v, .v], [], none⟩⟩) rfl t524 Try.func13 hb⟩
theorem t527 : trF (cfOf Try.prog tab 44 [] none) (sgOf tab) [(0, .v), (1, .v), (4, (.o .v)), (5, .v), (6, (.o .v)), (7, .v), (8, .v), (9, .v), (22, .v), (27, .v)] [(3, [1, 0]), (19, [1, 0]), (49, []), (305, []), (12, []), (113, []), (625, []), (241, []), (113, []), (113, []), (12, [])] Try.f16 ⟨[.v, .v], [(.o .v), .v], [], none⟩ = some ir_spec_ListOf := by kernel_rfl
instance : Has K 527 ir_spec_ListOf := ⟨fun _ _ hb => KS.of_body tabOk mixed (r := ⟨527, 16, ⟨[.v, .v], [(.o .v), .v], [], none⟩⟩) rfl t527 Try.func16 hb⟩
theorem t528 : trF (cfOf Try.prog tab 46 [] none) (sgOf tab) [(0, .v), (1, .v), (4, (.o .v)), (5, .v), (6, (.o .v)), (8, .v), (10, .v), (11, .v), (25, .v), (28, .v), (29, .v), (30, .v), (31, .v)] [(3, [1, 0]), (19, [1, 0]), (51, []), (275, []), (12, []), (3601, []), (7697, []), (3665, []), (3729, []), (3601, []), (3601, []), (12, [])] Try.f17 ⟨[.v, .v], [(.o .v), .v], [], none⟩ = some ir_impl_ListOf := by kernel_rfl
instance : Has K 528 ir_impl_ListOf := ⟨fun _ _ hb => KS.of_body tabOk mixed (r := ⟨528, 17, ⟨[.v, .v], [(.o .v), .v], [], none⟩⟩) rfl t528 Try.func17 hb⟩
theorem t529 : trF (cfOf Try.prog tab 27 [] none) (sgOf tab) [(0, .y), (2, .v), (3, .v), (4, .v), (12, .v), (16, .v)] [(1, []), (5, []), (13, []), (29, []), (45, []), (13, []), (13, []), (13, []), (2, [])] Try.f94 ⟨[.y], [.v], [], none⟩ = some ir_spec_FormatPlane := by kernel_rfl
instance : Has K 529 ir_spec_FormatPlane := ⟨fun _ _ hb => KS.of_body tabOk mixed (r := ⟨529, 94, ⟨[.y], [.v], [], none⟩⟩) rfl t529 Try.func94 hb⟩
theorem t530 : trF (cfOf Try.prog tab 9 [] none) (sgOf tab) [(0, .v), (2, .v), (3, .v), (6, .v)] [(1, []), (9, []), (6, []), (6, [])] Try.f95 ⟨[.v], [.v, .v], [], none⟩ = some ir_spec_BinaryOf := by kernel_rfl
instance : Has K 530 ir_spec_BinaryOf := ⟨fun _ _ hb => KS.of_body tabOk mixed (r := ⟨530, 95, ⟨[.v], [.v, .v], [], none⟩⟩) rfl t530 Try.func95 hb⟩
theorem t531 : trF (cfOf Try.prog tab 18 [] none) (sgOf tab) [(0, .v), (2, (.o .v)), (3, .v), (4, .v), (7, .v)] [(1, [1, 0]), (17, []), (6, [1, 0, 0]), (9, []), (6, [0, 0, 0, 1, 0, 0, 0, 0])] Try.f96 ⟨[.v], [(.o .v), .v], [], none⟩ = some ir_spec_TriangulationOf := by kernel_rfl
instance : Has K 531 ir_spec_TriangulationOf := ⟨fun _ _ hb => KS.of_body tabOk mixed (r := ⟨531, 96, ⟨[.v], [(.o .v), .v], [], none⟩⟩) rfl t531 Try.func96 hb⟩
theorem t532 : trF (cfOf Try.prog tab 40 [] none) (sgOf tab) [(0, .y), (2, .v), (3, .v), (4, .v), (5, .v), (6, .v), (12, .v), (16, .v), (25, .v)] [(1, []), (4, []), (12, []), (28, []), (92, []), (156, []), (28, []), (60, []), (316, []), (60, []), (60, []), (28, []), (2, [])] Try.f100 ⟨[.y], [.v], [], none⟩ = some ir_spec_FormatPartition := by kernel_rfl
instance : Has K 532 ir_spec_FormatPartition := ⟨fun _ _ hb => KS.of_body tabOk mixed (r := ⟨532, 100, ⟨[.y], [.v], [], none⟩⟩) rfl t532 Try.func100 hb⟩
theorem t533 : trF (cfOf Try.prog tab 44 [] none) (sgOf tab) [(0, .y), (2, .v), (3, .v), (4, .v), (12, .v), (20, .v), (22, .v), (42, .v)] [(1, []), (5, []), (13, []), (29, []), (45, []), (77, []), (13, []), (13, []), (13, []), (132, []), (2, []), (2, [])] Try.f102 ⟨[.y], [.v], [], none⟩ = some ir_spec_FormatMatching := by kernel_rfl
instance : Has K 533 ir_spec_FormatMatching := ⟨fun _ _ hb => KS.of_body tabOk mixed (r := ⟨533, 102, ⟨[.y], [.v], [], none⟩⟩) rfl t533 Try.func102 hb⟩
theorem t534 : trF (cfOf Try.prog tab 24 [] none) (sgOf tab) [(0, .y), (2, .v), (3, (.o .v)), (5, .v), (8, .v), (10, .y), (11, .v), (12, .v), (13, .v)] [(1, []), (17, []), (2, []), (5, [1, 0]), (228, []), (484, []), (236, []), (228, []), (228, []), (2, [])] Try.f106 ⟨[.y], [.v], [], none⟩ = some ir_impl_FormatPlane := by kernel_rfl
instance : Has K 534 ir_impl_FormatPlane := ⟨fun _ _ hb => KS.of_body tabOk mixed (r := ⟨534, 106, ⟨[.y], [.v], [], none⟩⟩) rfl t534 Try.func106 hb⟩
theorem t535 : trF (cfOf Try.prog tab 10 [] none) (sgOf tab) [(0, .v), (2, .v), (3, .v), (6, .v)] [(1, []), (9, []), (6, []), (6, [])] Try.f107 ⟨[.v], [.v, .v], [], none⟩ = some ir_impl_BinaryOf := by kernel_rfl
instance : Has K 535 ir_impl_BinaryOf := ⟨fun _ _ hb => KS.of_body tabOk mixed (r := ⟨535, 107, ⟨[.v], [.v, .v], [], none⟩⟩) rfl t535 Try.func107 hb⟩
theorem t536 : trF (cfOf Try.prog tab 29 [] none) (sgOf tab) [(0, .v), (2, (.o .v)), (3, .v), (4, .v), (5, .v), (7, (.o .v)), (14, .v)] [(1, [1, 0]), (24, []), (72, []), (6, [1, 0, 0]), (32, [0, 0, 0, 0, 1, 1, 0, 0, 0, 0, 0, 0]), (32, []), (6, [])] Try.f108 ⟨[.v], [(.o .v), .v], [], none⟩ = some ir_impl_TriangulationOf := by kernel_rfl
instance : Has K 536 ir_impl_TriangulationOf := ⟨fun _ _ hb => KS.of_body tabOk mixed (r := ⟨536, 108, ⟨[.v], [(.o .v), .v], [], none⟩⟩) rfl t536 Try.func108 hb⟩
theorem t537 : trF (cfOf Try.prog tab 36 [] none) (sgOf tab) [(0, .y), (2, .v), (3, (.o .v)), (5, .v), (6, .v), (8, .v), (11, .v), (12, .v), (13, .v), (14, .v), (17, .v), (18, .v), (19, .v), (20, .v)] [(1, []), (5, [1, 0]), (452, []), (964, []), (460, []), (476, []), (7636, []), (15828, []), (7668, []), (7636, []), (7636, []), (452, []), (452, []), (2, [])] Try.f113 ⟨[.y], [.v], [], none⟩ = some ir_impl_FormatPartition := by kernel_rfl
instance : Has K 537 ir_impl_FormatPartition := ⟨fun _ _ hb => KS.of_body tabOk mixed (r := ⟨537, 113, ⟨[.y], [.v], [], none⟩⟩) rfl t537 Try.func113 hb⟩
theorem t538 : trF (cfOf Try.prog tab 35 [] none) (sgOf tab) [(0, .y), (2, .v), (3, (.o .v)), (4, .v), (5, .v), (8, .v), (11, .v), (13, .y), (14, .v), (15, .v), (16, .v), (22, .v)] [(1, []), (33, []), (2, []), (65, []), (2, []), (5, [1, 0]), (900, []), (1924, []), (924, []), (2972, []), (900, []), (900, []), (2, [])] Try.f114 ⟨[.y], [.v], [], none⟩ = some ir_impl_FormatMatching := by kernel_rfl
instance : Has K 538 ir_impl_FormatMatching := ⟨fun _ _ hb => KS.of_body tabOk mixed (r := ⟨538, 114, ⟨[.y], [.v], [], none⟩⟩) rfl t538 Try.func114 hb⟩
theorem t539 : trF (cfOf Try.prog tab 51 [] none) (sgOf tab) [(0, .v), (2, (.o .v)), (3, .v), (4, (.o .v)), (5, (.o .v)), (6, .v), (7, .v), (8, .v), (11, .v), (21, .v), (27, .v)] [(1, [1, 0]), (257, []), (6, [1, 0, 0]), (9, [0, 0, 0, 1, 0]), (25, [1, 0]), (121, []), (249, []), (761, []), (1273, []), (249, []), (249, []), (249, []), (249, []), (249, []), (249, []), (6, [])] Try.f116 ⟨[.v], [(.o .v), .v], [], none⟩ = some ir_impl_PermutationOf := by kernel_rfl
instance : Has K 539 ir_impl_PermutationOf := ⟨fun _ _ hb => KS.of_body tabOk mixed (r := ⟨539, 116, ⟨[.v], [(.o .v), .v], [], none⟩⟩) rfl t539 Try.func116 hb⟩
theorem t540 : trF (cfOf Try.prog tab 64 [] none) (sgOf tab) [(0, .v), (1, .v), (2, .v), (3, (.o .v)), (4, .v), (10, (.o .v)), (11, .v), (12, .v), (14, .v), (30, .v)] [(31, [1]), (287, []), (32, []), (543, []), (31, [1000, 0, 0, 1000, 0, 0]), (95, []), (223, []), (221, []), (32, [])] Try.f199 ⟨[.v, .v, .v, (.o .v), .v], [(.o .v)], [], none⟩ = some ir_spec_l7Cut := by kernel_rfl
instance : Has K 540 ir_spec_l7Cut := ⟨fun _ _ hb => KS.of_body tabOk mixed (r := ⟨540, 199, ⟨[.v, .v, .v, (.o .v), .v], [(.o .v)], [], none⟩⟩) rfl t540 Try.func199 hb⟩
theorem t541 : trF (cfOf Try.prog tab 77 [] none) (sgOf tab) [(0, .v), (1, .v), (2, .v), (3, (.o .v)), (4, (.o .v)), (10, (.o .v)), (11, (.o .v)), (12, .v), (14, .v), (36, .v), (47, .v)] [(31, [1, 1]), (287, []), (96, []), (159, []), (159, []), (671, []), (159, []), (1183, []), (159, []), (157, []), (96, [])] Try.f206 ⟨[.v, .v, .v, (.o .v), (.o .v)], [(.o .v), (.o .v)], [], none⟩ = some ir_impl_tree_triangles := by kernel_rfl
instance : Has K 541 ir_impl_tree_triangles := ⟨fun _ _ hb => KS.of_body tabOk mixed (r := ⟨541, 206, ⟨[.v, .v, .v, (.o .v), (.o .v)], [(.o .v), (.o .v)], [], none⟩⟩) rfl t541 Try.func206 hb⟩
end Go.Proofs.Ytdifmcppfcbgdaa.fnExactListOf

