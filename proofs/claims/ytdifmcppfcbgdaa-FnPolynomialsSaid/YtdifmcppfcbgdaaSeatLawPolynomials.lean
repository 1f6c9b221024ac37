/-
  Texts of the little language.
-/
import Derived.Test.YtdifmcppfcbgdaaIrAllA
import Derived.Test.YtdifmcppfcbgdaaRows
import Derived.Test.YtdifmcppfcbgdaaCatThree
namespace Go.Proofs.Ytdifmcppfcbgdaa.fnPolynomials
open Go Go.Cat Go.Proofs
set_option maxRecDepth 100000
def tab : List Row := [⟨10, 36, ⟨[.v, .v], [.v], [], none⟩⟩,
  ⟨22, 131, ⟨[.v, .v, .v], [.v], [], none⟩⟩,
  ⟨23, 121, ⟨[.v, .v, .v], [.v], [], none⟩⟩,
  ⟨25, 138, ⟨[.v, .v], [.v], [], none⟩⟩,
  ⟨64, 80, ⟨[.v], [.v], [], none⟩⟩,
  ⟨67, 85, ⟨[.v], [.v], [], none⟩⟩,
  ⟨75, 155, ⟨[.y], [(.o .v)], [], none⟩⟩,
  ⟨82, 190, ⟨[.v], [(.o .v), .v], [], none⟩⟩,
  ⟨138, 81, ⟨[.v], [.v], [], none⟩⟩,
  ⟨143, 87, ⟨[.v], [.v], [], none⟩⟩,
  ⟨184, 144, ⟨[.y, .v], [.v], [], none⟩⟩,
  ⟨220, 21, ⟨[.v], [.v], [], none⟩⟩,
  ⟨234, 119, ⟨[.v], [(.o .v)], [], none⟩⟩,
  ⟨235, 84, ⟨[.v, .v], [.v], [], none⟩⟩,
  ⟨239, 25, ⟨[.y, .y], [.v], [], none⟩⟩,
  ⟨288, 124, ⟨[.v], [(.b .v)], [], none⟩⟩,
  ⟨289, 127, ⟨[(.b .v), .v], [.v], [0], none⟩⟩,
  ⟨292, 212, ⟨[.v, .v, .v], [(.o .v)], [], none⟩⟩,
  ⟨293, 183, ⟨[.v], [.v], [], none⟩⟩,
  ⟨294, 184, ⟨[.v], [.v], [], none⟩⟩,
  ⟨295, 185, ⟨[.v, .v], [.v], [], none⟩⟩,
  ⟨296, 186, ⟨[.v], [.v], [], none⟩⟩,
  ⟨297, 92, ⟨[.v], [.v, .v], [], none⟩⟩,
  ⟨298, 187, ⟨[.v], [.v], [], none⟩⟩,
  ⟨299, 93, ⟨[.v], [(.o .v), .v], [], none⟩⟩,
  ⟨300, 188, ⟨[.y], [.v], [], none⟩⟩,
  ⟨301, 99, ⟨[.v], [(.o .v), .v], [], none⟩⟩,
  ⟨302, 166, ⟨[.y], [.v], [], none⟩⟩,
  ⟨303, 189, ⟨[.v], [.v], [], none⟩⟩,
  ⟨307, 126, ⟨[(.b .v), .v], [.v], [0], none⟩⟩,
  ⟨313, 141, ⟨[(.b .v), .y], [.v], [0], none⟩⟩,
  ⟨314, 134, ⟨[.v], [(.o .v)], [], none⟩⟩,
  ⟨316, 213, ⟨[(.b .v)], [.v], [0], none⟩⟩,
  ⟨319, 228, ⟨[.v], [(.o .v)], [], none⟩⟩,
  ⟨320, 229, ⟨[.v], [.v, .v], [], none⟩⟩,
  ⟨321, 196, ⟨[.y], [.v], [], none⟩⟩,
  ⟨322, 230, ⟨[.y, .v], [(.o .v)], [], none⟩⟩,
  ⟨323, 151, ⟨[.y], [(.o .v)], [], none⟩⟩,
  ⟨324, 160, ⟨[.y], [.v], [], none⟩⟩,
  ⟨326, 214, ⟨[.v, .v, .v, (.b (.o .v)), .v], [], [3], (some (4, 326, [3, 4]))⟩⟩,
  ⟨398, 7, ⟨[.v], [.v], [], none⟩⟩,
  ⟨402, 22, ⟨[.v], [(.o .v), (.o .v)], [], none⟩⟩,
  ⟨403, 23, ⟨[.y, .y], [(.o .v), (.o .v), .v], [], none⟩⟩,
  ⟨404, 24, ⟨[.y, .y], [(.o .v), (.o .v), .v], [], none⟩⟩,
  ⟨405, 26, ⟨[.y, .y], [(.o .v), .v], [], none⟩⟩,
  ⟨406, 27, ⟨[.y, .y], [(.o .v), .v], [], none⟩⟩,
  ⟨407, 28, ⟨[.v, .v], [.v], [], none⟩⟩,
  ⟨408, 29, ⟨[.v], [(.o .v), .v], [], none⟩⟩,
  ⟨409, 30, ⟨[.v], [(.o .v), .v], [], none⟩⟩,
  ⟨410, 31, ⟨[.v, .v], [(.o .v), .v], [], none⟩⟩,
  ⟨411, 32, ⟨[.v], [.v, .v], [], none⟩⟩,
  ⟨412, 33, ⟨[.v, .v], [(.o .v), .v], [], none⟩⟩,
  ⟨413, 34, ⟨[.v, .v], [.v, .v], [], none⟩⟩,
  ⟨414, 35, ⟨[.y, .v], [.v, .v], [], none⟩⟩,
  ⟨415, 37, ⟨[.v], [(.o .v), (.o .v)], [], none⟩⟩,
  ⟨416, 38, ⟨[.y, .y], [(.o .v), .v], [], none⟩⟩,
  ⟨417, 39, ⟨[.v], [(.o .v), (.o .v)], [], none⟩⟩,
  ⟨418, 40, ⟨[.y, .y], [(.o .v), .v], [], none⟩⟩,
  ⟨419, 41, ⟨[.v], [(.o .v), .v], [], none⟩⟩,
  ⟨420, 42, ⟨[.y, .v], [.v, .v], [], none⟩⟩,
  ⟨421, 43, ⟨[.v], [.v], [], none⟩⟩,
  ⟨422, 44, ⟨[.v], [(.o .v), .v], [], none⟩⟩,
  ⟨423, 45, ⟨[.v], [(.o .v), .v], [], none⟩⟩,
  ⟨424, 46, ⟨[.v], [.v], [], none⟩⟩,
  ⟨425, 47, ⟨[.v], [(.o .v), .v], [], none⟩⟩,
  ⟨426, 48, ⟨[.v], [.v], [], none⟩⟩,
  ⟨427, 49, ⟨[.v], [.v, .v], [], none⟩⟩,
  ⟨428, 50, ⟨[.y], [.v], [], none⟩⟩,
  ⟨429, 51, ⟨[.y], [.v], [], none⟩⟩,
  ⟨430, 52, ⟨[.y], [.v], [], none⟩⟩,
  ⟨431, 53, ⟨[.y], [.v], [], none⟩⟩,
  ⟨459, 125, ⟨[(.b .v)], [(.o .v)], [0], none⟩⟩,
  ⟨460, 128, ⟨[.y], [.v], [], none⟩⟩,
  ⟨461, 129, ⟨[.y, .y], [(.o .v), (.o .v), .v], [], none⟩⟩,
  ⟨462, 130, ⟨[.y], [.v], [], none⟩⟩,
  ⟨463, 132, ⟨[.y], [(.o .v)], [], none⟩⟩,
  ⟨464, 133, ⟨[.y, .y], [(.o .v)], [], none⟩⟩,
  ⟨465, 135, ⟨[.v], [.v], [], none⟩⟩,
  ⟨466, 136, ⟨[.v, .v], [(.o .v)], [], none⟩⟩,
  ⟨467, 137, ⟨[.v, .v], [.v], [], none⟩⟩,
  ⟨468, 139, ⟨[.v], [(.o .v), (.o .v)], [], none⟩⟩,
  ⟨469, 140, ⟨[(.o .v)], [(.o .v)], [], none⟩⟩,
  ⟨470, 142, ⟨[.v], [(.o .v)], [], none⟩⟩,
  ⟨471, 143, ⟨[.y, .y], [(.o .v), (.o .v)], [], none⟩⟩,
  ⟨501, 215, ⟨[.v], [(.o .v)], [], none⟩⟩]
theorem tabOk : tabOK Try.prog tab = true := by kernel_rfl
theorem mixed : Try.prog.follows .mixedOrders = true := Try.checked.mixed
abbrev K := KS Try.prog tab
theorem t10 : trF (cfOf Try.prog tab 18 [] none) (sgOf tab) [(0, .v), (1, .v), (4, .v), (12, .v)] [(3, []), (11, []), (4, []), (4, [])] Try.f36 ⟨[.v, .v], [.v], [], none⟩ = some ir_impl_CountWords := by kernel_rfl
instance : Has K 10 ir_impl_CountWords := ⟨fun _ _ hb => KS.of_body tabOk mixed (r := ⟨10, 36, ⟨[.v, .v], [.v], [], none⟩⟩) rfl t10 Try.func36 hb⟩
theorem t22 : trF (cfOf Try.prog tab 15 [] none) (sgOf tab) [(0, .v), (1, .v), (2, .v), (6, .v)] [(7, []), (8, [])] Try.f131 ⟨[.v, .v, .v], [.v], [], none⟩ = some ir_spec_l1In := by kernel_rfl
instance : Has K 22 ir_spec_l1In := ⟨fun _ _ hb => KS.of_body tabOk mixed (r := ⟨22, 131, ⟨[.v, .v, .v], [.v], [], none⟩⟩) rfl t22 Try.func131 hb⟩
theorem t23 : trF (cfOf Try.prog tab 15 [] none) (sgOf tab) [(0, .v), (1, .v), (2, .v), (6, .v)] [(7, []), (8, [])] Try.f121 ⟨[.v, .v, .v], [.v], [], none⟩ = some ir_impl_within := by kernel_rfl
instance : Has K 23 ir_impl_within := ⟨fun _ _ hb => KS.of_body tabOk mixed (r := ⟨23, 121, ⟨[.v, .v, .v], [.v], [], none⟩⟩) rfl t23 Try.func121 hb⟩
theorem t25 : trF (cfOf Try.prog tab 29 [] none) (sgOf tab) [(0, .v), (1, .v), (4, .v), (5, .v), (6, .v), (13, .v), (16, .v)] [(3, []), (35, []), (4, []), (11, []), (27, []), (91, []), (27, []), (27, []), (4, [])] Try.f138 ⟨[.v, .v], [.v], [], none⟩ = some ir_impl_choose := by kernel_rfl
instance : Has K 25 ir_impl_choose := ⟨fun _ _ hb => KS.of_body tabOk mixed (r := ⟨25, 138, ⟨[.v, .v], [.v], [], none⟩⟩) rfl t25 Try.func138 hb⟩
theorem t64 : trF (cfOf Try.prog tab 31 [] none) (sgOf tab) [(0, .v), (2, .v), (3, .v), (4, .v), (8, .v), (13, .v), (14, .v), (18, .v), (23, .v)] [(1, []), (5, []), (13, []), (29, []), (45, []), (109, []), (13, []), (141, []), (13, []), (2, []), (269, []), (2, []), (13, []), (2, [])] Try.f80 ⟨[.v], [.v], [], none⟩ = some ir_spec_IsDyck := by kernel_rfl
instance : Has K 64 ir_spec_IsDyck := ⟨fun _ _ hb => KS.of_body tabOk mixed (r := ⟨64, 80, ⟨[.v], [.v], [], none⟩⟩) rfl t64 Try.func80 hb⟩
theorem t67 : trF (cfOf Try.prog tab 14 [] none) (sgOf tab) [(0, .v), (2, .v), (4, .v), (7, .v)] [(1, []), (9, []), (2, []), (4, []), (2, [])] Try.f85 ⟨[.v], [.v], [], none⟩ = some ir_impl_IsDyck := by kernel_rfl
instance : Has K 67 ir_impl_IsDyck := ⟨fun _ _ hb => KS.of_body tabOk mixed (r := ⟨67, 85, ⟨[.v], [.v], [], none⟩⟩) rfl t67 Try.func85 hb⟩
theorem t75 : trF (cfOf Try.prog tab 6 [] none) (sgOf tab) [(0, .y), (2, (.o .v))] [(1, [1]), (2, [1, 0, 0, 0])] Try.f155 ⟨[.y], [(.o .v)], [], none⟩ = some ir_impl_copyInts := by kernel_rfl
instance : Has K 75 ir_impl_copyInts := ⟨fun _ _ hb => KS.of_body tabOk mixed (r := ⟨75, 155, ⟨[.y], [(.o .v)], [], none⟩⟩) rfl t75 Try.func155 hb⟩
theorem t82 : trF (cfOf Try.prog tab 34 [] none) (sgOf tab) [(0, .v), (2, (.o .v)), (3, .v), (4, (.o .v)), (5, .v), (6, .v), (11, .v), (16, .v), (17, .v), (21, .v), (26, .v)] [(1, [1, 0]), (9, [1, 0]), (25, []), (57, []), (121, []), (185, []), (441, []), (57, []), (569, []), (57, []), (6, [1, 0]), (1081, []), (6, [1, 0]), (57, []), (57, []), (6, [])] Try.f190 ⟨[.v], [(.o .v), .v], [], none⟩ = some ir_impl_heights := by kernel_rfl
instance : Has K 82 ir_impl_heights := ⟨fun _ _ hb => KS.of_body tabOk mixed (r := ⟨82, 190, ⟨[.v], [(.o .v), .v], [], none⟩⟩) rfl t82 Try.func190 hb⟩
theorem t138 : trF (cfOf Try.prog tab 31 [] none) (sgOf tab) [(0, .v), (2, .v), (3, .v), (4, .v), (5, .v), (7, .v), (11, .v), (15, .v), (27, .v)] [(1, []), (33, []), (2, []), (5, []), (13, []), (77, []), (29, []), (157, []), (29, []), (13, []), (13, []), (260, []), (2, []), (2, [])] Try.f81 ⟨[.v], [.v], [], none⟩ = some ir_spec_FormatInt := by kernel_rfl
instance : Has K 138 ir_spec_FormatInt := ⟨fun _ _ hb => KS.of_body tabOk mixed (r := ⟨138, 81, ⟨[.v], [.v], [], none⟩⟩) rfl t138 Try.func81 hb⟩
theorem t143 : trF (cfOf Try.prog tab 59 [] none) (sgOf tab) [(0, .v), (2, .v), (3, (.o .v)), (4, .v), (5, .v), (6, .v), (7, .v), (9, .v), (13, .v), (19, .v), (29, .v), (38, .v)] [(1, []), (129, []), (2, []), (5, [1, 0]), (13, []), (269, []), (29, []), (541, []), (29, []), (13, []), (13, []), (1028, []), (4, []), (100, []), (2148, []), (100, [0, 0, 0, 0, 0, 0, 0, 0, 0, 0, 0, 0, 0, 5, 0, 5]), (100, []), (2, [])] Try.f87 ⟨[.v], [.v], [], none⟩ = some ir_impl_FormatInt := by kernel_rfl
instance : Has K 143 ir_impl_FormatInt := ⟨fun _ _ hb => KS.of_body tabOk mixed (r := ⟨143, 87, ⟨[.v], [.v], [], none⟩⟩) rfl t143 Try.func87 hb⟩
theorem t184 : trF (cfOf Try.prog tab 25 [] none) (sgOf tab) [(0, .y), (1, .v), (4, .v), (5, .v), (6, .v), (7, .v), (8, .y), (9, .v), (10, .v), (11, .v), (16, .v)] [(3, []), (11, []), (458, []), (970, []), (506, []), (1514, []), (490, []), (458, []), (458, []), (4, [])] Try.f144 ⟨[.y, .v], [.v], [], none⟩ = some ir_impl_glued := by kernel_rfl
instance : Has K 184 ir_impl_glued := ⟨fun _ _ hb => KS.of_body tabOk mixed (r := ⟨184, 144, ⟨[.y, .v], [.v], [], none⟩⟩) rfl t184 Try.func144 hb⟩
theorem t220 : trF (cfOf Try.prog tab 6 [] none) (sgOf tab) [(0, .v), (2, .v)] [(1, []), (2, [])] Try.f21 ⟨[.v], [.v], [], none⟩ = some ir_laws_big := by kernel_rfl
instance : Has K 220 ir_laws_big := ⟨fun _ _ hb => KS.of_body tabOk mixed (r := ⟨220, 21, ⟨[.v], [.v], [], none⟩⟩) rfl t220 Try.func21 hb⟩
theorem t234 : trF (cfOf Try.prog tab 10 [] none) (sgOf tab) [(0, .v), (2, (.o .v)), (5, .v)] [(1, [1]), (5, []), (2, [1, 0]), (2, [])] Try.f119 ⟨[.v], [(.o .v)], [], none⟩ = some ir_spec_PathsOf := by kernel_rfl
instance : Has K 234 ir_spec_PathsOf := ⟨fun _ _ hb => KS.of_body tabOk mixed (r := ⟨234, 119, ⟨[.v], [(.o .v)], [], none⟩⟩) rfl t234 Try.func119 hb⟩
theorem t235 : trF (cfOf Try.prog tab 67 [] none) (sgOf tab) [(0, .v), (1, .v), (4, .v), (5, .v), (7, .v), (9, .v), (13, .v), (14, .v), (15, .v), (19, .v), (23, .v), (27, .v), (31, .v), (35, .v), (44, .v), (53, .v), (63, .v)] [(3, []), (67, []), (4, []), (130, []), (386, []), (4, []), (642, []), (4, []), (1154, []), (4, []), (2178, []), (4, []), (4226, []), (4, []), (8322, []), (8, []), (4, []), (16514, []), (16, []), (4, []), (32898, []), (32, []), (4, []), (65538, []), (4, []), (4, [])] Try.f84 ⟨[.v, .v], [.v], [], none⟩ = some ir_spec_StatisticOf := by kernel_rfl
instance : Has K 235 ir_spec_StatisticOf := ⟨fun _ _ hb => KS.of_body tabOk mixed (r := ⟨235, 84, ⟨[.v, .v], [.v], [], none⟩⟩) rfl t235 Try.func84 hb⟩
theorem t239 : trF (cfOf Try.prog tab 26 [] none) (sgOf tab) [(0, .y), (1, .y), (4, .v), (5, .v), (10, .v), (14, .v), (25, .v)] [(3, []), (19, []), (4, []), (11, []), (43, []), (75, []), (4, []), (11, []), (4, [])] Try.f25 ⟨[.y, .y], [.v], [], none⟩ = some ir_laws_sameInts := by kernel_rfl
instance : Has K 239 ir_laws_sameInts := ⟨fun _ _ hb => KS.of_body tabOk mixed (r := ⟨239, 25, ⟨[.y, .y], [.v], [], none⟩⟩) rfl t239 Try.func25 hb⟩
theorem t288 : trF (cfOf Try.prog tab 32 [] none) (sgOf tab) [(0, .v), (2, (.b .v)), (3, .v), (4, .v), (15, .v)] [(1, []), (5, []), (13, []), (29, []), (13, []), (13, []), (2, [0, 0, 0, 1, 0])] Try.f124 ⟨[.v], [(.b .v)], [], none⟩ = some ir_spec_l1New := by kernel_rfl
instance : Has K 288 ir_spec_l1New := ⟨fun _ _ hb => KS.of_body tabOk mixed (r := ⟨288, 124, ⟨[.v], [(.b .v)], [], none⟩⟩) rfl t288 Try.func124 hb⟩
theorem t289 : trF (cfOf Try.prog tab 37 [0] none) (sgOf tab) [(0, (.b .v)), (1, .v), (4, .v), (5, .v), (6, .v), (7, .v), (8, .v), (10, .v), (12, .v)] [(3, []), (131, []), (5, []), (259, []), (5, []), (11, []), (27, []), (59, []), (123, []), (5, [])] Try.f127 ⟨[(.b .v), .v], [.v], [0], none⟩ = some ir_spec_l1Below := by kernel_rfl
instance : Has K 289 ir_spec_l1Below := ⟨fun _ _ hb => KS.of_body tabOk mixed (r := ⟨289, 127, ⟨[(.b .v), .v], [.v], [0], none⟩⟩) rfl t289 Try.func127 hb⟩
theorem t292 : trF (cfOf Try.prog tab 35 [] none) (sgOf tab) [(0, .v), (1, .v), (2, .v), (6, (.o .v)), (7, (.o .v)), (9, .v), (14, .v), (25, .v)] [(7, [1]), (39, []), (8, [0, 1, 0]), (23, [1, 0]), (87, []), (23, []), (151, []), (16, []), (8, [])] Try.f212 ⟨[.v, .v, .v], [(.o .v)], [], none⟩ = some ir_spec_l3All := by kernel_rfl
instance : Has K 292 ir_spec_l3All := ⟨fun _ _ hb => KS.of_body tabOk mixed (r := ⟨292, 212, ⟨[.v, .v, .v], [(.o .v)], [], none⟩⟩) rfl t292 Try.func212 hb⟩
theorem t293 : trF (cfOf Try.prog tab 24 [] none) (sgOf tab) [(0, .v), (2, .v), (3, .v), (4, .v), (7, .v), (11, .v), (20, .v)] [(1, []), (17, []), (2, []), (5, []), (13, []), (45, []), (77, []), (13, []), (13, []), (2, [])] Try.f183 ⟨[.v], [.v], [], none⟩ = some ir_spec_PeaksOf := by kernel_rfl
instance : Has K 293 ir_spec_PeaksOf := ⟨fun _ _ hb => KS.of_body tabOk mixed (r := ⟨293, 183, ⟨[.v], [.v], [], none⟩⟩) rfl t293 Try.func183 hb⟩
theorem t294 : trF (cfOf Try.prog tab 22 [] none) (sgOf tab) [(0, .v), (2, .v), (3, .v), (4, .v), (5, .v), (11, .v), (18, .v)] [(1, []), (4, []), (12, []), (28, []), (60, []), (92, []), (28, []), (28, []), (2, [])] Try.f184 ⟨[.v], [.v], [], none⟩ = some ir_spec_ReturnsOf := by kernel_rfl
instance : Has K 294 ir_spec_ReturnsOf := ⟨fun _ _ hb => KS.of_body tabOk mixed (r := ⟨294, 184, ⟨[.v], [.v], [], none⟩⟩) rfl t294 Try.func184 hb⟩
theorem t295 : trF (cfOf Try.prog tab 36 [] none) (sgOf tab) [(0, .v), (1, .v), (4, .v), (5, .v), (32, .v)] [(3, []), (11, []), (27, []), (11, []), (4, [])] Try.f185 ⟨[.v, .v], [.v], [], none⟩ = some ir_spec_l13Run := by kernel_rfl
instance : Has K 295 ir_spec_l13Run := ⟨fun _ _ hb => KS.of_body tabOk mixed (r := ⟨295, 185, ⟨[.v, .v], [.v], [], none⟩⟩) rfl t295 Try.func185 hb⟩
theorem t296 : trF (cfOf Try.prog tab 33 [] none) (sgOf tab) [(0, .v), (2, .v), (3, .v), (4, .v), (5, .v), (16, .v), (22, .v), (31, .v)] [(1, []), (5, []), (13, []), (29, []), (61, []), (93, []), (29, []), (29, []), (136, []), (2, []), (2, [])] Try.f186 ⟨[.v], [.v], [], none⟩ = some ir_spec_AreaOf := by kernel_rfl
instance : Has K 296 ir_spec_AreaOf := ⟨fun _ _ hb => KS.of_body tabOk mixed (r := ⟨296, 186, ⟨[.v], [.v], [], none⟩⟩) rfl t296 Try.func186 hb⟩
theorem t297 : trF (cfOf Try.prog tab 27 [] none) (sgOf tab) [(0, .v), (2, .v), (3, .v), (4, .v), (5, .v), (13, .v), (19, .v)] [(1, []), (9, []), (25, []), (57, []), (89, []), (25, []), (25, []), (25, []), (6, [])] Try.f92 ⟨[.v], [.v, .v], [], none⟩ = some ir_spec_BracketsOf := by kernel_rfl
instance : Has K 297 ir_spec_BracketsOf := ⟨fun _ _ hb => KS.of_body tabOk mixed (r := ⟨297, 92, ⟨[.v], [.v, .v], [], none⟩⟩) rfl t297 Try.func92 hb⟩
theorem t298 : trF (cfOf Try.prog tab 30 [] none) (sgOf tab) [(0, .v), (2, .v), (3, .v), (4, .v), (5, .v), (6, .v), (7, .v), (14, .v), (20, .v)] [(1, []), (12, []), (132, []), (2, []), (16, []), (48, []), (112, []), (368, []), (112, []), (112, []), (2, [])] Try.f187 ⟨[.v], [.v], [], none⟩ = some ir_spec_DepthOf := by kernel_rfl
instance : Has K 298 ir_spec_DepthOf := ⟨fun _ _ hb => KS.of_body tabOk mixed (r := ⟨298, 187, ⟨[.v], [.v], [], none⟩⟩) rfl t298 Try.func187 hb⟩
theorem t299 : trF (cfOf Try.prog tab 38 [] none) (sgOf tab) [(0, .v), (2, (.o .v)), (3, .v), (4, (.o .v)), (5, .v), (6, .v), (15, .v), (21, .v), (35, .v)] [(1, [1, 0]), (9, [1, 0]), (25, []), (57, []), (121, []), (185, []), (41, []), (57, []), (57, []), (57, []), (264, []), (6, [1, 0, 0]), (6, [])] Try.f93 ⟨[.v], [(.o .v), .v], [], none⟩ = some ir_spec_PlaneOf := by kernel_rfl
instance : Has K 299 ir_spec_PlaneOf := ⟨fun _ _ hb => KS.of_body tabOk mixed (r := ⟨299, 93, ⟨[.v], [(.o .v), .v], [], none⟩⟩) rfl t299 Try.func93 hb⟩
theorem t300 : trF (cfOf Try.prog tab 23 [] none) (sgOf tab) [(0, .y), (2, .v), (3, .v), (4, .v), (12, .v), (19, .v)] [(1, []), (5, []), (13, []), (29, []), (45, []), (13, []), (13, []), (2, [])] Try.f188 ⟨[.y], [.v], [], none⟩ = some ir_spec_LeavesOf := by kernel_rfl
instance : Has K 300 ir_spec_LeavesOf := ⟨fun _ _ hb => KS.of_body tabOk mixed (r := ⟨300, 188, ⟨[.y], [.v], [], none⟩⟩) rfl t300 Try.func188 hb⟩
theorem t301 : trF (cfOf Try.prog tab 64 [] none) (sgOf tab) [(0, .v), (2, (.o .v)), (3, .v), (4, (.o .v)), (5, (.o .v)), (6, .v), (7, .v), (8, .v), (11, .v), (21, .v), (27, .v), (59, .v)] [(1, [1, 0]), (257, []), (6, [1, 0, 0]), (9, [0, 0, 0, 1, 0]), (25, [1, 0]), (57, []), (121, []), (249, []), (761, []), (1273, []), (249, []), (249, []), (249, []), (249, []), (2297, []), (249, []), (249, []), (6, [])] Try.f99 ⟨[.v], [(.o .v), .v], [], none⟩ = some ir_spec_PartitionOf := by kernel_rfl
instance : Has K 301 ir_spec_PartitionOf := ⟨fun _ _ hb => KS.of_body tabOk mixed (r := ⟨301, 99, ⟨[.v], [(.o .v), .v], [], none⟩⟩) rfl t301 Try.func99 hb⟩
theorem t302 : trF (cfOf Try.prog tab 44 [] none) (sgOf tab) [(0, .y), (2, .v), (3, (.o (.o .v))), (4, .v), (13, .v), (22, .v)] [(1, []), (5, [2, 0]), (13, []), (29, []), (45, []), (13, [0, 1, 2, 0, 0]), (13, [500003, 0, 0, 0, 0, 0, 0, 0, 0, 0, 0, 0, 2601038, 0, 0, 0, 7, 0]), (13, []), (2, [])] Try.f166 ⟨[.y], [.v], [], none⟩ = some ir_spec_BlocksOf := by kernel_rfl
instance : Has K 302 ir_spec_BlocksOf := ⟨fun _ _ hb => KS.of_body tabOk mixed (r := ⟨302, 166, ⟨[.y], [.v], [], none⟩⟩) rfl t302 Try.func166 hb⟩
theorem t303 : trF (cfOf Try.prog tab 29 [] none) (sgOf tab) [(0, .v), (2, .v), (3, .v), (4, .v), (7, .v), (11, .v), (24, .v)] [(1, []), (17, []), (2, []), (5, []), (13, []), (45, []), (77, []), (13, []), (13, []), (2, [])] Try.f189 ⟨[.v], [.v], [], none⟩ = some ir_spec_MajorOf := by kernel_rfl
instance : Has K 303 ir_spec_MajorOf := ⟨fun _ _ hb => KS.of_body tabOk mixed (r := ⟨303, 189, ⟨[.v], [.v], [], none⟩⟩) rfl t303 Try.func189 hb⟩
theorem t307 : trF (cfOf Try.prog tab 9 [0] none) (sgOf tab) [(0, (.b .v)), (1, .v), (4, .v)] [(3, []), (5, [])] Try.f126 ⟨[(.b .v), .v], [.v], [0], none⟩ = some ir_spec_l1Once := by kernel_rfl
instance : Has K 307 ir_spec_l1Once := ⟨fun _ _ hb => KS.of_body tabOk mixed (r := ⟨307, 126, ⟨[(.b .v), .v], [.v], [0], none⟩⟩) rfl t307 Try.func126 hb⟩
theorem t313 : trF (cfOf Try.prog tab 12 [0] none) (sgOf tab) [(0, (.b .v)), (1, .y), (4, .v)] [(3, []), (5, [])] Try.f141 ⟨[(.b .v), .y], [.v], [0], none⟩ = some ir_spec_l1PickInt := by kernel_rfl
instance : Has K 313 ir_spec_l1PickInt := ⟨fun _ _ hb => KS.of_body tabOk mixed (r := ⟨313, 141, ⟨[(.b .v), .y], [.v], [0], none⟩⟩) rfl t313 Try.func141 hb⟩
theorem t314 : trF (cfOf Try.prog tab 12 [] none) (sgOf tab) [(0, .v), (2, (.o .v)), (3, (.b (.o .v))), (4, (.b .v))] [(1, [1]), (5, [1, 1, 0]), (13, []), (13, [77777, 0, 0]), (4, [0, 0, 0, 326]), (2, [1, 0])] Try.f134 ⟨[.v], [(.o .v)], [], none⟩ = some ir_impl_allPaths := by kernel_rfl
instance : Has K 314 ir_impl_allPaths := ⟨fun _ _ hb => KS.of_body tabOk mixed (r := ⟨314, 134, ⟨[.v], [(.o .v)], [], none⟩⟩) rfl t314 Try.func134 hb⟩
theorem t316 : trF (cfOf Try.prog tab 58 [0] none) (sgOf tab) [(0, (.b .v)), (2, .v), (3, .v), (34, .v)] [(1, []), (1, []), (5, []), (13, []), (5, []), (5, []), (3, [])] Try.f213 ⟨[(.b .v)], [.v], [0], none⟩ = some ir_spec_l1Byte := by kernel_rfl
instance : Has K 316 ir_spec_l1Byte := ⟨fun _ _ hb => KS.of_body tabOk mixed (r := ⟨316, 213, ⟨[(.b .v)], [.v], [0], none⟩⟩) rfl t316 Try.func213 hb⟩
theorem t319 : trF (cfOf Try.prog tab 33 [] none) (sgOf tab) [(0, .v), (2, (.o .v)), (3, (.o .v)), (4, .v), (5, .v), (9, .v), (14, .v), (24, .v)] [(1, [1]), (5, [1, 0]), (37, []), (2, []), (13, []), (29, []), (93, []), (29, []), (157, []), (29, []), (29, []), (29, []), (2, [])] Try.f228 ⟨[.v], [(.o .v)], [], none⟩ = some ir_spec_HeightsOf := by kernel_rfl
instance : Has K 319 ir_spec_HeightsOf := ⟨fun _ _ hb => KS.of_body tabOk mixed (r := ⟨319, 228, ⟨[.v], [(.o .v)], [], none⟩⟩) rfl t319 Try.func228 hb⟩
theorem t320 : trF (cfOf Try.prog tab 37 [] none) (sgOf tab) [(0, .v), (2, .v), (3, .v), (4, .v), (5, .v), (14, .v), (19, .v), (20, .v), (24, .v), (35, .v)] [(1, []), (9, []), (25, []), (57, []), (89, []), (217, []), (25, []), (281, []), (25, []), (6, []), (25, []), (520, []), (6, []), (6, [])] Try.f229 ⟨[.v], [.v, .v], [], none⟩ = some ir_spec_PathOfBrackets := by kernel_rfl
instance : Has K 320 ir_spec_PathOfBrackets := ⟨fun _ _ hb => KS.of_body tabOk mixed (r := ⟨320, 229, ⟨[.v], [.v, .v], [], none⟩⟩) rfl t320 Try.func229 hb⟩
theorem t321 : trF (cfOf Try.prog tab 62 [] none) (sgOf tab) [(0, .y), (2, .v), (3, .v), (4, .v), (5, .v), (9, .v), (33, .v), (43, .v), (58, .v)] [(1, []), (5, []), (37, []), (69, []), (2, []), (13, []), (29, []), (157, []), (29, []), (29, []), (261, []), (2, []), (5, []), (2, [])] Try.f196 ⟨[.y], [.v], [], none⟩ = some ir_spec_IsPlane := by kernel_rfl
instance : Has K 321 ir_spec_IsPlane := ⟨fun _ _ hb => KS.of_body tabOk mixed (r := ⟨321, 196, ⟨[.y], [.v], [], none⟩⟩) rfl t321 Try.func196 hb⟩
theorem t322 : trF (cfOf Try.prog tab 33 [] none) (sgOf tab) [(0, .y), (1, .v), (4, (.o .v)), (5, (.o .v)), (6, .v), (19, .v), (27, .v)] [(3, [1]), (11, [1, 0]), (27, []), (59, []), (91, []), (27, []), (27, []), (4, [])] Try.f230 ⟨[.y, .v], [(.o .v)], [], none⟩ = some ir_spec_ChildrenOf := by kernel_rfl
instance : Has K 322 ir_spec_ChildrenOf := ⟨fun _ _ hb => KS.of_body tabOk mixed (r := ⟨322, 230, ⟨[.y, .v], [(.o .v)], [], none⟩⟩) rfl t322 Try.func230 hb⟩
theorem t323 : trF (cfOf Try.prog tab 48 [] none) (sgOf tab) [(0, .y), (2, (.o .v)), (3, (.o .v)), (4, (.o .v)), (5, .v), (6, .v), (7, .v), (13, .v), (19, .v), (30, .v), (33, .v)] [(1, [1]), (5, [1, 0]), (13, [1, 0]), (29, []), (157, []), (61, []), (125, []), (381, []), (637, []), (125, []), (125, []), (1085, []), (61, []), (61, []), (29, []), (29, []), (2, [])] Try.f151 ⟨[.y], [(.o .v)], [], none⟩ = some ir_spec_l8Renumber := by kernel_rfl
instance : Has K 323 ir_spec_l8Renumber := ⟨fun _ _ hb => KS.of_body tabOk mixed (r := ⟨323, 151, ⟨[.y], [(.o .v)], [], none⟩⟩) rfl t323 Try.func151 hb⟩
theorem t324 : trF (cfOf Try.prog tab 29 [] none) (sgOf tab) [(0, .y), (2, .v), (3, .v), (4, .v), (8, .v), (17, .v), (23, .v)] [(1, []), (5, []), (13, []), (29, []), (45, []), (2, []), (77, []), (13, []), (13, []), (2, [])] Try.f160 ⟨[.y], [.v], [], none⟩ = some ir_spec_IsPartition := by kernel_rfl
instance : Has K 324 ir_spec_IsPartition := ⟨fun _ _ hb => KS.of_body tabOk mixed (r := ⟨324, 160, ⟨[.y], [.v], [], none⟩⟩) rfl t324 Try.func160 hb⟩
theorem t326 : trF (cfOf Try.prog tab 37 [3] (some (4, 326, [3, 4]))) (sgOf tab) [(0, .v), (1, .v), (2, .v), (3, (.b (.o .v))), (4, .v), (13, .v), (19, .v), (29, .v)] [(63, []), (8, [1, 0, 0, 0, 0]), (95, []), (31, [0, 0, 0, 0, 0, 0, 326]), (159, []), (8, [0, 0, 0, 0, 0, 0, 326])] Try.f214 ⟨[.v, .v, .v, (.b (.o .v)), .v], [], [3], (some (4, 326, [3, 4]))⟩ = some ir_impl_allPaths_f1 := by kernel_rfl
instance : Has K 326 ir_impl_allPaths_f1 := ⟨fun _ _ hb => KS.of_body tabOk mixed (r := ⟨326, 214, ⟨[.v, .v, .v, (.b (.o .v)), .v], [], [3], (some (4, 326, [3, 4]))⟩⟩) rfl t326 Try.func214 hb⟩
theorem t398 : trF (cfOf Try.prog tab 382 [] none) (sgOf tab) [(0, .v), (2, .v), (3, .v), (4, .v), (5, .v), (6, .v), (7, .v), (8, .v), (9, .v), (10, .v), (11, .v), (12, .v), (13, .v), (14, .v), (15, .v), (16, .v), (18, .v), (20, .v), (22, .v), (24, .v), (25, .v), (26, .v), (27, .v), (28, .v), (29, .v), (30, .v), (32, .v), (33, .v), (34, .v), (35, .v), (36, .v), (37, .v), (38, .v), (39, .v), (40, .v), (41, .v), (42, .v), (43, .v), (44, .v), (45, .v), (46, .v), (47, .v), (48, .v), (49, .v), (50, .v), (51, .v), (52, .v), (53, .v), (54, .v), (55, .v), (56, .v), (57, .v), (58, .v), (59, .v), (60, .v), (61, .v), (62, .v), (63, .v), (64, .v), (65, .v), (66, .v), (68, .v), (102, .v), (103, .v), (132, .v), (165, .v), (191, .v), (192, .v), (222, .v)] [(1, []), (2305843009213693953, []), (2, []), (13, []), (125, []), (1021, []), (4611686018427388365, []), (2, []), (9223372036854776205, []), (3341, []), (14605, []), (18446744073709551617, []), (2, []), (16385, []), (49153, []), (114689, []), (245761, []), (491521, []), (36893488147419103233, []), (2, []), (1572865, []), (7864321, []), (33030145, []), (73786976294852362241, []), (2, []), (147573952589686374401, []), (43515905, []), (244842497, []), (295147905179352825857, []), (2, []), (805306369, []), (4026531841, []), (16106127361, []), (67645734913, []), (273804165121, []), (1046898278401, []), (4345433161729, []), (17539572695041, []), (68117107572737, []), (138485851750401, []), (560698316816385, []), (2179179432902657, []), (4430979246587905, []), (17941778128699393, []), (69733173843460097, []), (141790767881388032, []), (574136332108955648, []), (2231460994981298176, []), (2, [])] Try.f7 ⟨[.v], [.v], [], none⟩ = some ir_laws_FnPolynomials := by kernel_rfl
instance : Has K 398 ir_laws_FnPolynomials := ⟨fun _ _ hb => KS.of_body tabOk mixed (r := ⟨398, 7, ⟨[.v], [.v], [], none⟩⟩) rfl t398 Try.func7 hb⟩
theorem t402 : trF (cfOf Try.prog tab 34 [] none) (sgOf tab) [(0, .v), (2, (.o .v)), (3, (.o .v)), (4, (.b .v)), (5, (.o .v)), (6, (.o .v)), (7, .v), (13, .v), (21, .v)] [(1, [1, 1]), (8, []), (24, []), (152, []), (6, []), (56, [1, 0]), (120, []), (376, []), (120, []), (120, []), (6, [])] Try.f22 ⟨[.v], [(.o .v), (.o .v)], [], none⟩ = some ir_spec_DrawDividePolynomials := by kernel_rfl
instance : Has K 402 ir_spec_DrawDividePolynomials := ⟨fun _ _ hb => KS.of_body tabOk mixed (r := ⟨402, 22, ⟨[.v], [(.o .v), (.o .v)], [], none⟩⟩) rfl t402 Try.func22 hb⟩
theorem t403 : trF (cfOf Try.prog tab 68 [] none) (sgOf tab) [(0, .y), (1, .y), (4, (.o .v)), (5, (.o .v)), (6, .v), (7, .v), (9, .v), (10, (.o .v)), (11, (.o .v)), (12, .v), (29, .y), (30, .v), (31, .v), (32, .v), (42, .v), (63, .v)] [(3, [1, 1, 0]), (35, []), (7203, []), (15395, []), (7267, []), (7203, []), (7203, []), (16387, []), (28, [1, 1, 0, 0, 0]), (896, []), (33152, []), (28, [1, 1, 0, 0, 0]), (28, [])] Try.f23 ⟨[.y, .y], [(.o .v), (.o .v), .v], [], none⟩ = some ir_impl_DividePolynomials := by kernel_rfl
instance : Has K 403 ir_impl_DividePolynomials := ⟨fun _ _ hb => KS.of_body tabOk mixed (r := ⟨403, 23, ⟨[.y, .y], [(.o .v), (.o .v), .v], [], none⟩⟩) rfl t403 Try.func23 hb⟩
theorem t404 : trF (cfOf Try.prog tab 129 [] none) (sgOf tab) [(0, .y), (1, .y), (4, (.o .v)), (5, (.o .v)), (6, .v), (7, .v), (8, (.o .v)), (9, (.o .v)), (10, .v), (11, .v), (12, .v), (13, (.o .v)), (14, (.o .v)), (37, .v), (43, .v), (51, .v), (69, .v), (82, .v), (92, .v), (124, .v)] [(3, [1, 1, 0]), (8195, []), (28, [1, 1, 0, 0, 0]), (35, []), (16419, []), (32803, []), (28, [1, 1, 0, 0, 0]), (35, []), (67, [1, 0, 0, 0]), (194, [0, 0, 0, 0, 0, 0, 0, 1, 0]), (450, []), (65986, []), (962, []), (132034, []), (28, [1, 1, 0, 0, 0]), (962, []), (1986, []), (264130, []), (1986, []), (1986, []), (450, []), (2112, []), (6144, []), (530432, []), (28, [1, 1, 0, 0, 0]), (28, [])] Try.f24 ⟨[.y, .y], [(.o .v), (.o .v), .v], [], none⟩ = some ir_spec_DividePolynomials := by kernel_rfl
instance : Has K 404 ir_spec_DividePolynomials := ⟨fun _ _ hb => KS.of_body tabOk mixed (r := ⟨404, 24, ⟨[.y, .y], [(.o .v), (.o .v), .v], [], none⟩⟩) rfl t404 Try.func24 hb⟩
theorem t405 : trF (cfOf Try.prog tab 32 [] none) (sgOf tab) [(0, .y), (1, .y), (4, (.o .v)), (5, .v), (6, (.o .v)), (22, .v), (29, .v)] [(3, [1, 0]), (35, []), (12, [1, 0, 0]), (16, []), (80, []), (12, [1, 0, 0]), (12, [])] Try.f26 ⟨[.y, .y], [(.o .v), .v], [], none⟩ = some ir_spec_MultiplyPolynomials := by kernel_rfl
instance : Has K 405 ir_spec_MultiplyPolynomials := ⟨fun _ _ hb => KS.of_body tabOk mixed (r := ⟨405, 26, ⟨[.y, .y], [(.o .v), .v], [], none⟩⟩) rfl t405 Try.func26 hb⟩
theorem t406 : trF (cfOf Try.prog tab 68 [] none) (sgOf tab) [(0, .y), (1, .y), (4, (.o .v)), (5, .v), (6, (.o .v)), (7, .v), (8, .v), (9, (.o .v)), (17, .v), (28, .v), (46, .v), (65, .v)] [(3, [1, 0]), (259, []), (12, [1, 0, 0]), (19, [0, 0, 0, 0, 0, 1, 0]), (51, []), (563, []), (51, []), (51, []), (82, []), (1106, []), (82, []), (82, []), (128, []), (2176, []), (12, [1, 0, 0]), (12, [])] Try.f27 ⟨[.y, .y], [(.o .v), .v], [], none⟩ = some ir_spec_AddPolynomials := by kernel_rfl
instance : Has K 406 ir_spec_AddPolynomials := ⟨fun _ _ hb => KS.of_body tabOk mixed (r := ⟨406, 27, ⟨[.y, .y], [(.o .v), .v], [], none⟩⟩) rfl t406 Try.func27 hb⟩
theorem t407 : trF (cfOf Try.prog tab 21 [] none) (sgOf tab) [(0, .v), (1, .v), (4, .v), (8, .v)] [(3, []), (11, []), (4, []), (4, [])] Try.f28 ⟨[.v, .v], [.v], [], none⟩ = some ir_laws_at := by kernel_rfl
instance : Has K 407 ir_laws_at := ⟨fun _ _ hb => KS.of_body tabOk mixed (r := ⟨407, 28, ⟨[.v, .v], [.v], [], none⟩⟩) rfl t407 Try.func28 hb⟩
theorem t408 : trF (cfOf Try.prog tab 37 [] none) (sgOf tab) [(0, .v), (2, (.o .v)), (3, .v), (4, .v), (6, .v), (8, (.o .v)), (10, .v), (13, .v)] [(1, [1, 0]), (129, []), (6, [1, 0, 0]), (9, []), (24, []), (96, []), (6, [])] Try.f29 ⟨[.v], [(.o .v), .v], [], none⟩ = some ir_impl_CatalanPolynomial := by kernel_rfl
instance : Has K 408 ir_impl_CatalanPolynomial := ⟨fun _ _ hb => KS.of_body tabOk mixed (r := ⟨408, 29, ⟨[.v], [(.o .v), .v], [], none⟩⟩) rfl t408 Try.func29 hb⟩
theorem t409 : trF (cfOf Try.prog tab 37 [] none) (sgOf tab) [(0, .v), (2, (.o .v)), (3, .v), (4, (.o .v)), (6, .v), (7, .v), (10, .v), (14, .v), (15, .v), (16, .v), (17, .v), (25, .v)] [(1, [1, 0]), (65, []), (6, [1, 0, 0]), (9, [1, 0]), (904, []), (1928, []), (920, []), (936, []), (2984, []), (936, []), (904, []), (904, []), (6, [])] Try.f30 ⟨[.v], [(.o .v), .v], [], none⟩ = some ir_impl_AreaPolynomial := by kernel_rfl
instance : Has K 409 ir_impl_AreaPolynomial := ⟨fun _ _ hb => KS.of_body tabOk mixed (r := ⟨409, 30, ⟨[.v], [(.o .v), .v], [], none⟩⟩) rfl t409 Try.func30 hb⟩
theorem t410 : trF (cfOf Try.prog tab 50 [] none) (sgOf tab) [(0, .v), (1, .v), (4, (.o .v)), (5, .v), (6, (.o .v)), (7, .v), (8, .v), (9, .v), (20, .v), (25, .v), (37, .v)] [(3, [1, 0]), (19, [1, 0]), (49, []), (305, []), (12, []), (113, []), (625, []), (241, []), (1265, []), (241, []), (113, []), (113, []), (12, [])] Try.f31 ⟨[.v, .v], [(.o .v), .v], [], none⟩ = some ir_spec_DistributionOf := by kernel_rfl
instance : Has K 410 ir_spec_DistributionOf := ⟨fun _ _ hb => KS.of_body tabOk mixed (r := ⟨410, 31, ⟨[.v, .v], [(.o .v), .v], [], none⟩⟩) rfl t410 Try.func31 hb⟩
theorem t411 : trF (cfOf Try.prog tab 15 [] none) (sgOf tab) [(0, .v), (2, .v), (3, .v), (4, (.b .v)), (5, .v)] [(1, []), (8, []), (24, []), (6, [])] Try.f32 ⟨[.v], [.v, .v], [], none⟩ = some ir_spec_DrawBinomialPolynomial := by kernel_rfl
instance : Has K 411 ir_spec_DrawBinomialPolynomial := ⟨fun _ _ hb => KS.of_body tabOk mixed (r := ⟨411, 32, ⟨[.v], [.v, .v], [], none⟩⟩) rfl t411 Try.func32 hb⟩
theorem t412 : trF (cfOf Try.prog tab 19 [] none) (sgOf tab) [(0, .v), (1, .v), (4, (.o .v)), (5, .v), (14, .v)] [(3, [1, 0]), (19, []), (12, [1, 0, 0]), (12, [])] Try.f33 ⟨[.v, .v], [(.o .v), .v], [], none⟩ = some ir_impl_BinomialPolynomial := by kernel_rfl
instance : Has K 412 ir_impl_BinomialPolynomial := ⟨fun _ _ hb => KS.of_body tabOk mixed (r := ⟨412, 33, ⟨[.v, .v], [(.o .v), .v], [], none⟩⟩) rfl t412 Try.func33 hb⟩
theorem t413 : trF (cfOf Try.prog tab 19 [] none) (sgOf tab) [(0, .v), (1, .v), (4, .v), (5, .v), (14, .v)] [(3, []), (19, []), (12, []), (12, [])] Try.f34 ⟨[.v, .v], [.v, .v], [], none⟩ = some ir_spec_BinomialPolynomial := by kernel_rfl
instance : Has K 413 ir_spec_BinomialPolynomial := ⟨fun _ _ hb => KS.of_body tabOk mixed (r := ⟨413, 34, ⟨[.v, .v], [.v, .v], [], none⟩⟩) rfl t413 Try.func34 hb⟩
theorem t414 : trF (cfOf Try.prog tab 56 [] none) (sgOf tab) [(0, .y), (1, .v), (4, .v), (5, .v), (6, .v), (7, .v), (30, .v), (33, .v), (44, .v)] [(3, []), (67, []), (12, []), (131, []), (12, []), (19, []), (51, []), (307, []), (51, []), (51, []), (12, [])] Try.f35 ⟨[.y, .v], [.v, .v], [], none⟩ = some ir_impl_ValueAt := by kernel_rfl
instance : Has K 414 ir_impl_ValueAt := ⟨fun _ _ hb => KS.of_body tabOk mixed (r := ⟨414, 35, ⟨[.y, .v], [.v, .v], [], none⟩⟩) rfl t414 Try.func35 hb⟩
theorem t415 : trF (cfOf Try.prog tab 13 [] none) (sgOf tab) [(0, .v), (2, (.o .v)), (3, (.o .v)), (4, (.o .v)), (5, (.o .v))] [(1, [1, 1]), (24, []), (6, [])] Try.f37 ⟨[.v], [(.o .v), (.o .v)], [], none⟩ = some ir_spec_DrawMultiplyPolynomials := by kernel_rfl
instance : Has K 415 ir_spec_DrawMultiplyPolynomials := ⟨fun _ _ hb => KS.of_body tabOk mixed (r := ⟨415, 37, ⟨[.v], [(.o .v), (.o .v)], [], none⟩⟩) rfl t415 Try.func37 hb⟩
theorem t416 : trF (cfOf Try.prog tab 72 [] none) (sgOf tab) [(0, .y), (1, .y), (4, (.o .v)), (5, .v), (6, (.o .v)), (7, .v), (8, .v), (9, .v), (10, .v), (26, .v), (34, .y), (35, .v), (36, .v), (37, .v), (41, .y), (42, .v), (43, .v), (44, .v), (69, .v)] [(3, [1, 0]), (515, []), (12, [1, 0, 0]), (19, [0, 0, 0, 0, 0, 1, 0]), (7186, []), (15378, []), (7282, []), (121970, []), (253042, []), (122354, []), (121970, []), (121970, []), (7186, []), (16, []), (262160, []), (12, [1, 0, 0]), (12, [])] Try.f38 ⟨[.y, .y], [(.o .v), .v], [], none⟩ = some ir_impl_MultiplyPolynomials := by kernel_rfl
instance : Has K 416 ir_impl_MultiplyPolynomials := ⟨fun _ _ hb => KS.of_body tabOk mixed (r := ⟨416, 38, ⟨[.y, .y], [(.o .v), .v], [], none⟩⟩) rfl t416 Try.func38 hb⟩
theorem t417 : trF (cfOf Try.prog tab 13 [] none) (sgOf tab) [(0, .v), (2, (.o .v)), (3, (.o .v)), (4, (.o .v)), (5, (.o .v))] [(1, [1, 1]), (24, []), (6, [])] Try.f39 ⟨[.v], [(.o .v), (.o .v)], [], none⟩ = some ir_spec_DrawAddPolynomials := by kernel_rfl
instance : Has K 417 ir_spec_DrawAddPolynomials := ⟨fun _ _ hb => KS.of_body tabOk mixed (r := ⟨417, 39, ⟨[.v], [(.o .v), (.o .v)], [], none⟩⟩) rfl t417 Try.func39 hb⟩
theorem t418 : trF (cfOf Try.prog tab 62 [] none) (sgOf tab) [(0, .y), (1, .y), (4, (.o .v)), (5, .v), (6, (.o .v)), (7, .v), (8, .v), (9, .v), (10, .v), (18, .v), (26, .y), (27, .v), (28, .v), (29, .v), (38, .y), (39, .v), (40, .v), (41, .v), (59, .v)] [(3, [1, 0]), (515, []), (12, [1, 0, 0]), (19, [0, 0, 0, 0, 0, 1, 0]), (7186, []), (15378, []), (7282, []), (7186, []), (7186, []), (114704, []), (245776, []), (115088, []), (114704, []), (114704, []), (16, []), (262160, []), (12, [1, 0, 0]), (12, [])] Try.f40 ⟨[.y, .y], [(.o .v), .v], [], none⟩ = some ir_impl_AddPolynomials := by kernel_rfl
instance : Has K 418 ir_impl_AddPolynomials := ⟨fun _ _ hb => KS.of_body tabOk mixed (r := ⟨418, 40, ⟨[.y, .y], [(.o .v), .v], [], none⟩⟩) rfl t418 Try.func40 hb⟩
theorem t419 : trF (cfOf Try.prog tab 14 [] none) (sgOf tab) [(0, .v), (2, (.o .v)), (3, .v), (4, (.b .v)), (5, (.o .v))] [(1, [1, 0]), (8, []), (24, []), (6, [])] Try.f41 ⟨[.v], [(.o .v), .v], [], none⟩ = some ir_spec_DrawValueAt := by kernel_rfl
instance : Has K 419 ir_spec_DrawValueAt := ⟨fun _ _ hb => KS.of_body tabOk mixed (r := ⟨419, 41, ⟨[.v], [(.o .v), .v], [], none⟩⟩) rfl t419 Try.func41 hb⟩
theorem t420 : trF (cfOf Try.prog tab 53 [] none) (sgOf tab) [(0, .y), (1, .v), (4, .v), (5, .v), (6, .v), (7, .v), (30, .v), (35, .v), (40, .v)] [(3, []), (67, []), (12, []), (19, []), (51, []), (179, []), (307, []), (12, []), (51, []), (51, []), (12, [])] Try.f42 ⟨[.y, .v], [.v, .v], [], none⟩ = some ir_spec_ValueAt := by kernel_rfl
instance : Has K 420 ir_spec_ValueAt := ⟨fun _ _ hb => KS.of_body tabOk mixed (r := ⟨420, 42, ⟨[.y, .v], [.v, .v], [], none⟩⟩) rfl t420 Try.func42 hb⟩
theorem t421 : trF (cfOf Try.prog tab 7 [] none) (sgOf tab) [(0, .v), (2, .v)] [(1, []), (2, [])] Try.f43 ⟨[.v], [.v], [], none⟩ = some ir_spec_DrawNumberPolynomial := by kernel_rfl
instance : Has K 421 ir_spec_DrawNumberPolynomial := ⟨fun _ _ hb => KS.of_body tabOk mixed (r := ⟨421, 43, ⟨[.v], [.v], [], none⟩⟩) rfl t421 Try.func43 hb⟩
theorem t422 : trF (cfOf Try.prog tab 18 [] none) (sgOf tab) [(0, .v), (2, (.o .v)), (3, .v), (4, (.o .v)), (8, .v), (10, .v), (11, .v), (12, .v)] [(1, [1, 0]), (9, [1, 0]), (25, []), (6, []), (104, []), (232, []), (104, []), (104, []), (6, [])] Try.f44 ⟨[.v], [(.o .v), .v], [], none⟩ = some ir_impl_NumberPolynomial := by kernel_rfl
instance : Has K 422 ir_impl_NumberPolynomial := ⟨fun _ _ hb => KS.of_body tabOk mixed (r := ⟨422, 44, ⟨[.v], [(.o .v), .v], [], none⟩⟩) rfl t422 Try.func44 hb⟩
theorem t423 : trF (cfOf Try.prog tab 10 [] none) (sgOf tab) [(0, .v), (2, (.o .v)), (3, .v), (6, .v)] [(1, [1, 0]), (9, []), (6, [1, 0, 0]), (6, [])] Try.f45 ⟨[.v], [(.o .v), .v], [], none⟩ = some ir_spec_NumberPolynomial := by kernel_rfl
instance : Has K 423 ir_spec_NumberPolynomial := ⟨fun _ _ hb => KS.of_body tabOk mixed (r := ⟨423, 45, ⟨[.v], [(.o .v), .v], [], none⟩⟩) rfl t423 Try.func45 hb⟩
theorem t424 : trF (cfOf Try.prog tab 7 [] none) (sgOf tab) [(0, .v), (2, .v)] [(1, []), (2, [])] Try.f46 ⟨[.v], [.v], [], none⟩ = some ir_spec_DrawCatalanPolynomial := by kernel_rfl
instance : Has K 424 ir_spec_DrawCatalanPolynomial := ⟨fun _ _ hb => KS.of_body tabOk mixed (r := ⟨424, 46, ⟨[.v], [.v], [], none⟩⟩) rfl t424 Try.func46 hb⟩
theorem t425 : trF (cfOf Try.prog tab 22 [] none) (sgOf tab) [(0, .v), (2, (.o .v)), (3, .v), (4, (.o .v)), (8, .v)] [(1, [1, 0]), (17, []), (6, [1, 0, 0]), (8, []), (6, [])] Try.f47 ⟨[.v], [(.o .v), .v], [], none⟩ = some ir_spec_CatalanPolynomial := by kernel_rfl
instance : Has K 425 ir_spec_CatalanPolynomial := ⟨fun _ _ hb => KS.of_body tabOk mixed (r := ⟨425, 47, ⟨[.v], [(.o .v), .v], [], none⟩⟩) rfl t425 Try.func47 hb⟩
theorem t426 : trF (cfOf Try.prog tab 7 [] none) (sgOf tab) [(0, .v), (2, .v)] [(1, []), (2, [])] Try.f48 ⟨[.v], [.v], [], none⟩ = some ir_spec_DrawAreaPolynomial := by kernel_rfl
instance : Has K 426 ir_spec_DrawAreaPolynomial := ⟨fun _ _ hb => KS.of_body tabOk mixed (r := ⟨426, 48, ⟨[.v], [.v], [], none⟩⟩) rfl t426 Try.func48 hb⟩
theorem t427 : trF (cfOf Try.prog tab 79 [] none) (sgOf tab) [(0, .v), (2, .v), (3, .v), (4, (.o .v)), (5, .v), (6, (.o .v)), (7, .v), (8, .v), (9, .v), (12, .v), (18, .v), (24, .v), (45, .v), (52, .v)] [(1, []), (513, []), (6, []), (9, [0, 1, 0]), (25, []), (1049, []), (57, [1, 0]), (121, []), (2169, []), (249, []), (4345, []), (249, []), (505, []), (8697, []), (505, []), (505, []), (121, []), (25, []), (25, []), (6, [])] Try.f49 ⟨[.v], [.v, .v], [], none⟩ = some ir_spec_AreaPolynomial := by kernel_rfl
instance : Has K 427 ir_spec_AreaPolynomial := ⟨fun _ _ hb => KS.of_body tabOk mixed (r := ⟨427, 49, ⟨[.v], [.v, .v], [], none⟩⟩) rfl t427 Try.func49 hb⟩
theorem t428 : trF (cfOf Try.prog tab 32 [] none) (sgOf tab) [(0, .y), (2, .v), (4, .v), (21, .v), (22, .y), (23, .v), (24, .v), (25, .v), (30, .v)] [(1, []), (9, []), (2, []), (112, []), (240, []), (116, []), (368, []), (2, []), (112, []), (2, [])] Try.f50 ⟨[.y], [.v], [], none⟩ = some ir_impl_IsPolynomial := by kernel_rfl
instance : Has K 428 ir_impl_IsPolynomial := ⟨fun _ _ hb => KS.of_body tabOk mixed (r := ⟨428, 50, ⟨[.y], [.v], [], none⟩⟩) rfl t428 Try.func50 hb⟩
theorem t429 : trF (cfOf Try.prog tab 33 [] none) (sgOf tab) [(0, .y), (2, .v), (3, .v), (7, .v), (15, .v)] [(1, []), (5, []), (13, []), (21, []), (2, []), (5, []), (2, [])] Try.f51 ⟨[.y], [.v], [], none⟩ = some ir_spec_IsPolynomial := by kernel_rfl
instance : Has K 429 ir_spec_IsPolynomial := ⟨fun _ _ hb => KS.of_body tabOk mixed (r := ⟨429, 51, ⟨[.y], [.v], [], none⟩⟩) rfl t429 Try.func51 hb⟩
theorem t430 : trF (cfOf Try.prog tab 29 [] none) (sgOf tab) [(0, .y), (2, .v), (3, (.o .v)), (5, .v), (13, .v), (15, .y), (16, .v), (17, .v), (18, .v)] [(1, []), (17, []), (2, []), (5, [1, 0]), (228, []), (484, []), (236, []), (228, []), (228, []), (2, [])] Try.f52 ⟨[.y], [.v], [], none⟩ = some ir_impl_FormatPolynomial := by kernel_rfl
instance : Has K 430 ir_impl_FormatPolynomial := ⟨fun _ _ hb => KS.of_body tabOk mixed (r := ⟨430, 52, ⟨[.y], [.v], [], none⟩⟩) rfl t430 Try.func52 hb⟩
theorem t431 : trF (cfOf Try.prog tab 29 [] none) (sgOf tab) [(0, .y), (2, .v), (3, .v), (4, .v), (12, .v), (16, .v), (27, .v)] [(1, []), (5, []), (13, []), (29, []), (45, []), (13, []), (13, []), (13, []), (68, []), (2, []), (2, [])] Try.f53 ⟨[.y], [.v], [], none⟩ = some ir_spec_FormatPolynomial := by kernel_rfl
instance : Has K 431 ir_spec_FormatPolynomial := ⟨fun _ _ hb => KS.of_body tabOk mixed (r := ⟨431, 53, ⟨[.y], [.v], [], none⟩⟩) rfl t431 Try.func53 hb⟩
theorem t459 : trF (cfOf Try.prog tab 29 [0] none) (sgOf tab) [(0, (.b .v)), (2, (.o .v)), (3, (.o .v)), (4, .v), (9, .v), (19, .v)] [(1, [1]), (5, [1, 0]), (13, []), (29, []), (13, []), (13, []), (37, []), (5, []), (3, []), (3, [])] Try.f125 ⟨[(.b .v)], [(.o .v)], [0], none⟩ = some ir_spec_l14Any := by kernel_rfl
instance : Has K 459 ir_spec_l14Any := ⟨fun _ _ hb => KS.of_body tabOk mixed (r := ⟨459, 125, ⟨[(.b .v)], [(.o .v)], [0], none⟩⟩) rfl t459 Try.func125 hb⟩
theorem t460 : trF (cfOf Try.prog tab 17 [] none) (sgOf tab) [(0, .y), (2, .v), (4, .v), (5, .y), (6, .v), (7, .v), (8, .v), (13, .v)] [(1, []), (57, []), (121, []), (61, []), (185, []), (2, []), (57, []), (2, [])] Try.f128 ⟨[.y], [.v], [], none⟩ = some ir_impl_isFactor := by kernel_rfl
instance : Has K 460 ir_impl_isFactor := ⟨fun _ _ hb => KS.of_body tabOk mixed (r := ⟨460, 128, ⟨[.y], [.v], [], none⟩⟩) rfl t460 Try.func128 hb⟩
theorem t461 : trF (cfOf Try.prog tab 72 [] none) (sgOf tab) [(0, .y), (1, .y), (4, (.o .v)), (5, (.o .v)), (6, .v), (7, (.o .v)), (8, (.o .v)), (9, .v), (10, .v), (11, .v), (12, .v), (27, .v), (40, .v), (45, .y), (46, .v), (47, .v), (48, .v)] [(3, [1, 1, 0]), (35, []), (98, [0, 0, 0, 0, 0, 0, 0, 1, 0]), (226, []), (2274, []), (482, []), (4578, []), (28, [1, 1, 0]), (482, []), (57826, []), (123362, []), (59362, []), (57826, []), (57826, []), (226, []), (28, [])] Try.f129 ⟨[.y, .y], [(.o .v), (.o .v), .v], [], none⟩ = some ir_impl_divide := by kernel_rfl
instance : Has K 461 ir_impl_divide := ⟨fun _ _ hb => KS.of_body tabOk mixed (r := ⟨461, 129, ⟨[.y, .y], [(.o .v), (.o .v), .v], [], none⟩⟩) rfl t461 Try.func129 hb⟩
theorem t462 : trF (cfOf Try.prog tab 18 [] none) (sgOf tab) [(0, .y), (2, .v), (3, .v), (7, .v), (15, .v)] [(1, []), (5, []), (13, []), (21, []), (2, []), (5, []), (2, [])] Try.f130 ⟨[.y], [.v], [], none⟩ = some ir_spec_l14Small := by kernel_rfl
instance : Has K 462 ir_spec_l14Small := ⟨fun _ _ hb => KS.of_body tabOk mixed (r := ⟨462, 130, ⟨[.y], [.v], [], none⟩⟩) rfl t462 Try.func130 hb⟩
theorem t463 : trF (cfOf Try.prog tab 23 [] none) (sgOf tab) [(0, .y), (2, (.o .v)), (3, .v), (15, .v)] [(1, [1]), (5, []), (13, []), (5, []), (2, [1, 0, 0, 0, 0, 0])] Try.f132 ⟨[.y], [(.o .v)], [], none⟩ = some ir_spec_l14Trim := by kernel_rfl
instance : Has K 463 ir_spec_l14Trim := ⟨fun _ _ hb => KS.of_body tabOk mixed (r := ⟨463, 132, ⟨[.y], [(.o .v)], [], none⟩⟩) rfl t463 Try.func132 hb⟩
theorem t464 : trF (cfOf Try.prog tab 59 [] none) (sgOf tab) [(0, .y), (1, .y), (4, (.o .v)), (5, (.o .v)), (6, .v), (7, .v), (15, .v), (27, .v), (33, .v)] [(3, [1]), (67, []), (4, [1, 0]), (11, [0, 0, 0, 0, 0, 0, 1, 0]), (27, []), (155, []), (59, []), (315, []), (59, []), (59, []), (27, []), (4, [])] Try.f133 ⟨[.y, .y], [(.o .v)], [], none⟩ = some ir_spec_l14Times := by kernel_rfl
instance : Has K 464 ir_spec_l14Times := ⟨fun _ _ hb => KS.of_body tabOk mixed (r := ⟨464, 133, ⟨[.y, .y], [(.o .v)], [], none⟩⟩) rfl t464 Try.func133 hb⟩
theorem t465 : trF (cfOf Try.prog tab 28 [] none) (sgOf tab) [(0, .v), (2, .v), (3, .v), (4, .v), (5, .v), (8, .v), (14, .v), (20, .v)] [(1, []), (33, []), (2, []), (5, []), (13, []), (29, []), (93, []), (157, []), (29, []), (29, []), (2, [])] Try.f135 ⟨[.v], [.v], [], none⟩ = some ir_impl_AreaOf := by kernel_rfl
instance : Has K 465 ir_impl_AreaOf := ⟨fun _ _ hb => KS.of_body tabOk mixed (r := ⟨465, 135, ⟨[.v], [.v], [], none⟩⟩) rfl t465 Try.func135 hb⟩
theorem t466 : trF (cfOf Try.prog tab 77 [] none) (sgOf tab) [(0, .v), (1, .v), (4, (.o .v)), (5, .v), (6, .v), (7, (.o .v)), (8, .v), (9, .v), (10, .v), (11, .v), (18, .v), (39, .v), (40, .v), (41, .v), (42, .v), (51, .v), (52, .v), (53, .v), (54, .v)] [(3, [1]), (1027, []), (4, [1, 0]), (27, []), (59, [0, 0, 0, 0, 0, 0, 0, 0, 0, 1, 0]), (14387, []), (30771, []), (14579, []), (14387, []), (14387, []), (229411, []), (491555, []), (230179, []), (229411, []), (229411, []), (4, [])] Try.f136 ⟨[.v, .v], [(.o .v)], [], none⟩ = some ir_impl_gauss := by kernel_rfl
instance : Has K 466 ir_impl_gauss := ⟨fun _ _ hb => KS.of_body tabOk mixed (r := ⟨466, 136, ⟨[.v, .v], [(.o .v)], [], none⟩⟩) rfl t466 Try.func136 hb⟩
theorem t467 : trF (cfOf Try.prog tab 106 [] none) (sgOf tab) [(0, .v), (1, .v), (4, .v), (5, .v), (6, .v), (7, (.o .v)), (8, .v), (9, (.o .v)), (10, .v), (11, .v), (16, .v), (24, .v), (36, .v), (43, .v), (62, .v), (70, .v)] [(3, []), (11, []), (27, []), (1051, []), (59, [1, 0]), (123, []), (2171, []), (251, [0, 0, 0, 0, 0, 0, 1, 0]), (4347, []), (507, []), (8699, []), (507, []), (507, []), (16635, []), (763, []), (33531, []), (763, []), (763, []), (123, []), (123, []), (27, []), (27, []), (4, [])] Try.f137 ⟨[.v, .v], [.v], [], none⟩ = some ir_spec_l14Binomial := by kernel_rfl
instance : Has K 467 ir_spec_l14Binomial := ⟨fun _ _ hb => KS.of_body tabOk mixed (r := ⟨467, 137, ⟨[.v, .v], [.v], [], none⟩⟩) rfl t467 Try.func137 hb⟩
theorem t468 : trF (cfOf Try.prog tab 13 [] none) (sgOf tab) [(0, .v), (2, (.o .v)), (3, (.o .v)), (4, (.b .v)), (5, (.o .v))] [(1, [1, 1]), (8, []), (24, []), (6, [])] Try.f139 ⟨[.v], [(.o .v), (.o .v)], [], none⟩ = some ir_spec_l14Two := by kernel_rfl
instance : Has K 468 ir_spec_l14Two := ⟨fun _ _ hb => KS.of_body tabOk mixed (r := ⟨468, 139, ⟨[.v], [(.o .v), (.o .v)], [], none⟩⟩) rfl t468 Try.func139 hb⟩
theorem t469 : trF (cfOf Try.prog tab 21 [] none) (sgOf tab) [(0, (.o .v)), (2, (.o .v)), (3, .v), (15, .v)] [(1, [1]), (5, []), (13, []), (5, []), (2, [])] Try.f140 ⟨[(.o .v)], [(.o .v)], [], none⟩ = some ir_impl_trimmed := by kernel_rfl
instance : Has K 469 ir_impl_trimmed := ⟨fun _ _ hb => KS.of_body tabOk mixed (r := ⟨469, 140, ⟨[(.o .v)], [(.o .v)], [], none⟩⟩) rfl t469 Try.func140 hb⟩
theorem t470 : trF (cfOf Try.prog tab 15 [] none) (sgOf tab) [(0, .v), (2, (.o .v)), (3, (.o .v)), (4, .v), (8, .v)] [(1, [1]), (5, [1, 0]), (13, []), (29, []), (13, []), (13, []), (2, [])] Try.f142 ⟨[.v], [(.o .v)], [], none⟩ = some ir_spec_l14Number := by kernel_rfl
instance : Has K 470 ir_spec_l14Number := ⟨fun _ _ hb => KS.of_body tabOk mixed (r := ⟨470, 142, ⟨[.v], [(.o .v)], [], none⟩⟩) rfl t470 Try.func142 hb⟩
theorem t471 : trF (cfOf Try.prog tab 69 [] none) (sgOf tab) [(0, .y), (1, .y), (4, (.o .v)), (5, (.o .v)), (6, (.o .v)), (7, (.o .v)), (8, .v), (9, .v), (10, .v), (26, .v), (44, .v)] [(3, [1, 1]), (19, [1, 0, 0, 0]), (50, [0, 0, 0, 0, 0, 0, 0, 1, 0]), (114, []), (626, []), (242, []), (242, []), (498, []), (1522, []), (498, []), (498, []), (114, []), (12, [])] Try.f143 ⟨[.y, .y], [(.o .v), (.o .v)], [], none⟩ = some ir_spec_l14Divide := by kernel_rfl
instance : Has K 471 ir_spec_l14Divide := ⟨fun _ _ hb => KS.of_body tabOk mixed (r := ⟨471, 143, ⟨[.y, .y], [(.o .v), (.o .v)], [], none⟩⟩) rfl t471 Try.func143 hb⟩
theorem t501 : trF (cfOf Try.prog tab 15 [] none) (sgOf tab) [(0, .v), (2, (.o .v)), (3, (.o .v)), (7, .v)] [(1, [1]), (9, []), (2, [1, 0]), (4, []), (2, [])] Try.f215 ⟨[.v], [(.o .v)], [], none⟩ = some ir_impl_HeightsOf := by kernel_rfl
instance : Has K 501 ir_impl_HeightsOf := ⟨fun _ _ hb => KS.of_body tabOk mixed (r := ⟨501, 215, ⟨[.v], [(.o .v)], [], none⟩⟩) rfl t501 Try.func215 hb⟩
end Go.Proofs.Ytdifmcppfcbgdaa.fnPolynomials

