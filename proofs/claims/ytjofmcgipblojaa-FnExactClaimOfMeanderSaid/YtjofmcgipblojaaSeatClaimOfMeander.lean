/-
  Texts of the little language.
-/
import Derived.Test.YtjofmcgipblojaaIrAllA
import Derived.Test.YtjofmcgipblojaaRows
import Derived.Test.YtjofmcgipblojaaCatThree
namespace Go.Proofs.Ytjofmcgipblojaa.fnExactClaimOfMeander
open Go Go.Cat Go.Proofs
set_option maxRecDepth 100000
def tab : List Row := [⟨15, 29, ⟨[.y, .y], [.v], [], none⟩⟩,
  ⟨16, 31, ⟨[(.o .v), .v], [.v], [0], none⟩⟩,
  ⟨17, 33, ⟨[.y, .v], [.v], [], none⟩⟩,
  ⟨22, 64, ⟨[.v, .v, .v], [.v], [], none⟩⟩,
  ⟨23, 57, ⟨[.v, .v, .v], [.v], [], none⟩⟩,
  ⟨26, 71, ⟨[.v], [.v], [], none⟩⟩,
  ⟨42, 9, ⟨[.y], [(.o .v)], [], none⟩⟩,
  ⟨44, 12, ⟨[.y, .y], [.v], [], none⟩⟩,
  ⟨45, 13, ⟨[(.o .v), .v], [.v], [0], none⟩⟩,
  ⟨46, 34, ⟨[.y, .v], [.v], [], none⟩⟩,
  ⟨64, 51, ⟨[.v], [.v], [], none⟩⟩,
  ⟨75, 28, ⟨[.y], [(.o .v)], [], none⟩⟩,
  ⟨119, 11, ⟨[.y, .y], [.v], [], none⟩⟩,
  ⟨122, 14, ⟨[(.a (.o (.o (.o .v)))), .v], [.v], [0], none⟩⟩,
  ⟨123, 15, ⟨[.y, .v], [.v], [], none⟩⟩,
  ⟨155, 30, ⟨[.y, .y], [.v], [], none⟩⟩,
  ⟨158, 32, ⟨[(.o (.o .v)), .v], [.v], [0], none⟩⟩,
  ⟨159, 35, ⟨[.y, .v], [.v], [], none⟩⟩,
  ⟨234, 65, ⟨[.v], [(.o .v)], [], none⟩⟩,
  ⟨292, 95, ⟨[.v, .v, .v], [(.o .v)], [], none⟩⟩,
  ⟨314, 99, ⟨[.v], [(.o .v)], [], none⟩⟩,
  ⟨326, 119, ⟨[.v, .v, .v, (.b (.o .v)), .v], [], [3], (some (4, 326, [3, 4]))⟩⟩,
  ⟨328, 3, ⟨[.y], [.v], [], none⟩⟩,
  ⟨333, 8, ⟨[.y], [(.a (.o (.o (.o .v)))), .v], [], none⟩⟩,
  ⟨334, 10, ⟨[.y], [(.a (.o (.o (.o .v)))), .v], [], none⟩⟩,
  ⟨343, 26, ⟨[.y], [(.o .v), .v], [], none⟩⟩,
  ⟨344, 27, ⟨[.y], [(.o .v), .v], [], none⟩⟩,
  ⟨355, 63, ⟨[.y], [.v], [], none⟩⟩,
  ⟨356, 66, ⟨[.v], [(.o .v), .v], [], none⟩⟩,
  ⟨357, 67, ⟨[.y, .y], [.v], [], none⟩⟩,
  ⟨358, 68, ⟨[.y], [.v], [], none⟩⟩,
  ⟨359, 69, ⟨[.v], [(.o (.o .v))], [], none⟩⟩,
  ⟨360, 70, ⟨[.y, .y], [.v], [], none⟩⟩,
  ⟨369, 94, ⟨[.y], [.v], [], none⟩⟩,
  ⟨370, 96, ⟨[.v, .v], [.v], [], none⟩⟩,
  ⟨371, 97, ⟨[.y, .y], [.v], [], none⟩⟩,
  ⟨372, 98, ⟨[.y], [.v], [], none⟩⟩,
  ⟨373, 100, ⟨[.v], [(.o .v)], [], none⟩⟩,
  ⟨379, 116, ⟨[.y], [.v], [], none⟩⟩,
  ⟨380, 117, ⟨[.y], [.v], [], none⟩⟩,
  ⟨381, 118, ⟨[.y], [.v, .v], [], none⟩⟩]
theorem tabOk : tabOK Try.prog tab = true := by kernel_rfl
theorem mixed : Try.prog.follows .mixedOrders = true := Try.checked.mixed
abbrev K := KS Try.prog tab
theorem t15 : trF (cfOf Try.prog tab 26 [] none) (sgOf tab) [(0, .y), (1, .y), (4, .v), (5, .v), (10, .v), (14, .v), (25, .v)] [(3, []), (19, []), (4, []), (11, []), (43, []), (75, []), (4, []), (11, []), (4, [])] Try.f29 ⟨[.y, .y], [.v], [], none⟩ = some ir_laws_eqStringS := by kernel_rfl
instance : Has K 15 ir_laws_eqStringS := ⟨fun _ _ hb => KS.of_body tabOk mixed (r := ⟨15, 29, ⟨[.y, .y], [.v], [], none⟩⟩) rfl t15 Try.func29 hb⟩
theorem t16 : trF (cfOf Try.prog tab 20 [0] none) (sgOf tab) [(0, (.o .v)), (1, .v), (4, .v), (5, .v), (9, .v)] [(3, []), (11, []), (27, []), (11, []), (11, []), (11, []), (5, [])] Try.f31 ⟨[(.o .v), .v], [.v], [0], none⟩ = some ir_laws_markStringS := by kernel_rfl
instance : Has K 16 ir_laws_markStringS := ⟨fun _ _ hb => KS.of_body tabOk mixed (r := ⟨16, 31, ⟨[(.o .v), .v], [.v], [0], none⟩⟩) rfl t16 Try.func31 hb⟩
theorem t17 : trF (cfOf Try.prog tab 22 [] none) (sgOf tab) [(0, .y), (1, .v), (4, .v), (5, .v), (9, .v), (18, .v)] [(3, []), (11, []), (27, []), (43, []), (4, []), (11, []), (11, []), (4, [])] Try.f33 ⟨[.y, .v], [.v], [], none⟩ = some ir_laws_heldStringS := by kernel_rfl
instance : Has K 17 ir_laws_heldStringS := ⟨fun _ _ hb => KS.of_body tabOk mixed (r := ⟨17, 33, ⟨[.y, .v], [.v], [], none⟩⟩) rfl t17 Try.func33 hb⟩
theorem t22 : trF (cfOf Try.prog tab 15 [] none) (sgOf tab) [(0, .v), (1, .v), (2, .v), (6, .v)] [(7, []), (8, [])] Try.f64 ⟨[.v, .v, .v], [.v], [], none⟩ = some ir_spec_l1In := by kernel_rfl
instance : Has K 22 ir_spec_l1In := ⟨fun _ _ hb => KS.of_body tabOk mixed (r := ⟨22, 64, ⟨[.v, .v, .v], [.v], [], none⟩⟩) rfl t22 Try.func64 hb⟩
theorem t23 : trF (cfOf Try.prog tab 15 [] none) (sgOf tab) [(0, .v), (1, .v), (2, .v), (6, .v)] [(7, []), (8, [])] Try.f57 ⟨[.v, .v, .v], [.v], [], none⟩ = some ir_impl_within := by kernel_rfl
instance : Has K 23 ir_impl_within := ⟨fun _ _ hb => KS.of_body tabOk mixed (r := ⟨23, 57, ⟨[.v, .v, .v], [.v], [], none⟩⟩) rfl t23 Try.func57 hb⟩
theorem t26 : trF (cfOf Try.prog tab 20 [] none) (sgOf tab) [(0, .v), (2, .v), (3, .v), (5, .v), (7, .v)] [(1, []), (9, []), (2, []), (5, []), (21, []), (5, []), (5, []), (2, [])] Try.f71 ⟨[.v], [.v], [], none⟩ = some ir_laws_markText := by kernel_rfl
instance : Has K 26 ir_laws_markText := ⟨fun _ _ hb => KS.of_body tabOk mixed (r := ⟨26, 71, ⟨[.v], [.v], [], none⟩⟩) rfl t26 Try.func71 hb⟩
theorem t42 : trF (cfOf Try.prog tab 22 [] none) (sgOf tab) [(0, .y), (2, (.o .v)), (3, (.o .v)), (4, .v), (11, .v)] [(1, [1]), (5, [0, 0, 1, 0]), (13, []), (29, []), (13, []), (13, []), (2, [])] Try.f9 ⟨[.y], [(.o .v)], [], none⟩ = some ir_laws_toIntS := by kernel_rfl
instance : Has K 42 ir_laws_toIntS := ⟨fun _ _ hb => KS.of_body tabOk mixed (r := ⟨42, 9, ⟨[.y], [(.o .v)], [], none⟩⟩) rfl t42 Try.func9 hb⟩
theorem t44 : trF (cfOf Try.prog tab 26 [] none) (sgOf tab) [(0, .y), (1, .y), (4, .v), (5, .v), (10, .v), (14, .v), (25, .v)] [(3, []), (19, []), (4, []), (11, []), (43, []), (75, []), (4, []), (11, []), (4, [])] Try.f12 ⟨[.y, .y], [.v], [], none⟩ = some ir_laws_eqIntS := by kernel_rfl
instance : Has K 44 ir_laws_eqIntS := ⟨fun _ _ hb => KS.of_body tabOk mixed (r := ⟨44, 12, ⟨[.y, .y], [.v], [], none⟩⟩) rfl t44 Try.func12 hb⟩
theorem t45 : trF (cfOf Try.prog tab 19 [0] none) (sgOf tab) [(0, (.o .v)), (1, .v), (4, .v), (5, .v), (9, .v)] [(3, []), (11, []), (27, []), (11, []), (11, []), (11, []), (5, [])] Try.f13 ⟨[(.o .v), .v], [.v], [0], none⟩ = some ir_laws_markIntS := by kernel_rfl
instance : Has K 45 ir_laws_markIntS := ⟨fun _ _ hb => KS.of_body tabOk mixed (r := ⟨45, 13, ⟨[(.o .v), .v], [.v], [0], none⟩⟩) rfl t45 Try.func13 hb⟩
theorem t46 : trF (cfOf Try.prog tab 21 [] none) (sgOf tab) [(0, .y), (1, .v), (4, .v), (5, .v), (9, .v), (17, .v)] [(3, []), (11, []), (27, []), (43, []), (4, []), (11, []), (11, []), (4, [])] Try.f34 ⟨[.y, .v], [.v], [], none⟩ = some ir_laws_heldIntS := by kernel_rfl
instance : Has K 46 ir_laws_heldIntS := ⟨fun _ _ hb => KS.of_body tabOk mixed (r := ⟨46, 34, ⟨[.y, .v], [.v], [], none⟩⟩) rfl t46 Try.func34 hb⟩
theorem t64 : trF (cfOf Try.prog tab 31 [] none) (sgOf tab) [(0, .v), (2, .v), (3, .v), (4, .v), (8, .v), (13, .v), (14, .v), (18, .v), (23, .v)] [(1, []), (5, []), (13, []), (29, []), (45, []), (109, []), (13, []), (141, []), (13, []), (2, []), (269, []), (2, []), (13, []), (2, [])] Try.f51 ⟨[.v], [.v], [], none⟩ = some ir_spec_IsDyck := by kernel_rfl
instance : Has K 64 ir_spec_IsDyck := ⟨fun _ _ hb => KS.of_body tabOk mixed (r := ⟨64, 51, ⟨[.v], [.v], [], none⟩⟩) rfl t64 Try.func51 hb⟩
theorem t75 : trF (cfOf Try.prog tab 6 [] none) (sgOf tab) [(0, .y), (2, (.o .v))] [(1, [1]), (2, [1, 0, 0, 0])] Try.f28 ⟨[.y], [(.o .v)], [], none⟩ = some ir_impl_copyInts := by kernel_rfl
instance : Has K 75 ir_impl_copyInts := ⟨fun _ _ hb => KS.of_body tabOk mixed (r := ⟨75, 28, ⟨[.y], [(.o .v)], [], none⟩⟩) rfl t75 Try.func28 hb⟩
theorem t119 : trF (cfOf Try.prog tab 44 [] none) (sgOf tab) [(0, .y), (1, .y), (2, .y), (3, .y), (4, .v), (9, .v), (14, .v), (19, .v), (25, .v), (31, .v), (37, .v), (43, .v)] [(12, []), (44, []), (16, []), (76, []), (16, []), (140, []), (16, []), (268, []), (16, []), (524, []), (16, []), (1036, []), (16, []), (2048, []), (16, []), (16, [])] Try.f11 ⟨[.y, .y], [.v], [], none⟩ = some ir_laws_eqClaim := by kernel_rfl
instance : Has K 119 ir_laws_eqClaim := ⟨fun _ _ hb => KS.of_body tabOk mixed (r := ⟨119, 11, ⟨[.y, .y], [.v], [], none⟩⟩) rfl t119 Try.func11 hb⟩
theorem t122 : trF (cfOf Try.prog tab 22 [0] none) (sgOf tab) [(0, (.a (.o (.o (.o .v))))), (1, .v), (2, .v), (4, .v)] [(7, [77778, 0, 0]), (7, [0, 1, 0, 101006, 0, 200006, 0]), (7, [0, 1, 0, 101010, 0, 200010, 0]), (7, [0, 1, 0, 101014, 0, 200014, 0]), (3, [0, 1, 0, 102018, 0, 200018, 0]), (9, [0, 0, 300000])] Try.f14 ⟨[(.a (.o (.o (.o .v)))), .v], [.v], [0], none⟩ = some ir_laws_markClaim := by kernel_rfl
instance : Has K 122 ir_laws_markClaim := ⟨fun _ _ hb => KS.of_body tabOk mixed (r := ⟨122, 14, ⟨[(.a (.o (.o (.o .v)))), .v], [.v], [0], none⟩⟩) rfl t122 Try.func14 hb⟩
theorem t123 : trF (cfOf Try.prog tab 30 [] none) (sgOf tab) [(0, .y), (1, .v), (2, .y), (4, .v), (10, .v), (16, .v), (22, .v), (28, .v)] [(6, []), (6, []), (22, []), (8, []), (6, []), (38, []), (8, []), (6, []), (70, []), (8, []), (2, []), (130, []), (8, []), (8, [])] Try.f15 ⟨[.y, .v], [.v], [], none⟩ = some ir_laws_heldClaim := by kernel_rfl
instance : Has K 123 ir_laws_heldClaim := ⟨fun _ _ hb => KS.of_body tabOk mixed (r := ⟨123, 15, ⟨[.y, .v], [.v], [], none⟩⟩) rfl t123 Try.func15 hb⟩
theorem t155 : trF (cfOf Try.prog tab 27 [] none) (sgOf tab) [(0, .y), (1, .y), (4, .v), (5, .v), (10, .v), (14, .v), (26, .v)] [(3, []), (19, []), (4, []), (11, []), (43, []), (75, []), (4, []), (11, []), (4, [])] Try.f30 ⟨[.y, .y], [.v], [], none⟩ = some ir_laws_eqIntSS := by kernel_rfl
instance : Has K 155 ir_laws_eqIntSS := ⟨fun _ _ hb => KS.of_body tabOk mixed (r := ⟨155, 30, ⟨[.y, .y], [.v], [], none⟩⟩) rfl t155 Try.func30 hb⟩
theorem t158 : trF (cfOf Try.prog tab 19 [0] none) (sgOf tab) [(0, (.o (.o .v))), (1, .v), (4, .v), (5, .v), (9, .v)] [(3, []), (11, []), (27, []), (11, [77776, 0, 0, 0, 1, 0, 101015, 0, 200015, 0]), (11, []), (5, [])] Try.f32 ⟨[(.o (.o .v)), .v], [.v], [0], none⟩ = some ir_laws_markIntSS := by kernel_rfl
instance : Has K 158 ir_laws_markIntSS := ⟨fun _ _ hb => KS.of_body tabOk mixed (r := ⟨158, 32, ⟨[(.o (.o .v)), .v], [.v], [0], none⟩⟩) rfl t158 Try.func32 hb⟩
theorem t159 : trF (cfOf Try.prog tab 21 [] none) (sgOf tab) [(0, .y), (1, .v), (4, .v), (5, .v), (9, .v), (19, .v)] [(3, []), (11, []), (27, []), (11, []), (43, []), (4, []), (11, []), (4, [])] Try.f35 ⟨[.y, .v], [.v], [], none⟩ = some ir_laws_heldIntSS := by kernel_rfl
instance : Has K 159 ir_laws_heldIntSS := ⟨fun _ _ hb => KS.of_body tabOk mixed (r := ⟨159, 35, ⟨[.y, .v], [.v], [], none⟩⟩) rfl t159 Try.func35 hb⟩
theorem t234 : trF (cfOf Try.prog tab 10 [] none) (sgOf tab) [(0, .v), (2, (.o .v)), (5, .v)] [(1, [1]), (5, []), (2, [1, 0]), (2, [])] Try.f65 ⟨[.v], [(.o .v)], [], none⟩ = some ir_spec_PathsOf := by kernel_rfl
instance : Has K 234 ir_spec_PathsOf := ⟨fun _ _ hb => KS.of_body tabOk mixed (r := ⟨234, 65, ⟨[.v], [(.o .v)], [], none⟩⟩) rfl t234 Try.func65 hb⟩
theorem t292 : trF (cfOf Try.prog tab 35 [] none) (sgOf tab) [(0, .v), (1, .v), (2, .v), (6, (.o .v)), (7, (.o .v)), (9, .v), (14, .v), (25, .v)] [(7, [1]), (39, []), (8, [0, 1, 0]), (23, [1, 0]), (87, []), (23, []), (151, []), (16, []), (8, [])] Try.f95 ⟨[.v, .v, .v], [(.o .v)], [], none⟩ = some ir_spec_l3All := by kernel_rfl
instance : Has K 292 ir_spec_l3All := ⟨fun _ _ hb => KS.of_body tabOk mixed (r := ⟨292, 95, ⟨[.v, .v, .v], [(.o .v)], [], none⟩⟩) rfl t292 Try.func95 hb⟩
theorem t314 : trF (cfOf Try.prog tab 12 [] none) (sgOf tab) [(0, .v), (2, (.o .v)), (3, (.b (.o .v))), (4, (.b .v))] [(1, [1]), (5, [1, 1, 0]), (13, []), (13, [77777, 0, 0]), (4, [0, 0, 0, 326]), (2, [1, 0])] Try.f99 ⟨[.v], [(.o .v)], [], none⟩ = some ir_impl_allPaths := by kernel_rfl
instance : Has K 314 ir_impl_allPaths := ⟨fun _ _ hb => KS.of_body tabOk mixed (r := ⟨314, 99, ⟨[.v], [(.o .v)], [], none⟩⟩) rfl t314 Try.func99 hb⟩
theorem t326 : trF (cfOf Try.prog tab 37 [3] (some (4, 326, [3, 4]))) (sgOf tab) [(0, .v), (1, .v), (2, .v), (3, (.b (.o .v))), (4, .v), (13, .v), (19, .v), (29, .v)] [(63, []), (8, [1, 0, 0, 0, 0]), (95, []), (31, [0, 0, 0, 0, 0, 0, 326]), (159, []), (8, [0, 0, 0, 0, 0, 0, 326])] Try.f119 ⟨[.v, .v, .v, (.b (.o .v)), .v], [], [3], (some (4, 326, [3, 4]))⟩ = some ir_impl_allPaths_f1 := by kernel_rfl
instance : Has K 326 ir_impl_allPaths_f1 := ⟨fun _ _ hb => KS.of_body tabOk mixed (r := ⟨326, 119, ⟨[.v, .v, .v, (.b (.o .v)), .v], [], [3], (some (4, 326, [3, 4]))⟩⟩) rfl t326 Try.func119 hb⟩
theorem t328 : trF (cfOf Try.prog tab 93 [] none) (sgOf tab) [(0, .y), (2, .v), (3, (.b (.o (.o (.o .v))))), (4, .v), (5, (.o .v)), (6, (.b (.o (.o (.o .v))))), (7, .v), (8, .v), (9, .v), (10, .v), (11, (.b (.o (.o (.o .v))))), (12, .v), (15, .v), (37, .v), (42, .v), (58, .v), (66, .v), (69, .v), (84, .v), (89, .v), (92, .v)] [(1, []), (4097, []), (2, []), (13, [0, 0, 0, 0, 0, 0, 3, 0, 0]), (29, []), (125, [0, 0, 0, 0, 0, 3, 0, 0]), (8317, []), (2, []), (16509, []), (2, []), (253, []), (237, []), (32813, []), (2, []), (301, []), (301, [77776, 0, 0, 300059, 0, 400059, 0]), (813, []), (813, []), (66349, []), (2, []), (131373, []), (2, []), (3372, [0, 0, 0, 0, 0, 0, 3, 0, 0]), (262432, []), (2, []), (800, []), (768, []), (525056, []), (2, []), (1048576, []), (2, []), (2, [])] Try.f3 ⟨[.y], [.v], [], none⟩ = some ir_laws_FnExactClaimOfMeander := by kernel_rfl
instance : Has K 328 ir_laws_FnExactClaimOfMeander := ⟨fun _ _ hb => KS.of_body tabOk mixed (r := ⟨328, 3, ⟨[.y], [.v], [], none⟩⟩) rfl t328 Try.func3 hb⟩
theorem t333 : trF (cfOf Try.prog tab 19 [] none) (sgOf tab) [(0, .y), (2, (.b (.o (.o (.o .v))))), (3, .v), (4, (.o .v)), (5, .v), (12, .v)] [(3, [3, 0]), (27, []), (43, []), (6, [3, 0, 0]), (6, [1, 0, 0, 0, 3, 0, 0])] Try.f8 ⟨[.y], [(.a (.o (.o (.o .v)))), .v], [], none⟩ = some ir_spec_ClaimOfMeander := by kernel_rfl
instance : Has K 333 ir_spec_ClaimOfMeander := ⟨fun _ _ hb => KS.of_body tabOk mixed (r := ⟨333, 8, ⟨[.y], [(.a (.o (.o (.o .v)))), .v], [], none⟩⟩) rfl t333 Try.func8 hb⟩
theorem t334 : trF (cfOf Try.prog tab 18 [] none) (sgOf tab) [(0, .y), (2, (.b (.o (.o (.o .v))))), (3, .v), (4, (.o .v)), (5, .v), (12, .v)] [(3, [3, 0]), (27, []), (43, []), (6, [3, 0, 0]), (6, [0, 0, 0, 3, 0, 0])] Try.f10 ⟨[.y], [(.a (.o (.o (.o .v)))), .v], [], none⟩ = some ir_impl_ClaimOfMeander := by kernel_rfl
instance : Has K 334 ir_impl_ClaimOfMeander := ⟨fun _ _ hb => KS.of_body tabOk mixed (r := ⟨334, 10, ⟨[.y], [(.a (.o (.o (.o .v)))), .v], [], none⟩⟩) rfl t334 Try.func10 hb⟩
theorem t343 : trF (cfOf Try.prog tab 42 [] none) (sgOf tab) [(0, .y), (2, (.o .v)), (3, .v), (4, .v), (5, .v), (6, .v), (7, (.o .v)), (19, .v), (26, .v), (39, .v)] [(1, [1, 0]), (9, []), (137, []), (6, [1, 0, 0]), (17, []), (49, []), (305, []), (113, []), (625, []), (6, []), (49, []), (6, [1, 0, 0])] Try.f26 ⟨[.y], [(.o .v), .v], [], none⟩ = some ir_spec_MeanderPartner := by kernel_rfl
instance : Has K 343 ir_spec_MeanderPartner := ⟨fun _ _ hb => KS.of_body tabOk mixed (r := ⟨343, 26, ⟨[.y], [(.o .v), .v], [], none⟩⟩) rfl t343 Try.func26 hb⟩
theorem t344 : trF (cfOf Try.prog tab 32 [] none) (sgOf tab) [(0, .y), (2, (.o .v)), (3, .v), (5, (.o .v)), (14, .v), (19, (.o (.o .v))), (20, .v), (21, .v), (22, .v), (28, .v)] [(1, [1, 0]), (17, []), (6, [1, 0, 0]), (225, []), (481, []), (233, [77776, 0, 1, 101024, 0]), (745, []), (6, []), (225, []), (6, [1, 0, 0])] Try.f27 ⟨[.y], [(.o .v), .v], [], none⟩ = some ir_impl_MeanderPartner := by kernel_rfl
instance : Has K 344 ir_impl_MeanderPartner := ⟨fun _ _ hb => KS.of_body tabOk mixed (r := ⟨344, 27, ⟨[.y], [(.o .v), .v], [], none⟩⟩) rfl t344 Try.func27 hb⟩
theorem t355 : trF (cfOf Try.prog tab 6 [] none) (sgOf tab) [(0, .y), (2, .v)] [(1, []), (2, [])] Try.f63 ⟨[.y], [.v], [], none⟩ = some ir_spec_IsNoncrossingMatching := by kernel_rfl
instance : Has K 355 ir_spec_IsNoncrossingMatching := ⟨fun _ _ hb => KS.of_body tabOk mixed (r := ⟨355, 63, ⟨[.y], [.v], [], none⟩⟩) rfl t355 Try.func63 hb⟩
theorem t356 : trF (cfOf Try.prog tab 26 [] none) (sgOf tab) [(0, .v), (2, (.o .v)), (3, .v), (4, (.o .v)), (5, .v), (14, .v)] [(1, [1, 0]), (9, [1, 0]), (25, []), (57, []), (25, []), (25, []), (6, [])] Try.f66 ⟨[.v], [(.o .v), .v], [], none⟩ = some ir_spec_MatchingOf := by kernel_rfl
instance : Has K 356 ir_spec_MatchingOf := ⟨fun _ _ hb => KS.of_body tabOk mixed (r := ⟨356, 66, ⟨[.v], [(.o .v), .v], [], none⟩⟩) rfl t356 Try.func66 hb⟩
theorem t357 : trF (cfOf Try.prog tab 9 [] none) (sgOf tab) [(0, .y), (1, .y), (4, .v)] [(3, []), (4, [])] Try.f67 ⟨[.y, .y], [.v], [], none⟩ = some ir_spec_IsMeander := by kernel_rfl
instance : Has K 357 ir_spec_IsMeander := ⟨fun _ _ hb => KS.of_body tabOk mixed (r := ⟨357, 67, ⟨[.y, .y], [.v], [], none⟩⟩) rfl t357 Try.func67 hb⟩
theorem t358 : trF (cfOf Try.prog tab 6 [] none) (sgOf tab) [(0, .y), (2, .v)] [(1, []), (2, [])] Try.f68 ⟨[.y], [.v], [], none⟩ = some ir_impl_IsNoncrossingMatching := by kernel_rfl
instance : Has K 358 ir_impl_IsNoncrossingMatching := ⟨fun _ _ hb => KS.of_body tabOk mixed (r := ⟨358, 68, ⟨[.y], [.v], [], none⟩⟩) rfl t358 Try.func68 hb⟩
theorem t359 : trF (cfOf Try.prog tab 21 [] none) (sgOf tab) [(0, .v), (2, (.o (.o .v))), (3, (.o (.o .v))), (5, .v), (8, .v), (9, .v), (10, .v), (11, .v)] [(1, [2]), (5, [2, 0]), (116, []), (244, []), (124, []), (116, [0, 0, 0, 2, 0, 0]), (116, []), (2, [])] Try.f69 ⟨[.v], [(.o (.o .v))], [], none⟩ = some ir_impl_matchings := by kernel_rfl
instance : Has K 359 ir_impl_matchings := ⟨fun _ _ hb => KS.of_body tabOk mixed (r := ⟨359, 69, ⟨[.v], [(.o (.o .v))], [], none⟩⟩) rfl t359 Try.func69 hb⟩
theorem t360 : trF (cfOf Try.prog tab 47 [] none) (sgOf tab) [(0, .y), (1, .y), (4, .v), (5, (.o .v)), (6, .v), (7, .v), (8, .v), (13, .v), (14, .v), (15, .v), (20, .v), (28, .v)] [(3, []), (11, [0, 0, 1, 0]), (27, []), (411, []), (923, []), (443, []), (1467, []), (443, []), (475, []), (2523, []), (475, []), (475, []), (475, []), (411, []), (4, [])] Try.f70 ⟨[.y, .y], [.v], [], none⟩ = some ir_impl_cycles := by kernel_rfl
instance : Has K 360 ir_impl_cycles := ⟨fun _ _ hb => KS.of_body tabOk mixed (r := ⟨360, 70, ⟨[.y, .y], [.v], [], none⟩⟩) rfl t360 Try.func70 hb⟩
theorem t369 : trF (cfOf Try.prog tab 43 [] none) (sgOf tab) [(0, .y), (2, .v), (3, .v), (4, .v), (5, .v), (8, .v), (12, .v), (20, .v), (39, .v)] [(1, []), (33, []), (2, []), (5, []), (13, []), (77, []), (29, []), (157, []), (285, []), (29, []), (29, []), (13, []), (2, [])] Try.f94 ⟨[.y], [.v], [], none⟩ = some ir_spec_CrossingsOf := by kernel_rfl
instance : Has K 369 ir_spec_CrossingsOf := ⟨fun _ _ hb => KS.of_body tabOk mixed (r := ⟨369, 94, ⟨[.y], [.v], [], none⟩⟩) rfl t369 Try.func94 hb⟩
theorem t370 : trF (cfOf Try.prog tab 46 [] none) (sgOf tab) [(0, .v), (1, .v), (4, .v), (5, .v), (6, .v), (7, .v), (11, .v), (16, .v), (22, .v), (28, .v), (32, .v), (38, .v), (44, .v)] [(3, []), (11, []), (75, []), (27, []), (155, []), (283, []), (27, []), (27, []), (539, []), (4, []), (27, []), (41, []), (1065, []), (2089, []), (41, []), (41, []), (4137, []), (4, []), (41, []), (4, [])] Try.f96 ⟨[.v, .v], [.v], [], none⟩ = some ir_spec_l4Partner := by kernel_rfl
instance : Has K 370 ir_spec_l4Partner := ⟨fun _ _ hb => KS.of_body tabOk mixed (r := ⟨370, 96, ⟨[.v, .v], [.v], [], none⟩⟩) rfl t370 Try.func96 hb⟩
theorem t371 : trF (cfOf Try.prog tab 62 [] none) (sgOf tab) [(0, .y), (1, .y), (4, .v), (5, (.o .v)), (6, .v), (7, .v), (8, .v), (23, .v), (30, .v), (36, .v), (44, .v)] [(3, []), (131, []), (4, []), (11, [0, 0, 1, 0]), (27, []), (59, []), (315, []), (571, []), (59, []), (123, []), (1147, []), (123, []), (123, []), (123, []), (59, []), (4, [])] Try.f97 ⟨[.y, .y], [.v], [], none⟩ = some ir_spec_LoopsOf := by kernel_rfl
instance : Has K 371 ir_spec_LoopsOf := ⟨fun _ _ hb => KS.of_body tabOk mixed (r := ⟨371, 97, ⟨[.y, .y], [.v], [], none⟩⟩) rfl t371 Try.func97 hb⟩
theorem t372 : trF (cfOf Try.prog tab 14 [] none) (sgOf tab) [(0, .y), (2, .v), (3, .v), (7, .v)] [(1, []), (9, []), (2, []), (4, []), (2, [])] Try.f98 ⟨[.y], [.v], [], none⟩ = some ir_impl_CrossingsOf := by kernel_rfl
instance : Has K 372 ir_impl_CrossingsOf := ⟨fun _ _ hb => KS.of_body tabOk mixed (r := ⟨372, 98, ⟨[.y], [.v], [], none⟩⟩) rfl t372 Try.func98 hb⟩
theorem t373 : trF (cfOf Try.prog tab 45 [] none) (sgOf tab) [(0, .v), (2, (.o .v)), (3, (.o .v)), (4, (.o .v)), (5, .v), (6, .v), (14, .v), (20, .v)] [(1, [1]), (5, [0, 0, 1, 0]), (13, [1, 0]), (29, []), (93, []), (157, []), (29, []), (61, []), (61, []), (61, []), (29, []), (29, []), (2, [])] Try.f100 ⟨[.v], [(.o .v)], [], none⟩ = some ir_impl_partners := by kernel_rfl
instance : Has K 373 ir_impl_partners := ⟨fun _ _ hb => KS.of_body tabOk mixed (r := ⟨373, 100, ⟨[.v], [(.o .v)], [], none⟩⟩) rfl t373 Try.func100 hb⟩
theorem t379 : trF (cfOf Try.prog tab 41 [] none) (sgOf tab) [(0, .y), (2, .v), (3, .v), (7, .v), (37, .v)] [(1, []), (5, []), (13, []), (21, []), (2, []), (5, []), (2, [])] Try.f116 ⟨[.y], [.v], [], none⟩ = some ir_spec_IsMatching := by kernel_rfl
instance : Has K 379 ir_spec_IsMatching := ⟨fun _ _ hb => KS.of_body tabOk mixed (r := ⟨379, 116, ⟨[.y], [.v], [], none⟩⟩) rfl t379 Try.func116 hb⟩
theorem t380 : trF (cfOf Try.prog tab 35 [] none) (sgOf tab) [(0, .y), (2, .v), (3, .v), (4, .v), (7, .v), (8, .y), (9, .v), (10, .v), (11, .v), (33, .v)] [(1, []), (17, []), (2, []), (225, []), (481, []), (237, []), (737, []), (2, []), (225, []), (2, [])] Try.f117 ⟨[.y], [.v], [], none⟩ = some ir_impl_IsMatching := by kernel_rfl
instance : Has K 380 ir_impl_IsMatching := ⟨fun _ _ hb => KS.of_body tabOk mixed (r := ⟨380, 117, ⟨[.y], [.v], [], none⟩⟩) rfl t380 Try.func117 hb⟩
theorem t381 : trF (cfOf Try.prog tab 53 [] none) (sgOf tab) [(0, .y), (2, .v), (3, .v), (4, .v), (5, .v), (6, .v), (7, .v), (8, .v), (9, .v), (10, .y), (11, .v), (12, .v), (13, .v), (17, .y), (18, .v), (19, .v), (20, .v), (41, .v), (44, .v)] [(1, []), (25, []), (3609, []), (7705, []), (3705, []), (61049, []), (126585, []), (61433, []), (192377, []), (323193, []), (61049, []), (61049, []), (61049, []), (3609, []), (6, [])] Try.f118 ⟨[.y], [.v, .v], [], none⟩ = some ir_impl_arcs := by kernel_rfl
instance : Has K 381 ir_impl_arcs := ⟨fun _ _ hb => KS.of_body tabOk mixed (r := ⟨381, 118, ⟨[.y], [.v, .v], [], none⟩⟩) rfl t381 Try.func118 hb⟩
end Go.Proofs.Ytjofmcgipblojaa.fnExactClaimOfMeander

