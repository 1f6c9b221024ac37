/-
  Texts of the little language.
-/
import Derived.Test.YthbpihoafdpicaaIrAllA
import Derived.Test.YthbpihoafdpicaaRows
import Derived.Test.YthbpihoafdpicaaCatThree
namespace Go.Proofs.Ythbpihoafdpicaa.fnExactClaimOfSorting
open Go Go.Cat Go.Proofs
set_option maxRecDepth 100000
def tab : List Row := [⟨15, 96, ⟨[.y, .y], [.v], [], none⟩⟩,
  ⟨16, 102, ⟨[(.o .v), .v], [.v], [0], none⟩⟩,
  ⟨17, 104, ⟨[.y, .v], [.v], [], none⟩⟩,
  ⟨22, 49, ⟨[.v, .v, .v], [.v], [], none⟩⟩,
  ⟨23, 52, ⟨[.v, .v, .v], [.v], [], none⟩⟩,
  ⟨26, 140, ⟨[.v], [.v], [], none⟩⟩,
  ⟨42, 16, ⟨[.y], [(.o .v)], [], none⟩⟩,
  ⟨44, 18, ⟨[.y, .y], [.v], [], none⟩⟩,
  ⟨45, 25, ⟨[(.o .v), .v], [.v], [0], none⟩⟩,
  ⟨46, 26, ⟨[.y, .v], [.v], [], none⟩⟩,
  ⟨49, 99, ⟨[.y], [(.o .v), .v], [], none⟩⟩,
  ⟨50, 101, ⟨[.y], [(.o .v), .v], [], none⟩⟩,
  ⟨73, 56, ⟨[.y], [.v], [], none⟩⟩,
  ⟨74, 64, ⟨[.y], [.v], [], none⟩⟩,
  ⟨75, 75, ⟨[.y], [(.o .v)], [], none⟩⟩,
  ⟨95, 13, ⟨[.y], [.v], [], none⟩⟩,
  ⟨119, 41, ⟨[.y, .y], [.v], [], none⟩⟩,
  ⟨120, 42, ⟨[.y], [(.a (.o (.o (.o .v)))), .v], [], none⟩⟩,
  ⟨121, 43, ⟨[.y], [(.a (.o (.o (.o .v)))), .v], [], none⟩⟩,
  ⟨122, 44, ⟨[(.a (.o (.o (.o .v)))), .v], [.v], [0], none⟩⟩,
  ⟨123, 45, ⟨[.y, .v], [.v], [], none⟩⟩,
  ⟨155, 97, ⟨[.y, .y], [.v], [], none⟩⟩,
  ⟨156, 98, ⟨[.y], [.v, .v], [], none⟩⟩,
  ⟨157, 100, ⟨[.y], [.v, .v], [], none⟩⟩,
  ⟨158, 103, ⟨[(.o (.o .v)), .v], [.v], [0], none⟩⟩,
  ⟨159, 105, ⟨[.y, .v], [.v], [], none⟩⟩,
  ⟨186, 138, ⟨[.y], [.v], [], none⟩⟩,
  ⟨187, 139, ⟨[.y], [.v], [], none⟩⟩,
  ⟨205, 158, ⟨[.y, .v], [.v], [], none⟩⟩,
  ⟨206, 159, ⟨[.v, .v, .v], [.v], [], none⟩⟩]
theorem tabOk : tabOK Try.prog tab = true := by kernel_rfl
theorem mixed : Try.prog.follows .mixedOrders = true := Try.checked.mixed
abbrev K := KS Try.prog tab
theorem t15 : trF (cfOf Try.prog tab 26 [] none) (sgOf tab) [(0, .y), (1, .y), (4, .v), (5, .v), (10, .v), (14, .v), (25, .v)] [(3, []), (19, []), (4, []), (11, []), (43, []), (75, []), (4, []), (11, []), (4, [])] Try.f96 ⟨[.y, .y], [.v], [], none⟩ = some ir_laws_eqStringS := by kernel_rfl
instance : Has K 15 ir_laws_eqStringS := ⟨fun _ _ hb => KS.of_body tabOk mixed (r := ⟨15, 96, ⟨[.y, .y], [.v], [], none⟩⟩) rfl t15 Try.func96 hb⟩
theorem t16 : trF (cfOf Try.prog tab 20 [0] none) (sgOf tab) [(0, (.o .v)), (1, .v), (4, .v), (5, .v), (9, .v)] [(3, []), (11, []), (27, []), (11, []), (11, []), (11, []), (5, [])] Try.f102 ⟨[(.o .v), .v], [.v], [0], none⟩ = some ir_laws_markStringS := by kernel_rfl
instance : Has K 16 ir_laws_markStringS := ⟨fun _ _ hb => KS.of_body tabOk mixed (r := ⟨16, 102, ⟨[(.o .v), .v], [.v], [0], none⟩⟩) rfl t16 Try.func102 hb⟩
theorem t17 : trF (cfOf Try.prog tab 22 [] none) (sgOf tab) [(0, .y), (1, .v), (4, .v), (5, .v), (9, .v), (18, .v)] [(3, []), (11, []), (27, []), (43, []), (4, []), (11, []), (11, []), (4, [])] Try.f104 ⟨[.y, .v], [.v], [], none⟩ = some ir_laws_heldStringS := by kernel_rfl
instance : Has K 17 ir_laws_heldStringS := ⟨fun _ _ hb => KS.of_body tabOk mixed (r := ⟨17, 104, ⟨[.y, .v], [.v], [], none⟩⟩) rfl t17 Try.func104 hb⟩
theorem t22 : trF (cfOf Try.prog tab 15 [] none) (sgOf tab) [(0, .v), (1, .v), (2, .v), (6, .v)] [(7, []), (8, [])] Try.f49 ⟨[.v, .v, .v], [.v], [], none⟩ = some ir_spec_l1In := by kernel_rfl
instance : Has K 22 ir_spec_l1In := ⟨fun _ _ hb => KS.of_body tabOk mixed (r := ⟨22, 49, ⟨[.v, .v, .v], [.v], [], none⟩⟩) rfl t22 Try.func49 hb⟩
theorem t23 : trF (cfOf Try.prog tab 15 [] none) (sgOf tab) [(0, .v), (1, .v), (2, .v), (6, .v)] [(7, []), (8, [])] Try.f52 ⟨[.v, .v, .v], [.v], [], none⟩ = some ir_impl_within := by kernel_rfl
instance : Has K 23 ir_impl_within := ⟨fun _ _ hb => KS.of_body tabOk mixed (r := ⟨23, 52, ⟨[.v, .v, .v], [.v], [], none⟩⟩) rfl t23 Try.func52 hb⟩
theorem t26 : trF (cfOf Try.prog tab 20 [] none) (sgOf tab) [(0, .v), (2, .v), (3, .v), (5, .v), (7, .v)] [(1, []), (9, []), (2, []), (5, []), (21, []), (5, []), (5, []), (2, [])] Try.f140 ⟨[.v], [.v], [], none⟩ = some ir_laws_markText := by kernel_rfl
instance : Has K 26 ir_laws_markText := ⟨fun _ _ hb => KS.of_body tabOk mixed (r := ⟨26, 140, ⟨[.v], [.v], [], none⟩⟩) rfl t26 Try.func140 hb⟩
theorem t42 : trF (cfOf Try.prog tab 22 [] none) (sgOf tab) [(0, .y), (2, (.o .v)), (3, (.o .v)), (4, .v), (11, .v)] [(1, [1]), (5, [0, 0, 1, 0]), (13, []), (29, []), (13, []), (13, []), (2, [])] Try.f16 ⟨[.y], [(.o .v)], [], none⟩ = some ir_laws_toIntS := by kernel_rfl
instance : Has K 42 ir_laws_toIntS := ⟨fun _ _ hb => KS.of_body tabOk mixed (r := ⟨42, 16, ⟨[.y], [(.o .v)], [], none⟩⟩) rfl t42 Try.func16 hb⟩
theorem t44 : trF (cfOf Try.prog tab 26 [] none) (sgOf tab) [(0, .y), (1, .y), (4, .v), (5, .v), (10, .v), (14, .v), (25, .v)] [(3, []), (19, []), (4, []), (11, []), (43, []), (75, []), (4, []), (11, []), (4, [])] Try.f18 ⟨[.y, .y], [.v], [], none⟩ = some ir_laws_eqIntS := by kernel_rfl
instance : Has K 44 ir_laws_eqIntS := ⟨fun _ _ hb => KS.of_body tabOk mixed (r := ⟨44, 18, ⟨[.y, .y], [.v], [], none⟩⟩) rfl t44 Try.func18 hb⟩
theorem t45 : trF (cfOf Try.prog tab 19 [0] none) (sgOf tab) [(0, (.o .v)), (1, .v), (4, .v), (5, .v), (9, .v)] [(3, []), (11, []), (27, []), (11, []), (11, []), (11, []), (5, [])] Try.f25 ⟨[(.o .v), .v], [.v], [0], none⟩ = some ir_laws_markIntS := by kernel_rfl
instance : Has K 45 ir_laws_markIntS := ⟨fun _ _ hb => KS.of_body tabOk mixed (r := ⟨45, 25, ⟨[(.o .v), .v], [.v], [0], none⟩⟩) rfl t45 Try.func25 hb⟩
theorem t46 : trF (cfOf Try.prog tab 21 [] none) (sgOf tab) [(0, .y), (1, .v), (4, .v), (5, .v), (9, .v), (17, .v)] [(3, []), (11, []), (27, []), (43, []), (4, []), (11, []), (11, []), (4, [])] Try.f26 ⟨[.y, .v], [.v], [], none⟩ = some ir_laws_heldIntS := by kernel_rfl
instance : Has K 46 ir_laws_heldIntS := ⟨fun _ _ hb => KS.of_body tabOk mixed (r := ⟨46, 26, ⟨[.y, .v], [.v], [], none⟩⟩) rfl t46 Try.func26 hb⟩
theorem t49 : trF (cfOf Try.prog tab 58 [] none) (sgOf tab) [(0, .y), (2, (.o .v)), (3, .v), (4, .v), (5, .v), (6, .v), (14, .v), (22, .v), (30, .v), (52, .v)] [(1, [1, 0]), (9, []), (73, []), (25, []), (153, []), (57, []), (313, []), (569, []), (6, [0, 0, 0, 1, 0, 0]), (57, []), (25, []), (9, []), (6, [1, 0, 0])] Try.f99 ⟨[.y], [(.o .v), .v], [], none⟩ = some ir_spec_PatternOf231 := by kernel_rfl
instance : Has K 49 ir_spec_PatternOf231 := ⟨fun _ _ hb => KS.of_body tabOk mixed (r := ⟨49, 99, ⟨[.y], [(.o .v), .v], [], none⟩⟩) rfl t49 Try.func99 hb⟩
theorem t50 : trF (cfOf Try.prog tab 58 [] none) (sgOf tab) [(0, .y), (2, (.o .v)), (3, .v), (4, .v), (5, .v), (6, .v), (9, .v), (12, .v), (13, .v), (14, .v), (21, .v), (29, .v), (51, .v)] [(1, [1, 0]), (65, []), (6, [1, 0, 0]), (385, []), (897, []), (393, []), (409, []), (1433, []), (441, []), (2489, []), (4537, []), (6, [0, 0, 0, 1, 0, 0]), (441, []), (409, []), (385, []), (6, [1, 0, 0])] Try.f101 ⟨[.y], [(.o .v), .v], [], none⟩ = some ir_impl_PatternOf231 := by kernel_rfl
instance : Has K 50 ir_impl_PatternOf231 := ⟨fun _ _ hb => KS.of_body tabOk mixed (r := ⟨50, 101, ⟨[.y], [(.o .v), .v], [], none⟩⟩) rfl t50 Try.func101 hb⟩
theorem t73 : trF (cfOf Try.prog tab 37 [] none) (sgOf tab) [(0, .y), (2, .v), (3, .v), (4, .v), (8, .v), (19, .v), (22, .v), (33, .v)] [(1, []), (5, []), (21, []), (37, []), (2, []), (13, []), (77, []), (141, []), (2, []), (13, []), (5, []), (2, [])] Try.f56 ⟨[.y], [.v], [], none⟩ = some ir_spec_IsPermutation := by kernel_rfl
instance : Has K 73 ir_spec_IsPermutation := ⟨fun _ _ hb => KS.of_body tabOk mixed (r := ⟨73, 56, ⟨[.y], [.v], [], none⟩⟩) rfl t73 Try.func56 hb⟩
theorem t74 : trF (cfOf Try.prog tab 34 [] none) (sgOf tab) [(0, .y), (2, .v), (3, (.o .v)), (5, .v), (8, .v), (12, .y), (13, .v), (14, .v), (15, .v), (29, .v)] [(1, []), (17, []), (2, []), (5, [0, 0, 1, 0]), (229, []), (485, []), (237, []), (749, []), (2, []), (229, []), (229, []), (2, [])] Try.f64 ⟨[.y], [.v], [], none⟩ = some ir_impl_IsPermutation := by kernel_rfl
instance : Has K 74 ir_impl_IsPermutation := ⟨fun _ _ hb => KS.of_body tabOk mixed (r := ⟨74, 64, ⟨[.y], [.v], [], none⟩⟩) rfl t74 Try.func64 hb⟩
theorem t75 : trF (cfOf Try.prog tab 6 [] none) (sgOf tab) [(0, .y), (2, (.o .v))] [(1, [1]), (2, [1, 0, 0, 0])] Try.f75 ⟨[.y], [(.o .v)], [], none⟩ = some ir_impl_copyInts := by kernel_rfl
instance : Has K 75 ir_impl_copyInts := ⟨fun _ _ hb => KS.of_body tabOk mixed (r := ⟨75, 75, ⟨[.y], [(.o .v)], [], none⟩⟩) rfl t75 Try.func75 hb⟩
theorem t95 : trF (cfOf Try.prog tab 93 [] none) (sgOf tab) [(0, .y), (2, .v), (3, (.b (.o (.o (.o .v))))), (4, .v), (5, (.o .v)), (6, (.b (.o (.o (.o .v))))), (7, .v), (8, .v), (9, .v), (10, .v), (11, (.b (.o (.o (.o .v))))), (12, .v), (15, .v), (37, .v), (42, .v), (58, .v), (66, .v), (69, .v), (84, .v), (89, .v), (92, .v)] [(1, []), (4097, []), (2, []), (13, [0, 0, 0, 0, 0, 0, 3, 0, 0]), (29, []), (125, [0, 0, 0, 0, 0, 3, 0, 0]), (8317, []), (2, []), (16509, []), (2, []), (253, []), (237, []), (32813, []), (2, []), (301, []), (301, [77776, 0, 0, 300059, 0, 400059, 0]), (813, []), (813, []), (66349, []), (2, []), (131373, []), (2, []), (3372, [0, 0, 0, 0, 0, 0, 3, 0, 0]), (262432, []), (2, []), (800, []), (768, []), (525056, []), (2, []), (1048576, []), (2, []), (2, [])] Try.f13 ⟨[.y], [.v], [], none⟩ = some ir_laws_FnExactClaimOfSorting := by kernel_rfl
instance : Has K 95 ir_laws_FnExactClaimOfSorting := ⟨fun _ _ hb => KS.of_body tabOk mixed (r := ⟨95, 13, ⟨[.y], [.v], [], none⟩⟩) rfl t95 Try.func13 hb⟩
theorem t119 : trF (cfOf Try.prog tab 44 [] none) (sgOf tab) [(0, .y), (1, .y), (2, .y), (3, .y), (4, .v), (9, .v), (14, .v), (19, .v), (25, .v), (31, .v), (37, .v), (43, .v)] [(12, []), (44, []), (16, []), (76, []), (16, []), (140, []), (16, []), (268, []), (16, []), (524, []), (16, []), (1036, []), (16, []), (2048, []), (16, []), (16, [])] Try.f41 ⟨[.y, .y], [.v], [], none⟩ = some ir_laws_eqClaim := by kernel_rfl
instance : Has K 119 ir_laws_eqClaim := ⟨fun _ _ hb => KS.of_body tabOk mixed (r := ⟨119, 41, ⟨[.y, .y], [.v], [], none⟩⟩) rfl t119 Try.func41 hb⟩
theorem t120 : trF (cfOf Try.prog tab 32 [] none) (sgOf tab) [(0, .y), (2, (.b (.o (.o (.o .v))))), (3, .v), (4, .v), (5, .v), (6, (.o .v)), (7, .v), (13, .v), (25, .v)] [(3, [3, 0]), (27, []), (139, []), (6, [0, 1, 0, 0, 3, 0, 0]), (99, []), (291, []), (6, [3, 0, 0]), (6, [1, 0, 0, 0, 3, 0, 0])] Try.f42 ⟨[.y], [(.a (.o (.o (.o .v)))), .v], [], none⟩ = some ir_spec_ClaimOfSorting := by kernel_rfl
instance : Has K 120 ir_spec_ClaimOfSorting := ⟨fun _ _ hb => KS.of_body tabOk mixed (r := ⟨120, 42, ⟨[.y], [(.a (.o (.o (.o .v)))), .v], [], none⟩⟩) rfl t120 Try.func42 hb⟩
theorem t121 : trF (cfOf Try.prog tab 31 [] none) (sgOf tab) [(0, .y), (2, (.b (.o (.o (.o .v))))), (3, .v), (4, .v), (5, .v), (6, (.o .v)), (10, .v), (17, .v)] [(3, [3, 0]), (67, []), (6, [3, 0, 0]), (27, []), (139, []), (6, [0, 0, 0, 3, 0, 0]), (35, []), (6, [0, 0, 0, 3, 0, 0])] Try.f43 ⟨[.y], [(.a (.o (.o (.o .v)))), .v], [], none⟩ = some ir_impl_ClaimOfSorting := by kernel_rfl
instance : Has K 121 ir_impl_ClaimOfSorting := ⟨fun _ _ hb => KS.of_body tabOk mixed (r := ⟨121, 43, ⟨[.y], [(.a (.o (.o (.o .v)))), .v], [], none⟩⟩) rfl t121 Try.func43 hb⟩
theorem t122 : trF (cfOf Try.prog tab 22 [0] none) (sgOf tab) [(0, (.a (.o (.o (.o .v))))), (1, .v), (2, .v), (4, .v)] [(7, [77778, 0, 0]), (7, [0, 1, 0, 101006, 0, 200006, 0]), (7, [0, 1, 0, 101010, 0, 200010, 0]), (7, [0, 1, 0, 101014, 0, 200014, 0]), (3, [0, 1, 0, 102018, 0, 200018, 0]), (9, [0, 0, 300000])] Try.f44 ⟨[(.a (.o (.o (.o .v)))), .v], [.v], [0], none⟩ = some ir_laws_markClaim := by kernel_rfl
instance : Has K 122 ir_laws_markClaim := ⟨fun _ _ hb => KS.of_body tabOk mixed (r := ⟨122, 44, ⟨[(.a (.o (.o (.o .v)))), .v], [.v], [0], none⟩⟩) rfl t122 Try.func44 hb⟩
theorem t123 : trF (cfOf Try.prog tab 30 [] none) (sgOf tab) [(0, .y), (1, .v), (2, .y), (4, .v), (10, .v), (16, .v), (22, .v), (28, .v)] [(6, []), (6, []), (22, []), (8, []), (6, []), (38, []), (8, []), (6, []), (70, []), (8, []), (2, []), (130, []), (8, []), (8, [])] Try.f45 ⟨[.y, .v], [.v], [], none⟩ = some ir_laws_heldClaim := by kernel_rfl
instance : Has K 123 ir_laws_heldClaim := ⟨fun _ _ hb => KS.of_body tabOk mixed (r := ⟨123, 45, ⟨[.y, .v], [.v], [], none⟩⟩) rfl t123 Try.func45 hb⟩
theorem t155 : trF (cfOf Try.prog tab 27 [] none) (sgOf tab) [(0, .y), (1, .y), (4, .v), (5, .v), (10, .v), (14, .v), (26, .v)] [(3, []), (19, []), (4, []), (11, []), (43, []), (75, []), (4, []), (11, []), (4, [])] Try.f97 ⟨[.y, .y], [.v], [], none⟩ = some ir_laws_eqIntSS := by kernel_rfl
instance : Has K 155 ir_laws_eqIntSS := ⟨fun _ _ hb => KS.of_body tabOk mixed (r := ⟨155, 97, ⟨[.y, .y], [.v], [], none⟩⟩) rfl t155 Try.func97 hb⟩
theorem t156 : trF (cfOf Try.prog tab 54 [] none) (sgOf tab) [(0, .y), (2, .v), (3, .v), (4, .v), (5, (.o .v)), (6, .v), (7, .v), (14, .v), (19, .v), (43, .v)] [(1, []), (129, []), (6, []), (9, []), (25, [1, 0]), (57, []), (121, []), (377, []), (121, []), (121, []), (633, []), (121, []), (121, []), (121, []), (121, []), (6, [])] Try.f98 ⟨[.y], [.v, .v], [], none⟩ = some ir_spec_PathOfPermutation := by kernel_rfl
instance : Has K 156 ir_spec_PathOfPermutation := ⟨fun _ _ hb => KS.of_body tabOk mixed (r := ⟨156, 98, ⟨[.y], [.v, .v], [], none⟩⟩) rfl t156 Try.func98 hb⟩
theorem t157 : trF (cfOf Try.prog tab 58 [] none) (sgOf tab) [(0, .y), (2, .v), (3, .v), (4, (.o .v)), (5, (.o .v)), (6, .v), (7, .v), (14, .v), (18, .v), (19, .v), (20, .v), (44, .v)] [(1, []), (129, []), (6, []), (9, [1, 0]), (25, [1, 0]), (57, []), (825, []), (1849, []), (889, []), (889, []), (825, []), (2873, []), (825, []), (825, []), (825, []), (825, []), (6, [])] Try.f100 ⟨[.y], [.v, .v], [], none⟩ = some ir_impl_PathOfPermutation := by kernel_rfl
instance : Has K 157 ir_impl_PathOfPermutation := ⟨fun _ _ hb => KS.of_body tabOk mixed (r := ⟨157, 100, ⟨[.y], [.v, .v], [], none⟩⟩) rfl t157 Try.func100 hb⟩
theorem t158 : trF (cfOf Try.prog tab 19 [0] none) (sgOf tab) [(0, (.o (.o .v))), (1, .v), (4, .v), (5, .v), (9, .v)] [(3, []), (11, []), (27, []), (11, [77776, 0, 0, 0, 1, 0, 101015, 0, 200015, 0]), (11, []), (5, [])] Try.f103 ⟨[(.o (.o .v)), .v], [.v], [0], none⟩ = some ir_laws_markIntSS := by kernel_rfl
instance : Has K 158 ir_laws_markIntSS := ⟨fun _ _ hb => KS.of_body tabOk mixed (r := ⟨158, 103, ⟨[(.o (.o .v)), .v], [.v], [0], none⟩⟩) rfl t158 Try.func103 hb⟩
theorem t159 : trF (cfOf Try.prog tab 21 [] none) (sgOf tab) [(0, .y), (1, .v), (4, .v), (5, .v), (9, .v), (19, .v)] [(3, []), (11, []), (27, []), (11, []), (43, []), (4, []), (11, []), (4, [])] Try.f105 ⟨[.y, .v], [.v], [], none⟩ = some ir_laws_heldIntSS := by kernel_rfl
instance : Has K 159 ir_laws_heldIntSS := ⟨fun _ _ hb => KS.of_body tabOk mixed (r := ⟨159, 105, ⟨[.y, .v], [.v], [], none⟩⟩) rfl t159 Try.func105 hb⟩
theorem t186 : trF (cfOf Try.prog tab 52 [] none) (sgOf tab) [(0, .y), (2, .v), (3, .v), (4, .v), (5, .v), (13, .v), (21, .v), (29, .v), (51, .v)] [(1, []), (5, []), (37, []), (13, []), (77, []), (29, []), (157, []), (285, []), (2, []), (29, []), (13, []), (5, []), (2, [])] Try.f138 ⟨[.y], [.v], [], none⟩ = some ir_spec_Contains231 := by kernel_rfl
instance : Has K 186 ir_spec_Contains231 := ⟨fun _ _ hb => KS.of_body tabOk mixed (r := ⟨186, 138, ⟨[.y], [.v], [], none⟩⟩) rfl t186 Try.func138 hb⟩
theorem t187 : trF (cfOf Try.prog tab 5 [] none) (sgOf tab) [(0, .y), (2, .v)] [(1, []), (2, [])] Try.f139 ⟨[.y], [.v], [], none⟩ = some ir_impl_Contains231 := by kernel_rfl
instance : Has K 187 ir_impl_Contains231 := ⟨fun _ _ hb => KS.of_body tabOk mixed (r := ⟨187, 139, ⟨[.y], [.v], [], none⟩⟩) rfl t187 Try.func139 hb⟩
theorem t205 : trF (cfOf Try.prog tab 47 [] none) (sgOf tab) [(0, .y), (1, .v), (4, .v), (5, .v), (6, .v), (7, .v), (10, .v), (12, .v), (13, .v), (14, .v), (21, .v), (29, .v), (45, .v)] [(3, []), (67, []), (4, []), (387, []), (899, []), (395, []), (411, []), (1435, []), (443, []), (2491, []), (4539, [0, 0, 0, 0, 0, 0, 0, 0, 0, 0, 0, 0, 0, 206]), (4, []), (443, []), (411, []), (387, []), (4, [])] Try.f158 ⟨[.y, .v], [.v], [], none⟩ = some ir_impl_hasTriple := by kernel_rfl
instance : Has K 205 ir_impl_hasTriple := ⟨fun _ _ hb => KS.of_body tabOk mixed (r := ⟨205, 158, ⟨[.y, .v], [.v], [], none⟩⟩) rfl t205 Try.func158 hb⟩
theorem t206 : trF (cfOf Try.prog tab 15 [] none) (sgOf tab) [(0, .v), (1, .v), (2, .v), (6, .v)] [(7, []), (8, [])] Try.f159 ⟨[.v, .v, .v], [.v], [], none⟩ = some ir_impl_Contains231_f1 := by kernel_rfl
instance : Has K 206 ir_impl_Contains231_f1 := ⟨fun _ _ hb => KS.of_body tabOk mixed (r := ⟨206, 159, ⟨[.v, .v, .v], [.v], [], none⟩⟩) rfl t206 Try.func159 hb⟩
end Go.Proofs.Ythbpihoafdpicaa.fnExactClaimOfSorting

