/-
  Texts of the little language.
-/
import Derived.Test.YtjofmcgipblojaaIrAllA
import Derived.Test.YtjofmcgipblojaaRows
import Derived.Test.YtjofmcgipblojaaCatThree
namespace Go.Proofs.Ytjofmcgipblojaa.fnExactFormatClaim
open Go Go.Cat Go.Proofs
set_option maxRecDepth 100000
def tab : List Row := [⟨7, 49, ⟨[.v], [.v], [], none⟩⟩,
  ⟨8, 56, ⟨[.v], [.v], [], none⟩⟩,
  ⟨15, 29, ⟨[.y, .y], [.v], [], none⟩⟩,
  ⟨22, 64, ⟨[.v, .v, .v], [.v], [], none⟩⟩,
  ⟨23, 57, ⟨[.v, .v, .v], [.v], [], none⟩⟩,
  ⟨42, 9, ⟨[.y], [(.o .v)], [], none⟩⟩,
  ⟨44, 12, ⟨[.y, .y], [.v], [], none⟩⟩,
  ⟨64, 51, ⟨[.v], [.v], [], none⟩⟩,
  ⟨67, 60, ⟨[.v], [.v], [], none⟩⟩,
  ⟨82, 92, ⟨[.v], [(.o .v), .v], [], none⟩⟩,
  ⟨115, 22, ⟨[.y, .v], [.v], [], none⟩⟩,
  ⟨117, 24, ⟨[.y], [(.a (.o (.o (.o .v))))], [], none⟩⟩,
  ⟨119, 11, ⟨[.y, .y], [.v], [], none⟩⟩,
  ⟨138, 90, ⟨[.v], [.v], [], none⟩⟩,
  ⟨143, 93, ⟨[.v], [.v], [], none⟩⟩,
  ⟨145, 46, ⟨[.y, .v], [.v], [], none⟩⟩,
  ⟨146, 47, ⟨[.y, .v], [.v], [], none⟩⟩,
  ⟨147, 48, ⟨[.y, .v], [.v], [], none⟩⟩,
  ⟨151, 54, ⟨[.y], [(.o .v)], [], none⟩⟩,
  ⟨152, 55, ⟨[.y], [(.o (.o .v))], [], none⟩⟩,
  ⟨155, 30, ⟨[.y, .y], [.v], [], none⟩⟩,
  ⟨160, 50, ⟨[.v], [.v], [], none⟩⟩,
  ⟨167, 58, ⟨[.v], [.v], [], none⟩⟩,
  ⟨184, 59, ⟨[.y, .v], [.v], [], none⟩⟩,
  ⟨188, 84, ⟨[.v, .v], [.v], [], none⟩⟩,
  ⟨194, 91, ⟨[.v], [.v, .v], [], none⟩⟩,
  ⟨197, 113, ⟨[.v], [.v], [], none⟩⟩,
  ⟨208, 115, ⟨[.v, .v], [.v, .v], [], none⟩⟩,
  ⟨332, 7, ⟨[.y], [.v], [], none⟩⟩,
  ⟨341, 23, ⟨[.y], [.v], [], none⟩⟩,
  ⟨342, 25, ⟨[.y], [.v], [], none⟩⟩,
  ⟨351, 52, ⟨[.y], [.v], [], none⟩⟩,
  ⟨352, 53, ⟨[.y], [.v], [], none⟩⟩,
  ⟨353, 61, ⟨[.y], [.v], [], none⟩⟩,
  ⟨354, 62, ⟨[.y], [.v], [], none⟩⟩]
theorem tabOk : tabOK Try.prog tab = true := by kernel_rfl
theorem mixed : Try.prog.follows .mixedOrders = true := Try.checked.mixed
abbrev K := KS Try.prog tab
theorem t7 : trF (cfOf Try.prog tab 11 [] none) (sgOf tab) [(0, .v), (2, .v), (5, .v)] [(1, []), (5, []), (2, []), (2, [])] Try.f49 ⟨[.v], [.v], [], none⟩ = some ir_spec_ClaimWord := by kernel_rfl
instance : Has K 7 ir_spec_ClaimWord := ⟨fun _ _ hb => KS.of_body tabOk mixed (r := ⟨7, 49, ⟨[.v], [.v], [], none⟩⟩) rfl t7 Try.func49 hb⟩
theorem t8 : trF (cfOf Try.prog tab 11 [] none) (sgOf tab) [(0, .v), (2, .v), (5, .v)] [(1, []), (5, []), (2, []), (2, [])] Try.f56 ⟨[.v], [.v], [], none⟩ = some ir_impl_ClaimWord := by kernel_rfl
instance : Has K 8 ir_impl_ClaimWord := ⟨fun _ _ hb => KS.of_body tabOk mixed (r := ⟨8, 56, ⟨[.v], [.v], [], none⟩⟩) rfl t8 Try.func56 hb⟩
theorem t15 : trF (cfOf Try.prog tab 26 [] none) (sgOf tab) [(0, .y), (1, .y), (4, .v), (5, .v), (10, .v), (14, .v), (25, .v)] [(3, []), (19, []), (4, []), (11, []), (43, []), (75, []), (4, []), (11, []), (4, [])] Try.f29 ⟨[.y, .y], [.v], [], none⟩ = some ir_laws_eqStringS := by kernel_rfl
instance : Has K 15 ir_laws_eqStringS := ⟨fun _ _ hb => KS.of_body tabOk mixed (r := ⟨15, 29, ⟨[.y, .y], [.v], [], none⟩⟩) rfl t15 Try.func29 hb⟩
theorem t22 : trF (cfOf Try.prog tab 15 [] none) (sgOf tab) [(0, .v), (1, .v), (2, .v), (6, .v)] [(7, []), (8, [])] Try.f64 ⟨[.v, .v, .v], [.v], [], none⟩ = some ir_spec_l1In := by kernel_rfl
instance : Has K 22 ir_spec_l1In := ⟨fun _ _ hb => KS.of_body tabOk mixed (r := ⟨22, 64, ⟨[.v, .v, .v], [.v], [], none⟩⟩) rfl t22 Try.func64 hb⟩
theorem t23 : trF (cfOf Try.prog tab 15 [] none) (sgOf tab) [(0, .v), (1, .v), (2, .v), (6, .v)] [(7, []), (8, [])] Try.f57 ⟨[.v, .v, .v], [.v], [], none⟩ = some ir_impl_within := by kernel_rfl
instance : Has K 23 ir_impl_within := ⟨fun _ _ hb => KS.of_body tabOk mixed (r := ⟨23, 57, ⟨[.v, .v, .v], [.v], [], none⟩⟩) rfl t23 Try.func57 hb⟩
theorem t42 : trF (cfOf Try.prog tab 22 [] none) (sgOf tab) [(0, .y), (2, (.o .v)), (3, (.o .v)), (4, .v), (11, .v)] [(1, [1]), (5, [0, 0, 1, 0]), (13, []), (29, []), (13, []), (13, []), (2, [])] Try.f9 ⟨[.y], [(.o .v)], [], none⟩ = some ir_laws_toIntS := by kernel_rfl
instance : Has K 42 ir_laws_toIntS := ⟨fun _ _ hb => KS.of_body tabOk mixed (r := ⟨42, 9, ⟨[.y], [(.o .v)], [], none⟩⟩) rfl t42 Try.func9 hb⟩
theorem t44 : trF (cfOf Try.prog tab 26 [] none) (sgOf tab) [(0, .y), (1, .y), (4, .v), (5, .v), (10, .v), (14, .v), (25, .v)] [(3, []), (19, []), (4, []), (11, []), (43, []), (75, []), (4, []), (11, []), (4, [])] Try.f12 ⟨[.y, .y], [.v], [], none⟩ = some ir_laws_eqIntS := by kernel_rfl
instance : Has K 44 ir_laws_eqIntS := ⟨fun _ _ hb => KS.of_body tabOk mixed (r := ⟨44, 12, ⟨[.y, .y], [.v], [], none⟩⟩) rfl t44 Try.func12 hb⟩
theorem t64 : trF (cfOf Try.prog tab 31 [] none) (sgOf tab) [(0, .v), (2, .v), (3, .v), (4, .v), (8, .v), (13, .v), (14, .v), (18, .v), (23, .v)] [(1, []), (5, []), (13, []), (29, []), (45, []), (109, []), (13, []), (141, []), (13, []), (2, []), (269, []), (2, []), (13, []), (2, [])] Try.f51 ⟨[.v], [.v], [], none⟩ = some ir_spec_IsDyck := by kernel_rfl
instance : Has K 64 ir_spec_IsDyck := ⟨fun _ _ hb => KS.of_body tabOk mixed (r := ⟨64, 51, ⟨[.v], [.v], [], none⟩⟩) rfl t64 Try.func51 hb⟩
theorem t67 : trF (cfOf Try.prog tab 14 [] none) (sgOf tab) [(0, .v), (2, .v), (4, .v), (7, .v)] [(1, []), (9, []), (2, []), (4, []), (2, [])] Try.f60 ⟨[.v], [.v], [], none⟩ = some ir_impl_IsDyck := by kernel_rfl
instance : Has K 67 ir_impl_IsDyck := ⟨fun _ _ hb => KS.of_body tabOk mixed (r := ⟨67, 60, ⟨[.v], [.v], [], none⟩⟩) rfl t67 Try.func60 hb⟩
theorem t82 : trF (cfOf Try.prog tab 34 [] none) (sgOf tab) [(0, .v), (2, (.o .v)), (3, .v), (4, (.o .v)), (5, .v), (6, .v), (11, .v), (16, .v), (17, .v), (21, .v), (26, .v)] [(1, [1, 0]), (9, [1, 0]), (25, []), (57, []), (121, []), (185, []), (441, []), (57, []), (569, []), (57, []), (6, [1, 0]), (1081, []), (6, [1, 0]), (57, []), (57, []), (6, [])] Try.f92 ⟨[.v], [(.o .v), .v], [], none⟩ = some ir_impl_heights := by kernel_rfl
instance : Has K 82 ir_impl_heights := ⟨fun _ _ hb => KS.of_body tabOk mixed (r := ⟨82, 92, ⟨[.v], [(.o .v), .v], [], none⟩⟩) rfl t82 Try.func92 hb⟩
theorem t115 : trF (cfOf Try.prog tab 44 [] none) (sgOf tab) [(0, .y), (1, .v), (2, .y), (4, .v), (11, .v), (18, .v), (24, .v), (30, .v), (36, .v), (42, .v)] [(6, []), (6, []), (22, []), (8, []), (6, []), (38, []), (8, []), (6, []), (70, []), (8, []), (6, []), (134, []), (8, []), (6, []), (262, []), (8, []), (2, []), (514, []), (8, []), (8, [])] Try.f22 ⟨[.y, .v], [.v], [], none⟩ = some ir_laws_szClaim := by kernel_rfl
instance : Has K 115 ir_laws_szClaim := ⟨fun _ _ hb => KS.of_body tabOk mixed (r := ⟨115, 22, ⟨[.y, .v], [.v], [], none⟩⟩) rfl t115 Try.func22 hb⟩
theorem t117 : trF (cfOf Try.prog tab 30 [] none) (sgOf tab) [(0, .y), (1, .y), (2, (.b (.o (.o (.o .v))))), (3, (.b (.o (.o (.o .v)))))] [(6, [0, 3]), (14, [3]), (14, []), (14, []), (14, []), (14, []), (14, []), (14, []), (12, []), (4, [1, 0])] Try.f24 ⟨[.y], [(.a (.o (.o (.o .v))))], [], none⟩ = some ir_laws_toClaim := by kernel_rfl
instance : Has K 117 ir_laws_toClaim := ⟨fun _ _ hb => KS.of_body tabOk mixed (r := ⟨117, 24, ⟨[.y], [(.a (.o (.o (.o .v))))], [], none⟩⟩) rfl t117 Try.func24 hb⟩
theorem t119 : trF (cfOf Try.prog tab 44 [] none) (sgOf tab) [(0, .y), (1, .y), (2, .y), (3, .y), (4, .v), (9, .v), (14, .v), (19, .v), (25, .v), (31, .v), (37, .v), (43, .v)] [(12, []), (44, []), (16, []), (76, []), (16, []), (140, []), (16, []), (268, []), (16, []), (524, []), (16, []), (1036, []), (16, []), (2048, []), (16, []), (16, [])] Try.f11 ⟨[.y, .y], [.v], [], none⟩ = some ir_laws_eqClaim := by kernel_rfl
instance : Has K 119 ir_laws_eqClaim := ⟨fun _ _ hb => KS.of_body tabOk mixed (r := ⟨119, 11, ⟨[.y, .y], [.v], [], none⟩⟩) rfl t119 Try.func11 hb⟩
theorem t138 : trF (cfOf Try.prog tab 31 [] none) (sgOf tab) [(0, .v), (2, .v), (3, .v), (4, .v), (5, .v), (7, .v), (11, .v), (15, .v), (27, .v)] [(1, []), (33, []), (2, []), (5, []), (13, []), (77, []), (29, []), (157, []), (29, []), (13, []), (13, []), (260, []), (2, []), (2, [])] Try.f90 ⟨[.v], [.v], [], none⟩ = some ir_spec_FormatInt := by kernel_rfl
instance : Has K 138 ir_spec_FormatInt := ⟨fun _ _ hb => KS.of_body tabOk mixed (r := ⟨138, 90, ⟨[.v], [.v], [], none⟩⟩) rfl t138 Try.func90 hb⟩
theorem t143 : trF (cfOf Try.prog tab 59 [] none) (sgOf tab) [(0, .v), (2, .v), (3, (.o .v)), (4, .v), (5, .v), (6, .v), (7, .v), (9, .v), (13, .v), (19, .v), (29, .v), (38, .v)] [(1, []), (129, []), (2, []), (5, [1, 0]), (13, []), (269, []), (29, []), (541, []), (29, []), (13, []), (13, []), (1028, []), (4, []), (100, []), (2148, []), (100, [0, 0, 0, 0, 0, 0, 0, 0, 0, 0, 0, 0, 0, 5, 0, 5]), (100, []), (2, [])] Try.f93 ⟨[.v], [.v], [], none⟩ = some ir_impl_FormatInt := by kernel_rfl
instance : Has K 143 ir_impl_FormatInt := ⟨fun _ _ hb => KS.of_body tabOk mixed (r := ⟨143, 93, ⟨[.v], [.v], [], none⟩⟩) rfl t143 Try.func93 hb⟩
theorem t145 : trF (cfOf Try.prog tab 28 [] none) (sgOf tab) [(0, .y), (1, .v), (4, .v), (5, .v), (11, .v), (15, .v), (26, .v)] [(3, []), (3, []), (19, []), (4, []), (11, []), (43, []), (11, []), (75, []), (4, []), (11, []), (4, [])] Try.f46 ⟨[.y, .v], [.v], [], none⟩ = some ir_laws_szStringS := by kernel_rfl
instance : Has K 145 ir_laws_szStringS := ⟨fun _ _ hb => KS.of_body tabOk mixed (r := ⟨145, 46, ⟨[.y, .v], [.v], [], none⟩⟩) rfl t145 Try.func46 hb⟩
theorem t146 : trF (cfOf Try.prog tab 12 [] none) (sgOf tab) [(0, .y), (1, .v), (4, .v), (10, .v)] [(3, []), (2, []), (10, []), (4, []), (4, [])] Try.f47 ⟨[.y, .v], [.v], [], none⟩ = some ir_laws_szIntS := by kernel_rfl
instance : Has K 146 ir_laws_szIntS := ⟨fun _ _ hb => KS.of_body tabOk mixed (r := ⟨146, 47, ⟨[.y, .v], [.v], [], none⟩⟩) rfl t146 Try.func47 hb⟩
theorem t147 : trF (cfOf Try.prog tab 27 [] none) (sgOf tab) [(0, .y), (1, .v), (4, .v), (5, .v), (11, .v), (15, .v), (25, .v)] [(3, []), (3, []), (19, []), (4, []), (11, []), (43, []), (11, []), (75, []), (4, []), (11, []), (4, [])] Try.f48 ⟨[.y, .v], [.v], [], none⟩ = some ir_laws_szIntSS := by kernel_rfl
instance : Has K 147 ir_laws_szIntSS := ⟨fun _ _ hb => KS.of_body tabOk mixed (r := ⟨147, 48, ⟨[.y, .v], [.v], [], none⟩⟩) rfl t147 Try.func48 hb⟩
theorem t151 : trF (cfOf Try.prog tab 22 [] none) (sgOf tab) [(0, .y), (2, (.o .v)), (3, (.o .v)), (4, .v), (11, .v)] [(1, [1]), (5, [0, 0, 1, 0]), (13, []), (29, []), (13, []), (13, []), (2, [])] Try.f54 ⟨[.y], [(.o .v)], [], none⟩ = some ir_laws_toStringS := by kernel_rfl
instance : Has K 151 ir_laws_toStringS := ⟨fun _ _ hb => KS.of_body tabOk mixed (r := ⟨151, 54, ⟨[.y], [(.o .v)], [], none⟩⟩) rfl t151 Try.func54 hb⟩
theorem t152 : trF (cfOf Try.prog tab 23 [] none) (sgOf tab) [(0, .y), (2, (.o (.o .v))), (3, (.o (.o .v))), (4, .v), (11, .v)] [(1, [2]), (5, [0, 0, 2, 0]), (13, []), (29, []), (13, []), (13, []), (2, [])] Try.f55 ⟨[.y], [(.o (.o .v))], [], none⟩ = some ir_laws_toIntSS := by kernel_rfl
instance : Has K 152 ir_laws_toIntSS := ⟨fun _ _ hb => KS.of_body tabOk mixed (r := ⟨152, 55, ⟨[.y], [(.o (.o .v))], [], none⟩⟩) rfl t152 Try.func55 hb⟩
theorem t155 : trF (cfOf Try.prog tab 27 [] none) (sgOf tab) [(0, .y), (1, .y), (4, .v), (5, .v), (10, .v), (14, .v), (26, .v)] [(3, []), (19, []), (4, []), (11, []), (43, []), (75, []), (4, []), (11, []), (4, [])] Try.f30 ⟨[.y, .y], [.v], [], none⟩ = some ir_laws_eqIntSS := by kernel_rfl
instance : Has K 155 ir_laws_eqIntSS := ⟨fun _ _ hb => KS.of_body tabOk mixed (r := ⟨155, 30, ⟨[.y, .y], [.v], [], none⟩⟩) rfl t155 Try.func30 hb⟩
theorem t160 : trF (cfOf Try.prog tab 17 [] none) (sgOf tab) [(0, .v), (2, .v)] [(1, []), (2, [])] Try.f50 ⟨[.v], [.v], [], none⟩ = some ir_spec_IsBinary := by kernel_rfl
instance : Has K 160 ir_spec_IsBinary := ⟨fun _ _ hb => KS.of_body tabOk mixed (r := ⟨160, 50, ⟨[.v], [.v], [], none⟩⟩) rfl t160 Try.func50 hb⟩
theorem t167 : trF (cfOf Try.prog tab 11 [] none) (sgOf tab) [(0, .v), (2, .v), (4, .v)] [(1, []), (4, []), (2, [])] Try.f58 ⟨[.v], [.v], [], none⟩ = some ir_impl_IsBinary := by kernel_rfl
instance : Has K 167 ir_impl_IsBinary := ⟨fun _ _ hb => KS.of_body tabOk mixed (r := ⟨167, 58, ⟨[.v], [.v], [], none⟩⟩) rfl t167 Try.func58 hb⟩
theorem t184 : trF (cfOf Try.prog tab 25 [] none) (sgOf tab) [(0, .y), (1, .v), (4, .v), (5, .v), (6, .v), (7, .v), (8, .y), (9, .v), (10, .v), (11, .v), (16, .v)] [(3, []), (11, []), (458, []), (970, []), (506, []), (1514, []), (490, []), (458, []), (458, []), (4, [])] Try.f59 ⟨[.y, .v], [.v], [], none⟩ = some ir_impl_glued := by kernel_rfl
instance : Has K 184 ir_impl_glued := ⟨fun _ _ hb => KS.of_body tabOk mixed (r := ⟨184, 59, ⟨[.y, .v], [.v], [], none⟩⟩) rfl t184 Try.func59 hb⟩
theorem t188 : trF (cfOf Try.prog tab 46 [] none) (sgOf tab) [(0, .v), (1, .v), (4, .v), (5, .v), (6, .v), (10, .v), (14, .v), (20, .v), (26, .v), (43, .v)] [(3, []), (35, []), (4, []), (67, []), (4, []), (131, []), (4, []), (9, []), (265, []), (4, []), (17, []), (528, []), (4, []), (4, [])] Try.f84 ⟨[.v, .v], [.v], [], none⟩ = some ir_spec_l6End := by kernel_rfl
instance : Has K 188 ir_spec_l6End := ⟨fun _ _ hb => KS.of_body tabOk mixed (r := ⟨188, 84, ⟨[.v, .v], [.v], [], none⟩⟩) rfl t188 Try.func84 hb⟩
theorem t194 : trF (cfOf Try.prog tab 24 [] none) (sgOf tab) [(0, .v), (2, .v), (3, .v), (4, .v), (5, .v), (8, .v), (22, .v)] [(1, []), (33, []), (6, []), (25, []), (72, []), (6, []), (6, [])] Try.f91 ⟨[.v], [.v, .v], [], none⟩ = some ir_impl_parseTree := by kernel_rfl
instance : Has K 194 ir_impl_parseTree := ⟨fun _ _ hb => KS.of_body tabOk mixed (r := ⟨194, 91, ⟨[.v], [.v, .v], [], none⟩⟩) rfl t194 Try.func91 hb⟩
theorem t197 : trF (cfOf Try.prog tab 17 [] none) (sgOf tab) [(0, .v), (2, .v), (4, .v)] [(1, []), (5, []), (2, []), (2, [])] Try.f113 ⟨[.v], [.v], [], none⟩ = some ir_impl_tree_nodes := by kernel_rfl
instance : Has K 197 ir_impl_tree_nodes := ⟨fun _ _ hb => KS.of_body tabOk mixed (r := ⟨197, 113, ⟨[.v], [.v], [], none⟩⟩) rfl t197 Try.func113 hb⟩
theorem t208 : trF (cfOf Try.prog tab 58 [] none) (sgOf tab) [(0, .v), (1, .v), (4, .v), (5, .v), (6, .v), (7, .v), (8, .v), (9, .v), (13, .v), (16, .v), (17, .v), (21, .v), (31, .v), (51, .v)] [(3, []), (259, []), (12, []), (515, []), (1539, []), (12, []), (2051, []), (49, []), (4145, []), (12, []), (209, []), (8400, []), (12, []), (12, []), (12, [])] Try.f115 ⟨[.v, .v], [.v, .v], [], none⟩ = some ir_impl_readTree := by kernel_rfl
instance : Has K 208 ir_impl_readTree := ⟨fun _ _ hb => KS.of_body tabOk mixed (r := ⟨208, 115, ⟨[.v, .v], [.v, .v], [], none⟩⟩) rfl t208 Try.func115 hb⟩
theorem t332 : trF (cfOf Try.prog tab 27 [] none) (sgOf tab) [(0, .y), (1, .y), (2, .v), (3, .v), (4, .v), (5, (.b (.o (.o (.o .v))))), (6, .v), (11, .v), (21, .v), (26, .v)] [(2, []), (10, []), (10, []), (130, []), (4, []), (18, []), (50, [0, 0, 3, 0]), (114, []), (290, []), (4, []), (512, []), (4, []), (4, [])] Try.f7 ⟨[.y], [.v], [], none⟩ = some ir_laws_FnExactFormatClaim := by kernel_rfl
instance : Has K 332 ir_laws_FnExactFormatClaim := ⟨fun _ _ hb => KS.of_body tabOk mixed (r := ⟨332, 7, ⟨[.y], [.v], [], none⟩⟩) rfl t332 Try.func7 hb⟩
theorem t341 : trF (cfOf Try.prog tab 93 [] none) (sgOf tab) [(0, .y), (1, .y), (2, .v), (3, .v), (4, .v), (5, .v), (10, .v), (11, .v), (23, .v), (28, .v), (37, .v), (47, .v), (52, .v), (63, .v), (77, .v), (83, .v)] [(2, []), (10, []), (74, []), (202, []), (202, []), (266, []), (4, []), (26, []), (538, []), (1050, []), (4, []), (26, []), (26, []), (4, []), (2122, []), (4106, []), (4, []), (4, []), (8266, []), (8266, []), (4, []), (16394, []), (42, []), (32810, []), (4, []), (4, []), (4, [])] Try.f23 ⟨[.y], [.v], [], none⟩ = some ir_spec_FormatClaim := by kernel_rfl
instance : Has K 341 ir_spec_FormatClaim := ⟨fun _ _ hb => KS.of_body tabOk mixed (r := ⟨341, 23, ⟨[.y], [.v], [], none⟩⟩) rfl t341 Try.func23 hb⟩
theorem t342 : trF (cfOf Try.prog tab 83 [] none) (sgOf tab) [(0, .y), (1, .y), (2, .v), (3, .v), (5, .v), (6, .v), (11, .v), (12, .v), (19, .v), (21, .y), (22, .v), (23, .v), (24, .v), (29, .v), (37, .v), (42, .v), (53, .v), (59, .v), (69, .v)] [(2, []), (10, []), (74, []), (202, []), (202, []), (266, []), (4, []), (3594, []), (7690, []), (3610, []), (11786, []), (4, []), (3594, []), (4, []), (16458, []), (32778, []), (4, []), (4, []), (65610, []), (42, []), (131114, []), (4, []), (4, []), (262218, []), (262154, []), (4, []), (4, [])] Try.f25 ⟨[.y], [.v], [], none⟩ = some ir_impl_FormatClaim := by kernel_rfl
instance : Has K 342 ir_impl_FormatClaim := ⟨fun _ _ hb => KS.of_body tabOk mixed (r := ⟨342, 25, ⟨[.y], [.v], [], none⟩⟩) rfl t342 Try.func25 hb⟩
theorem t351 : trF (cfOf Try.prog tab 32 [] none) (sgOf tab) [(0, .y), (2, .v), (3, .v), (4, .v), (13, .v), (17, .v), (30, .v)] [(1, []), (5, []), (13, []), (29, []), (45, []), (13, []), (13, []), (13, []), (68, []), (2, []), (2, [])] Try.f52 ⟨[.y], [.v], [], none⟩ = some ir_spec_l33Numbers := by kernel_rfl
instance : Has K 351 ir_spec_l33Numbers := ⟨fun _ _ hb => KS.of_body tabOk mixed (r := ⟨351, 52, ⟨[.y], [.v], [], none⟩⟩) rfl t351 Try.func52 hb⟩
theorem t352 : trF (cfOf Try.prog tab 66 [] none) (sgOf tab) [(0, .y), (2, .v), (3, .v), (4, .v), (8, .v), (41, .v), (43, .v), (64, .v)] [(1, []), (5, []), (13, []), (29, []), (45, []), (2, []), (77, []), (13, []), (13, []), (13, []), (132, []), (2, []), (2, [])] Try.f53 ⟨[.y], [.v], [], none⟩ = some ir_spec_FormatDiagonals := by kernel_rfl
instance : Has K 352 ir_spec_FormatDiagonals := ⟨fun _ _ hb => KS.of_body tabOk mixed (r := ⟨352, 53, ⟨[.y], [.v], [], none⟩⟩) rfl t352 Try.func53 hb⟩
theorem t353 : trF (cfOf Try.prog tab 31 [] none) (sgOf tab) [(0, .y), (2, .v), (3, (.o .v)), (5, .v), (13, .v), (15, .y), (16, .v), (17, .v), (18, .v)] [(1, []), (17, []), (2, []), (5, [1, 0]), (228, []), (484, []), (236, []), (228, []), (228, []), (2, [])] Try.f61 ⟨[.y], [.v], [], none⟩ = some ir_impl_short := by kernel_rfl
instance : Has K 353 ir_impl_short := ⟨fun _ _ hb => KS.of_body tabOk mixed (r := ⟨353, 61, ⟨[.y], [.v], [], none⟩⟩) rfl t353 Try.func61 hb⟩
theorem t354 : trF (cfOf Try.prog tab 51 [] none) (sgOf tab) [(0, .y), (2, .v), (3, (.o .v)), (5, .y), (8, .v), (11, .v), (13, .y), (14, .v), (15, .v), (16, .v), (35, .v)] [(1, []), (17, []), (2, []), (33, []), (2, []), (5, [1, 0]), (452, []), (964, []), (460, []), (1484, []), (2, []), (452, []), (452, []), (2, [])] Try.f62 ⟨[.y], [.v], [], none⟩ = some ir_impl_FormatDiagonals := by kernel_rfl
instance : Has K 354 ir_impl_FormatDiagonals := ⟨fun _ _ hb => KS.of_body tabOk mixed (r := ⟨354, 62, ⟨[.y], [.v], [], none⟩⟩) rfl t354 Try.func62 hb⟩
end Go.Proofs.Ytjofmcgipblojaa.fnExactFormatClaim

