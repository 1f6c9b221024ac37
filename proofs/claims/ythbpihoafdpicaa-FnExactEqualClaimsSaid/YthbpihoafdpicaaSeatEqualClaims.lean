/-
  Texts of the little language.
-/
import Derived.Test.YthbpihoafdpicaaIrAllA
import Derived.Test.YthbpihoafdpicaaRows
import Derived.Test.YthbpihoafdpicaaCatThree
namespace Go.Proofs.Ythbpihoafdpicaa.fnExactEqualClaims
open Go Go.Cat Go.Proofs
set_option maxRecDepth 100000
def tab : List Row := [⟨15, 96, ⟨[.y, .y], [.v], [], none⟩⟩,
  ⟨42, 16, ⟨[.y], [(.o .v)], [], none⟩⟩,
  ⟨44, 18, ⟨[.y, .y], [.v], [], none⟩⟩,
  ⟨72, 94, ⟨[.y, .y], [.v], [], none⟩⟩,
  ⟨94, 12, ⟨[.y, .y], [.v], [], none⟩⟩,
  ⟨115, 37, ⟨[.y, .v], [.v], [], none⟩⟩,
  ⟨116, 38, ⟨[.y, .y], [.v], [], none⟩⟩,
  ⟨117, 39, ⟨[.y], [(.a (.o (.o (.o .v))))], [], none⟩⟩,
  ⟨118, 40, ⟨[.y, .y], [.v], [], none⟩⟩,
  ⟨119, 41, ⟨[.y, .y], [.v], [], none⟩⟩,
  ⟨145, 85, ⟨[.y, .v], [.v], [], none⟩⟩,
  ⟨146, 86, ⟨[.y, .v], [.v], [], none⟩⟩,
  ⟨147, 87, ⟨[.y, .v], [.v], [], none⟩⟩,
  ⟨148, 88, ⟨[.y, .y], [.v], [], none⟩⟩,
  ⟨149, 89, ⟨[.y, .y], [.v], [], none⟩⟩,
  ⟨150, 90, ⟨[.y, .y], [.v], [], none⟩⟩,
  ⟨151, 91, ⟨[.y], [(.o .v)], [], none⟩⟩,
  ⟨152, 92, ⟨[.y], [(.o (.o .v))], [], none⟩⟩,
  ⟨153, 93, ⟨[.y, .y], [.v], [], none⟩⟩,
  ⟨154, 95, ⟨[.y, .y, .v], [.v], [], none⟩⟩,
  ⟨155, 97, ⟨[.y, .y], [.v], [], none⟩⟩]
theorem tabOk : tabOK Try.prog tab = true := by kernel_rfl
theorem mixed : Try.prog.follows .mixedOrders = true := Try.checked.mixed
abbrev K := KS Try.prog tab
theorem t15 : trF (cfOf Try.prog tab 26 [] none) (sgOf tab) [(0, .y), (1, .y), (4, .v), (5, .v), (10, .v), (14, .v), (25, .v)] [(3, []), (19, []), (4, []), (11, []), (43, []), (75, []), (4, []), (11, []), (4, [])] Try.f96 ⟨[.y, .y], [.v], [], none⟩ = some ir_laws_eqStringS := by kernel_rfl
instance : Has K 15 ir_laws_eqStringS := ⟨fun _ _ hb => KS.of_body tabOk mixed (r := ⟨15, 96, ⟨[.y, .y], [.v], [], none⟩⟩) rfl t15 Try.func96 hb⟩
theorem t42 : trF (cfOf Try.prog tab 22 [] none) (sgOf tab) [(0, .y), (2, (.o .v)), (3, (.o .v)), (4, .v), (11, .v)] [(1, [1]), (5, [0, 0, 1, 0]), (13, []), (29, []), (13, []), (13, []), (2, [])] Try.f16 ⟨[.y], [(.o .v)], [], none⟩ = some ir_laws_toIntS := by kernel_rfl
instance : Has K 42 ir_laws_toIntS := ⟨fun _ _ hb => KS.of_body tabOk mixed (r := ⟨42, 16, ⟨[.y], [(.o .v)], [], none⟩⟩) rfl t42 Try.func16 hb⟩
theorem t44 : trF (cfOf Try.prog tab 26 [] none) (sgOf tab) [(0, .y), (1, .y), (4, .v), (5, .v), (10, .v), (14, .v), (25, .v)] [(3, []), (19, []), (4, []), (11, []), (43, []), (75, []), (4, []), (11, []), (4, [])] Try.f18 ⟨[.y, .y], [.v], [], none⟩ = some ir_laws_eqIntS := by kernel_rfl
instance : Has K 44 ir_laws_eqIntS := ⟨fun _ _ hb => KS.of_body tabOk mixed (r := ⟨44, 18, ⟨[.y, .y], [.v], [], none⟩⟩) rfl t44 Try.func18 hb⟩
theorem t72 : trF (cfOf Try.prog tab 26 [] none) (sgOf tab) [(0, .y), (1, .y), (4, .v), (5, .v), (10, .v), (12, .v), (13, .v), (14, .v), (24, .v)] [(3, []), (19, []), (4, []), (99, []), (227, []), (107, []), (355, []), (4, []), (99, []), (4, [])] Try.f94 ⟨[.y, .y], [.v], [], none⟩ = some ir_impl_equalInts := by kernel_rfl
instance : Has K 72 ir_impl_equalInts := ⟨fun _ _ hb => KS.of_body tabOk mixed (r := ⟨72, 94, ⟨[.y, .y], [.v], [], none⟩⟩) rfl t72 Try.func94 hb⟩
theorem t94 : trF (cfOf Try.prog tab 45 [] none) (sgOf tab) [(0, .y), (1, .y), (2, .y), (3, .y), (4, .v), (5, .v), (6, .v), (7, (.b (.o (.o (.o .v))))), (8, (.b (.o (.o (.o .v))))), (9, .v), (14, .v), (19, .v), (34, .v), (39, .v), (44, .v)] [(12, []), (44, []), (44, []), (1068, []), (16, []), (44, []), (2060, []), (16, []), (76, []), (204, [0, 0, 3, 0]), (460, [0, 0, 3, 0]), (972, []), (4492, []), (16, []), (8456, []), (16, []), (16384, []), (16, []), (16, [])] Try.f12 ⟨[.y, .y], [.v], [], none⟩ = some ir_laws_FnExactEqualClaims := by kernel_rfl
instance : Has K 94 ir_laws_FnExactEqualClaims := ⟨fun _ _ hb => KS.of_body tabOk mixed (r := ⟨94, 12, ⟨[.y, .y], [.v], [], none⟩⟩) rfl t94 Try.func12 hb⟩
theorem t115 : trF (cfOf Try.prog tab 44 [] none) (sgOf tab) [(0, .y), (1, .v), (2, .y), (4, .v), (11, .v), (18, .v), (24, .v), (30, .v), (36, .v), (42, .v)] [(6, []), (6, []), (22, []), (8, []), (6, []), (38, []), (8, []), (6, []), (70, []), (8, []), (6, []), (134, []), (8, []), (6, []), (262, []), (8, []), (2, []), (514, []), (8, []), (8, [])] Try.f37 ⟨[.y, .v], [.v], [], none⟩ = some ir_laws_szClaim := by kernel_rfl
instance : Has K 115 ir_laws_szClaim := ⟨fun _ _ hb => KS.of_body tabOk mixed (r := ⟨115, 37, ⟨[.y, .v], [.v], [], none⟩⟩) rfl t115 Try.func37 hb⟩
theorem t116 : trF (cfOf Try.prog tab 52 [] none) (sgOf tab) [(0, .y), (1, .y), (2, .y), (3, .y), (4, .v)] [(12, []), (16, [])] Try.f38 ⟨[.y, .y], [.v], [], none⟩ = some ir_spec_EqualClaims := by kernel_rfl
instance : Has K 116 ir_spec_EqualClaims := ⟨fun _ _ hb => KS.of_body tabOk mixed (r := ⟨116, 38, ⟨[.y, .y], [.v], [], none⟩⟩) rfl t116 Try.func38 hb⟩
theorem t117 : trF (cfOf Try.prog tab 30 [] none) (sgOf tab) [(0, .y), (1, .y), (2, (.b (.o (.o (.o .v))))), (3, (.b (.o (.o (.o .v)))))] [(6, [0, 3]), (14, [3]), (14, []), (14, []), (14, []), (14, []), (14, []), (14, []), (12, []), (4, [1, 0])] Try.f39 ⟨[.y], [(.a (.o (.o (.o .v))))], [], none⟩ = some ir_laws_toClaim := by kernel_rfl
instance : Has K 117 ir_laws_toClaim := ⟨fun _ _ hb => KS.of_body tabOk mixed (r := ⟨117, 39, ⟨[.y], [(.a (.o (.o (.o .v))))], [], none⟩⟩) rfl t117 Try.func39 hb⟩
theorem t118 : trF (cfOf Try.prog tab 52 [] none) (sgOf tab) [(0, .y), (1, .y), (2, .y), (3, .y), (4, .v)] [(12, []), (16, [])] Try.f40 ⟨[.y, .y], [.v], [], none⟩ = some ir_impl_EqualClaims := by kernel_rfl
instance : Has K 118 ir_impl_EqualClaims := ⟨fun _ _ hb => KS.of_body tabOk mixed (r := ⟨118, 40, ⟨[.y, .y], [.v], [], none⟩⟩) rfl t118 Try.func40 hb⟩
theorem t119 : trF (cfOf Try.prog tab 44 [] none) (sgOf tab) [(0, .y), (1, .y), (2, .y), (3, .y), (4, .v), (9, .v), (14, .v), (19, .v), (25, .v), (31, .v), (37, .v), (43, .v)] [(12, []), (44, []), (16, []), (76, []), (16, []), (140, []), (16, []), (268, []), (16, []), (524, []), (16, []), (1036, []), (16, []), (2048, []), (16, []), (16, [])] Try.f41 ⟨[.y, .y], [.v], [], none⟩ = some ir_laws_eqClaim := by kernel_rfl
instance : Has K 119 ir_laws_eqClaim := ⟨fun _ _ hb => KS.of_body tabOk mixed (r := ⟨119, 41, ⟨[.y, .y], [.v], [], none⟩⟩) rfl t119 Try.func41 hb⟩
theorem t145 : trF (cfOf Try.prog tab 28 [] none) (sgOf tab) [(0, .y), (1, .v), (4, .v), (5, .v), (11, .v), (15, .v), (26, .v)] [(3, []), (3, []), (19, []), (4, []), (11, []), (43, []), (11, []), (75, []), (4, []), (11, []), (4, [])] Try.f85 ⟨[.y, .v], [.v], [], none⟩ = some ir_laws_szStringS := by kernel_rfl
instance : Has K 145 ir_laws_szStringS := ⟨fun _ _ hb => KS.of_body tabOk mixed (r := ⟨145, 85, ⟨[.y, .v], [.v], [], none⟩⟩) rfl t145 Try.func85 hb⟩
theorem t146 : trF (cfOf Try.prog tab 12 [] none) (sgOf tab) [(0, .y), (1, .v), (4, .v), (10, .v)] [(3, []), (2, []), (10, []), (4, []), (4, [])] Try.f86 ⟨[.y, .v], [.v], [], none⟩ = some ir_laws_szIntS := by kernel_rfl
instance : Has K 146 ir_laws_szIntS := ⟨fun _ _ hb => KS.of_body tabOk mixed (r := ⟨146, 86, ⟨[.y, .v], [.v], [], none⟩⟩) rfl t146 Try.func86 hb⟩
theorem t147 : trF (cfOf Try.prog tab 27 [] none) (sgOf tab) [(0, .y), (1, .v), (4, .v), (5, .v), (11, .v), (15, .v), (25, .v)] [(3, []), (3, []), (19, []), (4, []), (11, []), (43, []), (11, []), (75, []), (4, []), (11, []), (4, [])] Try.f87 ⟨[.y, .v], [.v], [], none⟩ = some ir_laws_szIntSS := by kernel_rfl
instance : Has K 147 ir_laws_szIntSS := ⟨fun _ _ hb => KS.of_body tabOk mixed (r := ⟨147, 87, ⟨[.y, .v], [.v], [], none⟩⟩) rfl t147 Try.func87 hb⟩
theorem t148 : trF (cfOf Try.prog tab 26 [] none) (sgOf tab) [(0, .y), (1, .y), (4, .v), (5, .v), (10, .v), (14, .v), (25, .v)] [(3, []), (19, []), (4, []), (11, []), (43, []), (75, []), (4, []), (11, []), (4, [])] Try.f88 ⟨[.y, .y], [.v], [], none⟩ = some ir_spec_l33SameTexts := by kernel_rfl
instance : Has K 148 ir_spec_l33SameTexts := ⟨fun _ _ hb => KS.of_body tabOk mixed (r := ⟨148, 88, ⟨[.y, .y], [.v], [], none⟩⟩) rfl t148 Try.func88 hb⟩
theorem t149 : trF (cfOf Try.prog tab 26 [] none) (sgOf tab) [(0, .y), (1, .y), (4, .v), (5, .v), (10, .v), (14, .v), (25, .v)] [(3, []), (19, []), (4, []), (11, []), (43, []), (75, []), (4, []), (11, []), (4, [])] Try.f89 ⟨[.y, .y], [.v], [], none⟩ = some ir_spec_l13Same := by kernel_rfl
instance : Has K 149 ir_spec_l13Same := ⟨fun _ _ hb => KS.of_body tabOk mixed (r := ⟨149, 89, ⟨[.y, .y], [.v], [], none⟩⟩) rfl t149 Try.func89 hb⟩
theorem t150 : trF (cfOf Try.prog tab 27 [] none) (sgOf tab) [(0, .y), (1, .y), (4, .v), (5, .v), (10, .v), (14, .v), (26, .v)] [(3, []), (19, []), (4, []), (11, []), (43, []), (75, []), (4, []), (11, []), (4, [])] Try.f90 ⟨[.y, .y], [.v], [], none⟩ = some ir_spec_l33SameTables := by kernel_rfl
instance : Has K 150 ir_spec_l33SameTables := ⟨fun _ _ hb => KS.of_body tabOk mixed (r := ⟨150, 90, ⟨[.y, .y], [.v], [], none⟩⟩) rfl t150 Try.func90 hb⟩
theorem t151 : trF (cfOf Try.prog tab 22 [] none) (sgOf tab) [(0, .y), (2, (.o .v)), (3, (.o .v)), (4, .v), (11, .v)] [(1, [1]), (5, [0, 0, 1, 0]), (13, []), (29, []), (13, []), (13, []), (2, [])] Try.f91 ⟨[.y], [(.o .v)], [], none⟩ = some ir_laws_toStringS := by kernel_rfl
instance : Has K 151 ir_laws_toStringS := ⟨fun _ _ hb => KS.of_body tabOk mixed (r := ⟨151, 91, ⟨[.y], [(.o .v)], [], none⟩⟩) rfl t151 Try.func91 hb⟩
theorem t152 : trF (cfOf Try.prog tab 23 [] none) (sgOf tab) [(0, .y), (2, (.o (.o .v))), (3, (.o (.o .v))), (4, .v), (11, .v)] [(1, [2]), (5, [0, 0, 2, 0]), (13, []), (29, []), (13, []), (13, []), (2, [])] Try.f92 ⟨[.y], [(.o (.o .v))], [], none⟩ = some ir_laws_toIntSS := by kernel_rfl
instance : Has K 152 ir_laws_toIntSS := ⟨fun _ _ hb => KS.of_body tabOk mixed (r := ⟨152, 92, ⟨[.y], [(.o (.o .v))], [], none⟩⟩) rfl t152 Try.func92 hb⟩
theorem t153 : trF (cfOf Try.prog tab 26 [] none) (sgOf tab) [(0, .y), (1, .y), (4, .v), (5, .v), (10, .v), (12, .v), (13, .v), (14, .v), (24, .v)] [(3, []), (19, []), (4, []), (99, []), (227, []), (107, []), (355, []), (4, []), (99, []), (4, [])] Try.f93 ⟨[.y, .y], [.v], [], none⟩ = some ir_slices_Equal___string_string_ := by kernel_rfl
instance : Has K 153 ir_slices_Equal___string_string_ := ⟨fun _ _ hb => KS.of_body tabOk mixed (r := ⟨153, 93, ⟨[.y, .y], [.v], [], none⟩⟩) rfl t153 Try.func93 hb⟩
theorem t154 : trF (cfOf Try.prog tab 32 [] none) (sgOf tab) [(0, .y), (1, .y), (2, .v), (6, .v), (7, .v), (8, .y), (9, .y), (14, .v), (15, .y), (16, .v), (17, .v), (18, .v), (30, .v)] [(7, []), (135, []), (8, []), (1798, []), (3846, []), (1846, []), (1894, []), (5894, [0, 0, 0, 72, 0]), (8, []), (1798, []), (8, [])] Try.f95 ⟨[.y, .y, .v], [.v], [], none⟩ = some ir_slices_EqualFunc_____int_____int___int___int_ := by kernel_rfl
instance : Has K 154 ir_slices_EqualFunc_____int_____int___int___int_ := ⟨fun _ _ hb => KS.of_body tabOk mixed (r := ⟨154, 95, ⟨[.y, .y, .v], [.v], [], none⟩⟩) rfl t154 Try.func95 hb⟩
theorem t155 : trF (cfOf Try.prog tab 27 [] none) (sgOf tab) [(0, .y), (1, .y), (4, .v), (5, .v), (10, .v), (14, .v), (26, .v)] [(3, []), (19, []), (4, []), (11, []), (43, []), (75, []), (4, []), (11, []), (4, [])] Try.f97 ⟨[.y, .y], [.v], [], none⟩ = some ir_laws_eqIntSS := by kernel_rfl
instance : Has K 155 ir_laws_eqIntSS := ⟨fun _ _ hb => KS.of_body tabOk mixed (r := ⟨155, 97, ⟨[.y, .y], [.v], [], none⟩⟩) rfl t155 Try.func97 hb⟩
end Go.Proofs.Ythbpihoafdpicaa.fnExactEqualClaims

