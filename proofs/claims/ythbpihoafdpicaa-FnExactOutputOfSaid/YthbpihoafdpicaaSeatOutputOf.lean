/-
  Texts of the little language.
-/
import Derived.Test.YthbpihoafdpicaaIrAllA
import Derived.Test.YthbpihoafdpicaaRows
import Derived.Test.YthbpihoafdpicaaCatTwo
namespace Go.Proofs.Ythbpihoafdpicaa.fnExactOutputOf
open Go Go.Cat Go.Proofs
set_option maxRecDepth 100000
def tab : List Row := [⟨22, 49, ⟨[.v, .v, .v], [.v], []⟩⟩,
  ⟨23, 52, ⟨[.v, .v, .v], [.v], []⟩⟩,
  ⟨42, 16, ⟨[.y], [(.o .v)], []⟩⟩,
  ⟨44, 18, ⟨[.y, .y], [.v], []⟩⟩,
  ⟨45, 25, ⟨[(.o .v), .v], [.v], [0]⟩⟩,
  ⟨46, 26, ⟨[.y, .v], [.v], []⟩⟩,
  ⟨64, 69, ⟨[.v], [.v], []⟩⟩,
  ⟨67, 70, ⟨[.v], [.v], []⟩⟩,
  ⟨73, 56, ⟨[.y], [.v], []⟩⟩,
  ⟨74, 64, ⟨[.y], [.v], []⟩⟩,
  ⟨82, 130, ⟨[.v], [(.o .v), .v], []⟩⟩,
  ⟨91, 9, ⟨[.v, .y], [.v], []⟩⟩,
  ⟨109, 31, ⟨[.v, .y], [(.o .v), .v], []⟩⟩,
  ⟨110, 32, ⟨[.v, .y], [(.o .v), .v], []⟩⟩,
  ⟨132, 71, ⟨[.v], [.v], []⟩⟩]
theorem tabOk : tabOK Try.prog tab = true := by kernel_rfl
theorem mixed : Try.prog.follows .mixedOrders = true := Try.checked.mixed
abbrev K := KS Try.prog tab
theorem t22 : trF (cfOf Try.prog tab 15 []) (sgOf tab) [(0, .v), (1, .v), (2, .v), (6, .v)] [(7, []), (8, [])] Try.f49 ⟨[.v, .v, .v], [.v], []⟩ = some ir_spec_l1In := by kernel_rfl
instance : Has K 22 ir_spec_l1In := ⟨fun _ _ hb => KS.of_body tabOk mixed (r := ⟨22, 49, ⟨[.v, .v, .v], [.v], []⟩⟩) rfl t22 Try.func49 hb⟩
theorem t23 : trF (cfOf Try.prog tab 15 []) (sgOf tab) [(0, .v), (1, .v), (2, .v), (6, .v)] [(7, []), (8, [])] Try.f52 ⟨[.v, .v, .v], [.v], []⟩ = some ir_impl_within := by kernel_rfl
instance : Has K 23 ir_impl_within := ⟨fun _ _ hb => KS.of_body tabOk mixed (r := ⟨23, 52, ⟨[.v, .v, .v], [.v], []⟩⟩) rfl t23 Try.func52 hb⟩
theorem t42 : trF (cfOf Try.prog tab 22 []) (sgOf tab) [(0, .y), (2, (.o .v)), (3, (.o .v)), (4, .v), (11, .v)] [(1, [1]), (5, [0, 0, 1, 0]), (13, []), (29, []), (13, []), (13, []), (2, [])] Try.f16 ⟨[.y], [(.o .v)], []⟩ = some ir_laws_toIntS := by kernel_rfl
instance : Has K 42 ir_laws_toIntS := ⟨fun _ _ hb => KS.of_body tabOk mixed (r := ⟨42, 16, ⟨[.y], [(.o .v)], []⟩⟩) rfl t42 Try.func16 hb⟩
theorem t44 : trF (cfOf Try.prog tab 26 []) (sgOf tab) [(0, .y), (1, .y), (4, .v), (5, .v), (10, .v), (14, .v), (25, .v)] [(3, []), (19, []), (4, []), (11, []), (43, []), (75, []), (4, []), (11, []), (4, [])] Try.f18 ⟨[.y, .y], [.v], []⟩ = some ir_laws_eqIntS := by kernel_rfl
instance : Has K 44 ir_laws_eqIntS := ⟨fun _ _ hb => KS.of_body tabOk mixed (r := ⟨44, 18, ⟨[.y, .y], [.v], []⟩⟩) rfl t44 Try.func18 hb⟩
theorem t45 : trF (cfOf Try.prog tab 19 [0]) (sgOf tab) [(0, (.o .v)), (1, .v), (4, .v), (5, .v), (9, .v)] [(3, []), (11, []), (27, []), (11, []), (11, []), (11, []), (5, [])] Try.f25 ⟨[(.o .v), .v], [.v], [0]⟩ = some ir_laws_markIntS := by kernel_rfl
instance : Has K 45 ir_laws_markIntS := ⟨fun _ _ hb => KS.of_body tabOk mixed (r := ⟨45, 25, ⟨[(.o .v), .v], [.v], [0]⟩⟩) rfl t45 Try.func25 hb⟩
theorem t46 : trF (cfOf Try.prog tab 21 []) (sgOf tab) [(0, .y), (1, .v), (4, .v), (5, .v), (9, .v), (17, .v)] [(3, []), (11, []), (27, []), (43, []), (4, []), (11, []), (11, []), (4, [])] Try.f26 ⟨[.y, .v], [.v], []⟩ = some ir_laws_heldIntS := by kernel_rfl
instance : Has K 46 ir_laws_heldIntS := ⟨fun _ _ hb => KS.of_body tabOk mixed (r := ⟨46, 26, ⟨[.y, .v], [.v], []⟩⟩) rfl t46 Try.func26 hb⟩
theorem t64 : trF (cfOf Try.prog tab 31 []) (sgOf tab) [(0, .v), (2, .v), (3, .v), (4, .v), (8, .v), (13, .v), (14, .v), (18, .v), (23, .v)] [(1, []), (5, []), (13, []), (29, []), (45, []), (109, []), (13, []), (141, []), (13, []), (2, []), (269, []), (2, []), (13, []), (2, [])] Try.f69 ⟨[.v], [.v], []⟩ = some ir_spec_IsDyck := by kernel_rfl
instance : Has K 64 ir_spec_IsDyck := ⟨fun _ _ hb => KS.of_body tabOk mixed (r := ⟨64, 69, ⟨[.v], [.v], []⟩⟩) rfl t64 Try.func69 hb⟩
theorem t67 : trF (cfOf Try.prog tab 14 []) (sgOf tab) [(0, .v), (2, .v), (4, .v), (7, .v)] [(1, []), (9, []), (2, []), (4, []), (2, [])] Try.f70 ⟨[.v], [.v], []⟩ = some ir_impl_IsDyck := by kernel_rfl
instance : Has K 67 ir_impl_IsDyck := ⟨fun _ _ hb => KS.of_body tabOk mixed (r := ⟨67, 70, ⟨[.v], [.v], []⟩⟩) rfl t67 Try.func70 hb⟩
theorem t73 : trF (cfOf Try.prog tab 37 []) (sgOf tab) [(0, .y), (2, .v), (3, .v), (4, .v), (8, .v), (19, .v), (22, .v), (33, .v)] [(1, []), (5, []), (21, []), (37, []), (2, []), (13, []), (77, []), (141, []), (2, []), (13, []), (5, []), (2, [])] Try.f56 ⟨[.y], [.v], []⟩ = some ir_spec_IsPermutation := by kernel_rfl
instance : Has K 73 ir_spec_IsPermutation := ⟨fun _ _ hb => KS.of_body tabOk mixed (r := ⟨73, 56, ⟨[.y], [.v], []⟩⟩) rfl t73 Try.func56 hb⟩
theorem t74 : trF (cfOf Try.prog tab 34 []) (sgOf tab) [(0, .y), (2, .v), (3, (.o .v)), (5, .v), (8, .v), (12, .y), (13, .v), (14, .v), (15, .v), (29, .v)] [(1, []), (17, []), (2, []), (5, [0, 0, 1, 0]), (229, []), (485, []), (237, []), (749, []), (2, []), (229, []), (229, []), (2, [])] Try.f64 ⟨[.y], [.v], []⟩ = some ir_impl_IsPermutation := by kernel_rfl
instance : Has K 74 ir_impl_IsPermutation := ⟨fun _ _ hb => KS.of_body tabOk mixed (r := ⟨74, 64, ⟨[.y], [.v], []⟩⟩) rfl t74 Try.func64 hb⟩
theorem t82 : trF (cfOf Try.prog tab 34 []) (sgOf tab) [(0, .v), (2, (.o .v)), (3, .v), (4, (.o .v)), (5, .v), (6, .v), (11, .v), (16, .v), (17, .v), (21, .v), (26, .v)] [(1, [1, 0]), (9, [1, 0]), (25, []), (57, []), (121, []), (185, []), (441, []), (57, []), (569, []), (57, []), (6, [1, 0]), (1081, []), (6, [1, 0]), (57, []), (57, []), (6, [])] Try.f130 ⟨[.v], [(.o .v), .v], []⟩ = some ir_impl_heights := by kernel_rfl
instance : Has K 82 ir_impl_heights := ⟨fun _ _ hb => KS.of_body tabOk mixed (r := ⟨82, 130, ⟨[.v], [(.o .v), .v], []⟩⟩) rfl t82 Try.func130 hb⟩
theorem t91 : trF (cfOf Try.prog tab 101 []) (sgOf tab) [(0, .v), (1, .y), (4, .v), (5, .v), (6, .v), (7, (.o .v)), (8, (.o .v)), (9, .v), (10, .v), (11, .v), (12, .v), (13, .v), (14, .v), (17, .v), (20, .v), (44, .v), (49, .v), (65, .v), (73, .v), (76, .v), (92, .v), (97, .v), (100, .v)] [(3, []), (8195, []), (4, []), (16387, []), (4, []), (27, []), (59, []), (251, []), (33019, []), (4, []), (65787, []), (4, []), (507, []), (475, []), (131163, []), (4, []), (603, []), (603, []), (1627, []), (1627, []), (263771, []), (4, []), (524891, []), (4, []), (6744, []), (1049152, []), (4, []), (1600, []), (1536, []), (2098688, []), (4, []), (4194304, []), (4, []), (4, [])] Try.f9 ⟨[.v, .y], [.v], []⟩ = some ir_laws_FnExactOutputOf := by kernel_rfl
instance : Has K 91 ir_laws_FnExactOutputOf := ⟨fun _ _ hb => KS.of_body tabOk mixed (r := ⟨91, 9, ⟨[.v, .y], [.v], []⟩⟩) rfl t91 Try.func9 hb⟩
theorem t109 : trF (cfOf Try.prog tab 63 []) (sgOf tab) [(0, .v), (1, .y), (4, (.o .v)), (5, .v), (6, (.o .v)), (7, (.o .v)), (8, .v), (9, .v), (26, .v), (32, .v), (38, .v)] [(3, [1, 0]), (19, [1, 0]), (275, []), (12, []), (51, [1, 0]), (115, []), (243, []), (755, []), (1267, []), (243, []), (243, []), (243, []), (243, []), (243, []), (12, [])] Try.f31 ⟨[.v, .y], [(.o .v), .v], []⟩ = some ir_spec_OutputOf := by kernel_rfl
instance : Has K 109 ir_spec_OutputOf := ⟨fun _ _ hb => KS.of_body tabOk mixed (r := ⟨109, 31, ⟨[.v, .y], [(.o .v), .v], []⟩⟩) rfl t109 Try.func31 hb⟩
theorem t110 : trF (cfOf Try.prog tab 62 []) (sgOf tab) [(0, .v), (1, .y), (4, (.o .v)), (5, .v), (6, (.o .v)), (7, (.o .v)), (8, .v), (9, .v), (25, .v), (31, .v), (37, .v)] [(3, [1, 0]), (19, [1, 0]), (275, []), (12, []), (51, [1, 0]), (115, []), (243, []), (755, []), (1267, []), (243, []), (243, []), (243, []), (243, []), (243, []), (12, [])] Try.f32 ⟨[.v, .y], [(.o .v), .v], []⟩ = some ir_impl_OutputOf := by kernel_rfl
instance : Has K 110 ir_impl_OutputOf := ⟨fun _ _ hb => KS.of_body tabOk mixed (r := ⟨110, 32, ⟨[.v, .y], [(.o .v), .v], []⟩⟩) rfl t110 Try.func32 hb⟩
theorem t132 : trF (cfOf Try.prog tab 9 []) (sgOf tab) [(0, .v), (2, .v), (5, .v)] [(1, []), (5, []), (2, []), (2, [])] Try.f71 ⟨[.v], [.v], []⟩ = some ir_impl_SizeOf := by kernel_rfl
instance : Has K 132 ir_impl_SizeOf := ⟨fun _ _ hb => KS.of_body tabOk mixed (r := ⟨132, 71, ⟨[.v], [.v], []⟩⟩) rfl t132 Try.func71 hb⟩
end Go.Proofs.Ythbpihoafdpicaa.fnExactOutputOf

