/-
  Texts of the little language.
-/
import Derived.Test.YtfjkbocblpjpjaaIrAllA
import Derived.Test.YtfjkbocblpjpjaaRows
import Derived.Test.YtfjkbocblpjpjaaCatThree
namespace Go.Proofs.Ytfjkbocblpjpjaa.fnSeries
open Go Go.Cat Go.Proofs
set_option maxRecDepth 100000
def tab : List Row := [⟨22, 132, ⟨[.v, .v, .v], [.v], []⟩⟩,
  ⟨23, 134, ⟨[.v, .v, .v], [.v], []⟩⟩,
  ⟨24, 133, ⟨[.v, .v], [.v], []⟩⟩,
  ⟨25, 149, ⟨[.v, .v], [.v], []⟩⟩,
  ⟨27, 129, ⟨[.v, .v], [.v], []⟩⟩,
  ⟨28, 41, ⟨[.v], [.v], []⟩⟩,
  ⟨41, 86, ⟨[.y, .y], [(.o .v), .v], []⟩⟩,
  ⟨43, 82, ⟨[.y, .y], [(.o .v), .v], []⟩⟩,
  ⟨47, 95, ⟨[.y], [.v], []⟩⟩,
  ⟨48, 77, ⟨[.y], [.v], []⟩⟩,
  ⟨55, 81, ⟨[.y], [(.o .v), .v], []⟩⟩,
  ⟨56, 80, ⟨[.y], [(.o .v), .v], []⟩⟩,
  ⟨57, 93, ⟨[.y], [(.o .v), .v], []⟩⟩,
  ⟨58, 92, ⟨[.y], [(.o .v), .v], []⟩⟩,
  ⟨59, 76, ⟨[.v], [(.o .v), .v], []⟩⟩,
  ⟨60, 75, ⟨[.v], [(.o .v), .v], []⟩⟩,
  ⟨68, 185, ⟨[.y], [.v], []⟩⟩,
  ⟨69, 186, ⟨[.y, .y], [(.o .v)], []⟩⟩,
  ⟨70, 179, ⟨[.y], [.v], []⟩⟩,
  ⟨71, 180, ⟨[.y, .y], [(.o .v)], []⟩⟩,
  ⟨72, 181, ⟨[.y, .y], [.v], []⟩⟩,
  ⟨75, 175, ⟨[.y], [(.o .v)], []⟩⟩,
  ⟨78, 184, ⟨[.y, .v, .v], [.v], []⟩⟩,
  ⟨79, 87, ⟨[.v], [.v], []⟩⟩,
  ⟨84, 187, ⟨[.v, .v], [.v], []⟩⟩,
  ⟨97, 90, ⟨[.y, .v, .v], [.v, .v], []⟩⟩,
  ⟨98, 78, ⟨[.y, .v, .v], [.v, .v], []⟩⟩,
  ⟨103, 85, ⟨[.y], [(.o .v), .v], []⟩⟩,
  ⟨104, 84, ⟨[.y], [(.o .v), .v], []⟩⟩,
  ⟨126, 188, ⟨[.y], [.v], []⟩⟩,
  ⟨127, 182, ⟨[.y], [.v], []⟩⟩,
  ⟨217, 7, ⟨[.v], [.v], []⟩⟩,
  ⟨220, 12, ⟨[.v], [.v], []⟩⟩,
  ⟨239, 53, ⟨[.y, .y], [.v], []⟩⟩,
  ⟨245, 74, ⟨[.v], [.v], []⟩⟩,
  ⟨246, 79, ⟨[.v], [(.o .v)], []⟩⟩,
  ⟨247, 83, ⟨[.v], [(.o .v)], []⟩⟩,
  ⟨248, 88, ⟨[.v], [(.o .v), (.o .v)], []⟩⟩,
  ⟨249, 89, ⟨[.v], [(.o .v), .v, .v], []⟩⟩,
  ⟨250, 91, ⟨[.v], [(.o .v)], []⟩⟩,
  ⟨251, 94, ⟨[.v], [(.o .v)], []⟩⟩,
  ⟨288, 136, ⟨[.v], [(.b .v)], []⟩⟩,
  ⟨289, 142, ⟨[(.b .v), .v], [.v], [0]⟩⟩,
  ⟨307, 173, ⟨[(.b .v), .v], [.v], [0]⟩⟩,
  ⟨308, 183, ⟨[(.b .v)], [(.o .v)], [0]⟩⟩,
  ⟨313, 193, ⟨[(.b .v), .y], [.v], [0]⟩⟩,
  ⟨316, 196, ⟨[(.b .v)], [.v], [0]⟩⟩]
theorem tabOk : tabOK Try.prog tab = true := by kernel_rfl
theorem mixed : Try.prog.follows .mixedOrders = true := Try.checked.mixed
abbrev K := KS Try.prog tab
theorem t22 : trF (cfOf Try.prog tab 15 []) (sgOf tab) [(0, .v), (1, .v), (2, .v), (6, .v)] [(7, []), (8, [])] Try.f132 ⟨[.v, .v, .v], [.v], []⟩ = some ir_spec_l1In := by kernel_rfl
instance : Has K 22 ir_spec_l1In := ⟨fun _ _ hb => KS.of_body tabOk mixed (r := ⟨22, 132, ⟨[.v, .v, .v], [.v], []⟩⟩) rfl t22 Try.func132 hb⟩
theorem t23 : trF (cfOf Try.prog tab 15 []) (sgOf tab) [(0, .v), (1, .v), (2, .v), (6, .v)] [(7, []), (8, [])] Try.f134 ⟨[.v, .v, .v], [.v], []⟩ = some ir_impl_within := by kernel_rfl
instance : Has K 23 ir_impl_within := ⟨fun _ _ hb => KS.of_body tabOk mixed (r := ⟨23, 134, ⟨[.v, .v, .v], [.v], []⟩⟩) rfl t23 Try.func134 hb⟩
theorem t24 : trF (cfOf Try.prog tab 21 []) (sgOf tab) [(0, .v), (1, .v), (4, .v), (5, .v), (6, .v), (9, .v)] [(3, []), (11, []), (27, []), (59, []), (27, []), (27, []), (4, [])] Try.f133 ⟨[.v, .v], [.v], []⟩ = some ir_spec_l3Binomial := by kernel_rfl
instance : Has K 24 ir_spec_l3Binomial := ⟨fun _ _ hb => KS.of_body tabOk mixed (r := ⟨24, 133, ⟨[.v, .v], [.v], []⟩⟩) rfl t24 Try.func133 hb⟩
theorem t25 : trF (cfOf Try.prog tab 29 []) (sgOf tab) [(0, .v), (1, .v), (4, .v), (5, .v), (6, .v), (13, .v), (16, .v)] [(3, []), (35, []), (4, []), (11, []), (27, []), (91, []), (27, []), (27, []), (4, [])] Try.f149 ⟨[.v, .v], [.v], []⟩ = some ir_impl_choose := by kernel_rfl
instance : Has K 25 ir_impl_choose := ⟨fun _ _ hb => KS.of_body tabOk mixed (r := ⟨25, 149, ⟨[.v, .v], [.v], []⟩⟩) rfl t25 Try.func149 hb⟩
theorem t27 : trF (cfOf Try.prog tab 73 []) (sgOf tab) [(0, .v), (1, .v), (4, .v), (5, (.o .v)), (6, .v), (7, .v), (8, (.o .v)), (9, .v), (18, .v), (23, .v), (24, .v), (25, .v), (33, .v), (42, .v), (54, .v)] [(3, []), (259, []), (4, []), (11, [0, 0, 1, 0]), (1547, []), (3595, []), (1563, []), (1547, []), (1547, []), (43, []), (4139, []), (107, [0, 0, 1, 0]), (235, []), (8427, []), (235, []), (16619, []), (235, []), (235, []), (43, []), (43, []), (4, [])] Try.f129 ⟨[.v, .v], [.v], []⟩ = some ir_impl_BallotNumber := by kernel_rfl
instance : Has K 27 ir_impl_BallotNumber := ⟨fun _ _ hb => KS.of_body tabOk mixed (r := ⟨27, 129, ⟨[.v, .v], [.v], []⟩⟩) rfl t27 Try.func129 hb⟩
theorem t28 : trF (cfOf Try.prog tab 9 []) (sgOf tab) [(0, .v), (2, .v), (5, .v)] [(1, []), (5, []), (2, []), (2, [])] Try.f41 ⟨[.v], [.v], []⟩ = some ir_impl_CatalanNumber := by kernel_rfl
instance : Has K 28 ir_impl_CatalanNumber := ⟨fun _ _ hb => KS.of_body tabOk mixed (r := ⟨28, 41, ⟨[.v], [.v], []⟩⟩) rfl t28 Try.func41 hb⟩
theorem t41 : trF (cfOf Try.prog tab 25 []) (sgOf tab) [(0, .y), (1, .y), (4, (.o .v)), (5, .v), (20, .v)] [(3, [1, 0]), (19, []), (12, [1, 0, 0]), (12, [])] Try.f86 ⟨[.y, .y], [(.o .v), .v], []⟩ = some ir_spec_MultiplySeries := by kernel_rfl
instance : Has K 41 ir_spec_MultiplySeries := ⟨fun _ _ hb => KS.of_body tabOk mixed (r := ⟨41, 86, ⟨[.y, .y], [(.o .v), .v], []⟩⟩) rfl t41 Try.func86 hb⟩
theorem t43 : trF (cfOf Try.prog tab 25 []) (sgOf tab) [(0, .y), (1, .y), (4, (.o .v)), (5, .v), (20, .v)] [(3, [1, 0]), (19, []), (12, [1, 0, 0]), (12, [])] Try.f82 ⟨[.y, .y], [(.o .v), .v], []⟩ = some ir_impl_MultiplySeries := by kernel_rfl
instance : Has K 43 ir_impl_MultiplySeries := ⟨fun _ _ hb => KS.of_body tabOk mixed (r := ⟨43, 82, ⟨[.y, .y], [(.o .v), .v], []⟩⟩) rfl t43 Try.func82 hb⟩
theorem t47 : trF (cfOf Try.prog tab 33 []) (sgOf tab) [(0, .y), (2, .v), (3, .v), (4, .v), (13, .v), (20, .v), (32, .v)] [(1, []), (17, []), (2, []), (5, []), (13, []), (45, []), (77, []), (2, []), (13, []), (2, [])] Try.f95 ⟨[.y], [.v], []⟩ = some ir_spec_SatisfiesCatalan := by kernel_rfl
instance : Has K 47 ir_spec_SatisfiesCatalan := ⟨fun _ _ hb => KS.of_body tabOk mixed (r := ⟨47, 95, ⟨[.y], [.v], []⟩⟩) rfl t47 Try.func95 hb⟩
theorem t48 : trF (cfOf Try.prog tab 24 []) (sgOf tab) [(0, .y), (2, .v), (3, .v), (12, .v)] [(1, []), (9, []), (2, []), (5, []), (2, [])] Try.f77 ⟨[.y], [.v], []⟩ = some ir_impl_SatisfiesCatalan := by kernel_rfl
instance : Has K 48 ir_impl_SatisfiesCatalan := ⟨fun _ _ hb => KS.of_body tabOk mixed (r := ⟨48, 77, ⟨[.y], [.v], []⟩⟩) rfl t48 Try.func77 hb⟩
theorem t55 : trF (cfOf Try.prog tab 76 []) (sgOf tab) [(0, .y), (2, (.o .v)), (3, .v), (4, .v), (5, (.o .v)), (6, .v), (7, .v), (8, .v), (23, .v), (28, .v), (36, .v), (45, .v), (50, .v)] [(1, [1, 0]), (257, []), (6, [1, 0, 0]), (9, []), (521, []), (1033, []), (6, [1, 0, 0]), (9, []), (17, [0, 0, 0, 1, 0]), (49, []), (2097, []), (113, []), (241, []), (4337, []), (241, []), (241, []), (49, []), (49, []), (6, [])] Try.f81 ⟨[.y], [(.o .v), .v], []⟩ = some ir_spec_InverseSeries := by kernel_rfl
instance : Has K 55 ir_spec_InverseSeries := ⟨fun _ _ hb => KS.of_body tabOk mixed (r := ⟨55, 81, ⟨[.y], [(.o .v), .v], []⟩⟩) rfl t55 Try.func81 hb⟩
theorem t56 : trF (cfOf Try.prog tab 66 []) (sgOf tab) [(0, .y), (2, (.o .v)), (3, .v), (4, (.o .v)), (5, .v), (6, .v), (7, .v), (27, .v), (36, .v), (41, .v)] [(1, [1, 0]), (129, []), (6, [1, 0, 0]), (9, [0, 0, 0, 1, 0]), (25, []), (281, []), (57, []), (121, []), (633, []), (121, []), (121, []), (25, []), (25, []), (6, [])] Try.f80 ⟨[.y], [(.o .v), .v], []⟩ = some ir_impl_InverseSeries := by kernel_rfl
instance : Has K 56 ir_impl_InverseSeries := ⟨fun _ _ hb => KS.of_body tabOk mixed (r := ⟨56, 80, ⟨[.y], [(.o .v), .v], []⟩⟩) rfl t56 Try.func80 hb⟩
theorem t57 : trF (cfOf Try.prog tab 39 []) (sgOf tab) [(0, .y), (2, (.o .v)), (3, .v), (4, (.o .v)), (5, .v), (6, .v), (7, .v), (10, .v), (16, .v), (21, .v)] [(1, [1, 0]), (129, []), (6, [1, 0, 0]), (9, [1, 0]), (25, []), (281, []), (57, []), (121, []), (633, []), (121, []), (121, []), (25, []), (25, []), (6, [])] Try.f93 ⟨[.y], [(.o .v), .v], []⟩ = some ir_spec_BinomialTransform := by kernel_rfl
instance : Has K 57 ir_spec_BinomialTransform := ⟨fun _ _ hb => KS.of_body tabOk mixed (r := ⟨57, 93, ⟨[.y], [(.o .v), .v], []⟩⟩) rfl t57 Try.func93 hb⟩
theorem t58 : trF (cfOf Try.prog tab 39 []) (sgOf tab) [(0, .y), (2, (.o .v)), (3, .v), (4, (.o .v)), (5, .v), (6, .v), (7, .v), (11, .v), (14, .v), (15, .v), (16, .v), (20, .v)] [(1, [1, 0]), (9, [1, 0]), (137, []), (6, []), (777, []), (1801, []), (793, []), (825, []), (889, []), (2937, []), (889, []), (889, []), (777, []), (777, []), (6, [])] Try.f92 ⟨[.y], [(.o .v), .v], []⟩ = some ir_impl_BinomialTransform := by kernel_rfl
instance : Has K 58 ir_impl_BinomialTransform := ⟨fun _ _ hb => KS.of_body tabOk mixed (r := ⟨58, 92, ⟨[.y], [(.o .v), .v], []⟩⟩) rfl t58 Try.func92 hb⟩
theorem t59 : trF (cfOf Try.prog tab 22 []) (sgOf tab) [(0, .v), (2, (.o .v)), (3, .v), (4, (.o .v)), (5, .v), (9, .v), (13, .v)] [(1, [1, 0]), (9, [1, 0]), (41, []), (6, []), (25, []), (89, []), (25, []), (25, []), (6, [])] Try.f76 ⟨[.v], [(.o .v), .v], []⟩ = some ir_spec_CatalanSeries := by kernel_rfl
instance : Has K 59 ir_spec_CatalanSeries := ⟨fun _ _ hb => KS.of_body tabOk mixed (r := ⟨59, 76, ⟨[.v], [(.o .v), .v], []⟩⟩) rfl t59 Try.func76 hb⟩
theorem t60 : trF (cfOf Try.prog tab 22 []) (sgOf tab) [(0, .v), (2, (.o .v)), (3, .v), (4, (.o .v)), (5, .v), (9, .v), (11, .v), (12, .v), (13, .v)] [(1, [1, 0]), (9, [1, 0]), (41, []), (6, []), (200, []), (456, []), (216, []), (200, []), (200, []), (6, [])] Try.f75 ⟨[.v], [(.o .v), .v], []⟩ = some ir_impl_CatalanSeries := by kernel_rfl
instance : Has K 60 ir_impl_CatalanSeries := ⟨fun _ _ hb => KS.of_body tabOk mixed (r := ⟨60, 75, ⟨[.v], [(.o .v), .v], []⟩⟩) rfl t60 Try.func75 hb⟩
theorem t68 : trF (cfOf Try.prog tab 19 []) (sgOf tab) [(0, .y), (2, .v), (3, .v), (7, .v), (15, .v)] [(1, []), (5, []), (13, []), (21, []), (2, []), (5, []), (2, [])] Try.f185 ⟨[.y], [.v], []⟩ = some ir_spec_l30Fine := by kernel_rfl
instance : Has K 68 ir_spec_l30Fine := ⟨fun _ _ hb => KS.of_body tabOk mixed (r := ⟨68, 185, ⟨[.y], [.v], []⟩⟩) rfl t68 Try.func185 hb⟩
theorem t69 : trF (cfOf Try.prog tab 46 []) (sgOf tab) [(0, .y), (1, .y), (4, (.o .v)), (5, .v), (6, (.o .v)), (7, .v), (8, .v), (18, .v), (23, .v)] [(3, [1]), (11, []), (27, [0, 1, 0]), (59, []), (187, []), (123, []), (379, []), (123, []), (123, []), (59, []), (4, [])] Try.f186 ⟨[.y, .y], [(.o .v)], []⟩ = some ir_spec_l30Times := by kernel_rfl
instance : Has K 69 ir_spec_l30Times := ⟨fun _ _ hb => KS.of_body tabOk mixed (r := ⟨69, 186, ⟨[.y, .y], [(.o .v)], []⟩⟩) rfl t69 Try.func186 hb⟩
theorem t70 : trF (cfOf Try.prog tab 18 []) (sgOf tab) [(0, .y), (2, .v), (4, .v), (5, .y), (6, .v), (7, .v), (8, .v), (13, .v)] [(1, []), (57, []), (121, []), (61, []), (185, []), (2, []), (57, []), (2, [])] Try.f179 ⟨[.y], [.v], []⟩ = some ir_impl_areTerms := by kernel_rfl
instance : Has K 70 ir_impl_areTerms := ⟨fun _ _ hb => KS.of_body tabOk mixed (r := ⟨70, 179, ⟨[.y], [.v], []⟩⟩) rfl t70 Try.func179 hb⟩
theorem t71 : trF (cfOf Try.prog tab 42 []) (sgOf tab) [(0, .y), (1, .y), (4, (.o .v)), (5, (.o .v)), (6, .v), (7, .v), (12, .v), (13, .v), (14, .v), (18, .v)] [(3, [1]), (11, [0, 0, 1, 0]), (203, []), (459, []), (219, []), (251, []), (763, []), (251, []), (251, []), (203, []), (4, [])] Try.f180 ⟨[.y, .y], [(.o .v)], []⟩ = some ir_impl_times := by kernel_rfl
instance : Has K 71 ir_impl_times := ⟨fun _ _ hb => KS.of_body tabOk mixed (r := ⟨71, 180, ⟨[.y, .y], [(.o .v)], []⟩⟩) rfl t71 Try.func180 hb⟩
theorem t72 : trF (cfOf Try.prog tab 26 []) (sgOf tab) [(0, .y), (1, .y), (4, .v), (5, .v), (10, .v), (12, .v), (13, .v), (14, .v), (24, .v)] [(3, []), (19, []), (4, []), (99, []), (227, []), (107, []), (355, []), (4, []), (99, []), (4, [])] Try.f181 ⟨[.y, .y], [.v], []⟩ = some ir_impl_equalInts := by kernel_rfl
instance : Has K 72 ir_impl_equalInts := ⟨fun _ _ hb => KS.of_body tabOk mixed (r := ⟨72, 181, ⟨[.y, .y], [.v], []⟩⟩) rfl t72 Try.func181 hb⟩
theorem t75 : trF (cfOf Try.prog tab 6 []) (sgOf tab) [(0, .y), (2, (.o .v))] [(1, [1]), (2, [1, 0, 0, 0])] Try.f175 ⟨[.y], [(.o .v)], []⟩ = some ir_impl_copyInts := by kernel_rfl
instance : Has K 75 ir_impl_copyInts := ⟨fun _ _ hb => KS.of_body tabOk mixed (r := ⟨75, 175, ⟨[.y], [(.o .v)], []⟩⟩) rfl t75 Try.func175 hb⟩
theorem t78 : trF (cfOf Try.prog tab 21 []) (sgOf tab) [(0, .y), (1, .v), (2, .v), (6, .v), (8, .v), (9, .y), (10, .v), (11, .v), (12, .v), (19, .v)] [(7, []), (230, []), (486, []), (246, []), (742, []), (8, []), (230, []), (8, [])] Try.f184 ⟨[.y, .v, .v], [.v], []⟩ = some ir_impl_areWithin := by kernel_rfl
instance : Has K 78 ir_impl_areWithin := ⟨fun _ _ hb => KS.of_body tabOk mixed (r := ⟨78, 184, ⟨[.y, .v, .v], [.v], []⟩⟩) rfl t78 Try.func184 hb⟩
theorem t79 : trF (cfOf Try.prog tab 9 []) (sgOf tab) [(0, .v), (2, .v), (5, .v)] [(1, []), (5, []), (2, []), (2, [])] Try.f87 ⟨[.v], [.v], []⟩ = some ir_spec_CatalanNumber := by kernel_rfl
instance : Has K 79 ir_spec_CatalanNumber := ⟨fun _ _ hb => KS.of_body tabOk mixed (r := ⟨79, 87, ⟨[.v], [.v], []⟩⟩) rfl t79 Try.func87 hb⟩
theorem t84 : trF (cfOf Try.prog tab 83 []) (sgOf tab) [(0, .v), (1, .v), (4, .v), (5, (.o (.o .v))), (6, .v), (7, .v), (11, .v), (23, .v), (49, .v), (58, .v)] [(3, []), (11, [2, 0]), (27, []), (91, []), (27, [0, 0, 0, 1, 2, 0, 0]), (59, []), (187, []), (315, []), (59, []), (571, []), (59, []), (59, []), (59, []), (27, []), (4, [])] Try.f187 ⟨[.v, .v], [.v], []⟩ = some ir_spec_l3Ways := by kernel_rfl
instance : Has K 84 ir_spec_l3Ways := ⟨fun _ _ hb => KS.of_body tabOk mixed (r := ⟨84, 187, ⟨[.v, .v], [.v], []⟩⟩) rfl t84 Try.func187 hb⟩
theorem t97 : trF (cfOf Try.prog tab 73 []) (sgOf tab) [(0, .y), (1, .v), (2, .v), (6, .v), (7, .v), (8, (.o .v)), (9, .v), (10, (.o .v)), (11, .v), (12, .v), (39, .v), (43, .v), (49, .v), (62, .v)] [(7, []), (1031, []), (24, []), (39, [1, 0]), (103, []), (2151, []), (231, [1, 0]), (487, []), (4583, []), (999, []), (9191, []), (24, []), (487, []), (487, []), (103, []), (103, []), (24, [])] Try.f90 ⟨[.y, .v, .v], [.v, .v], []⟩ = some ir_spec_HankelOf := by kernel_rfl
instance : Has K 97 ir_spec_HankelOf := ⟨fun _ _ hb => KS.of_body tabOk mixed (r := ⟨97, 90, ⟨[.y, .v, .v], [.v, .v], []⟩⟩) rfl t97 Try.func90 hb⟩
theorem t98 : trF (cfOf Try.prog tab 68 []) (sgOf tab) [(0, .y), (1, .v), (2, .v), (6, .v), (7, .v), (8, (.o .v)), (9, .v), (10, (.o .v)), (11, .v), (12, .v), (25, .v), (27, .v), (28, .v), (29, .v), (32, .v), (33, .v), (34, .v), (52, .v)] [(7, []), (1031, []), (24, []), (39, [1, 0]), (6183, []), (14375, []), (6247, []), (6375, [1, 0]), (55527, []), (121063, []), (55783, []), (56039, []), (187111, []), (24, []), (55527, []), (55527, []), (6183, []), (6183, []), (24, [])] Try.f78 ⟨[.y, .v, .v], [.v, .v], []⟩ = some ir_impl_HankelOf := by kernel_rfl
instance : Has K 98 ir_impl_HankelOf := ⟨fun _ _ hb => KS.of_body tabOk mixed (r := ⟨98, 78, ⟨[.y, .v, .v], [.v, .v], []⟩⟩) rfl t98 Try.func78 hb⟩
theorem t103 : trF (cfOf Try.prog tab 89 []) (sgOf tab) [(0, .y), (2, (.o .v)), (3, .v), (4, .v), (5, .v), (6, (.o .v)), (7, .v), (8, .v), (9, .v), (10, .v), (35, .v), (40, .v), (48, .v), (58, .v), (66, .v)] [(1, [1, 0]), (1025, []), (6, [1, 0, 0]), (9, []), (2057, []), (4105, []), (6, [1, 0, 0]), (9, []), (17, []), (49, [0, 1, 0]), (49, []), (113, []), (8305, []), (241, []), (497, [1, 0, 0, 0]), (1009, []), (17393, []), (1009, []), (1009, []), (1009, []), (113, []), (113, []), (6, [])] Try.f85 ⟨[.y], [(.o .v), .v], []⟩ = some ir_spec_ReversionOf := by kernel_rfl
instance : Has K 103 ir_spec_ReversionOf := ⟨fun _ _ hb => KS.of_body tabOk mixed (r := ⟨103, 85, ⟨[.y], [(.o .v), .v], []⟩⟩) rfl t103 Try.func85 hb⟩
theorem t104 : trF (cfOf Try.prog tab 72 []) (sgOf tab) [(0, .y), (2, (.o .v)), (3, .v), (4, .v), (5, (.o .v)), (6, .v), (7, (.o .v)), (8, .v), (9, .v), (30, .v), (40, .v), (49, .v)] [(1, [1, 0]), (513, []), (6, [1, 0, 0]), (9, []), (25, [0, 1, 0]), (25, []), (57, []), (1081, []), (121, [0, 1, 0]), (121, []), (249, []), (505, []), (2553, []), (505, []), (505, []), (505, []), (57, []), (57, []), (6, [])] Try.f84 ⟨[.y], [(.o .v), .v], []⟩ = some ir_impl_ReversionOf := by kernel_rfl
instance : Has K 104 ir_impl_ReversionOf := ⟨fun _ _ hb => KS.of_body tabOk mixed (r := ⟨104, 84, ⟨[.y], [(.o .v), .v], []⟩⟩) rfl t104 Try.func84 hb⟩
theorem t126 : trF (cfOf Try.prog tab 59 []) (sgOf tab) [(0, .y), (2, .v), (3, .v), (4, .v), (5, .v), (6, (.o .v)), (7, .v), (10, .v), (14, .v), (21, .v)] [(1, []), (129, []), (2, []), (5, []), (13, []), (29, []), (285, []), (61, [1, 0]), (125, []), (637, []), (125, [0, 1, 0, 0, 0, 0, 0, 0, 0, 0, 0, 0, 0, 0, 0, 0, 0, 0, 0, 0]), (125, []), (29, []), (29, []), (29, []), (2, [])] Try.f188 ⟨[.y], [.v], []⟩ = some ir_spec_l30Det := by kernel_rfl
instance : Has K 126 ir_spec_l30Det := ⟨fun _ _ hb => KS.of_body tabOk mixed (r := ⟨126, 188, ⟨[.y], [.v], []⟩⟩) rfl t126 Try.func188 hb⟩
theorem t127 : trF (cfOf Try.prog tab 55 []) (sgOf tab) [(0, .y), (2, .v), (3, .v), (4, .v), (5, .v), (6, (.o .v)), (8, .y), (11, .v), (14, .y), (15, .v), (16, .v), (17, .v), (23, .y), (24, .v), (25, .v), (26, .v), (44, .v)] [(1, []), (129, []), (2, []), (5, []), (1797, []), (3845, []), (1821, []), (1853, [1, 0]), (30525, []), (63293, []), (30589, []), (30525, []), (30525, []), (67381, []), (1845, []), (1797, []), (1797, []), (2, [])] Try.f182 ⟨[.y], [.v], []⟩ = some ir_impl_determinant := by kernel_rfl
instance : Has K 127 ir_impl_determinant := ⟨fun _ _ hb => KS.of_body tabOk mixed (r := ⟨127, 182, ⟨[.y], [.v], []⟩⟩) rfl t127 Try.func182 hb⟩
theorem t217 : trF (cfOf Try.prog tab 367 []) (sgOf tab) [(0, .v), (2, .v), (3, .v), (4, .v), (5, .v), (6, .v), (7, .v), (8, .v), (9, .v), (10, .v), (11, .v), (12, .v), (13, .v), (14, .v), (15, .v), (16, .v), (17, .v), (18, .v), (19, .v), (20, .v), (21, .v), (22, .v), (23, .v), (24, .v), (25, (.o .v)), (26, (.o .v)), (27, .v), (28, .v), (29, .v), (30, .v), (31, .v), (32, .v), (33, .v), (34, .v), (35, .v), (36, .v), (37, .v), (38, .v), (39, .v), (40, .v), (41, .v), (42, .v), (43, .v), (44, .v), (45, .v), (46, .v), (47, .v), (48, .v), (49, .v), (50, .v), (51, .v), (52, .v), (53, .v), (55, .v), (84, .v), (85, .v), (87, .v), (91, .v), (105, .v), (126, .v), (127, .v), (140, .v), (161, .v), (182, .v), (183, .v), (198, .v), (204, .v), (236, .v), (258, .v), (266, .v), (270, .v), (280, .v)] [(1, []), (9007199254740993, []), (2, []), (5, []), (29, []), (121, []), (18014398509482033, []), (2, []), (36028797018964001, []), (161, []), (72057594037928097, []), (417, []), (144115188075856289, []), (1953, []), (288230376151712161, []), (2, []), (417, []), (161, []), (2049, []), (14337, []), (63489, []), (576460752303450113, []), (2, []), (1152921504606865409, []), (196609, []), (458753, []), (2305843009214152705, []), (4611686018427846657, []), (2, []), (458753, []), (524289, []), (3670017, []), (16252929, []), (9223372036861591553, []), (2, []), (18446744073714270209, []), (21495809, [0, 0, 1, 0]), (55050241, [0, 0, 1, 0]), (55050241, []), (122159105, []), (256376833, []), (36893488147675480065, []), (457703425, []), (73786976295295909889, []), (457703425, []), (457703425, []), (256376833, []), (256376833, []), (621281281, []), (147573952590297694209, []), (295147905179974107137, []), (2, []), (621281281, []), (1073741825, []), (6442450945, []), (590295810360853135361, []), (2, []), (10737418241, []), (1180591620728148721665, []), (2361183241445560025089, []), (2, []), (10737418241, []), (51539607553, []), (257698037761, []), (1030792151041, []), (8727373545473, []), (35115652612097, []), (132972187484161, []), (273709675839489, []), (1118134605971457, []), (4355096838144001, []), (8858696465514496, []), (2, [])] Try.f7 ⟨[.v], [.v], []⟩ = some ir_laws_FnSeries := by kernel_rfl
instance : Has K 217 ir_laws_FnSeries := ⟨fun _ _ hb => KS.of_body tabOk mixed (r := ⟨217, 7, ⟨[.v], [.v], []⟩⟩) rfl t217 Try.func7 hb⟩
theorem t220 : trF (cfOf Try.prog tab 6 []) (sgOf tab) [(0, .v), (2, .v)] [(1, []), (2, [])] Try.f12 ⟨[.v], [.v], []⟩ = some ir_laws_big := by kernel_rfl
instance : Has K 220 ir_laws_big := ⟨fun _ _ hb => KS.of_body tabOk mixed (r := ⟨220, 12, ⟨[.v], [.v], []⟩⟩) rfl t220 Try.func12 hb⟩
theorem t239 : trF (cfOf Try.prog tab 26 []) (sgOf tab) [(0, .y), (1, .y), (4, .v), (5, .v), (10, .v), (14, .v), (25, .v)] [(3, []), (19, []), (4, []), (11, []), (43, []), (75, []), (4, []), (11, []), (4, [])] Try.f53 ⟨[.y, .y], [.v], []⟩ = some ir_laws_sameInts := by kernel_rfl
instance : Has K 239 ir_laws_sameInts := ⟨fun _ _ hb => KS.of_body tabOk mixed (r := ⟨239, 53, ⟨[.y, .y], [.v], []⟩⟩) rfl t239 Try.func53 hb⟩
theorem t245 : trF (cfOf Try.prog tab 7 []) (sgOf tab) [(0, .v), (2, .v)] [(1, []), (2, [])] Try.f74 ⟨[.v], [.v], []⟩ = some ir_spec_DrawCatalanSeries := by kernel_rfl
instance : Has K 245 ir_spec_DrawCatalanSeries := ⟨fun _ _ hb => KS.of_body tabOk mixed (r := ⟨245, 74, ⟨[.v], [.v], []⟩⟩) rfl t245 Try.func74 hb⟩
theorem t246 : trF (cfOf Try.prog tab 6 []) (sgOf tab) [(0, .v), (2, (.o .v))] [(1, [1]), (2, [])] Try.f79 ⟨[.v], [(.o .v)], []⟩ = some ir_spec_DrawInverseSeries := by kernel_rfl
instance : Has K 246 ir_spec_DrawInverseSeries := ⟨fun _ _ hb => KS.of_body tabOk mixed (r := ⟨246, 79, ⟨[.v], [(.o .v)], []⟩⟩) rfl t246 Try.func79 hb⟩
theorem t247 : trF (cfOf Try.prog tab 6 []) (sgOf tab) [(0, .v), (2, (.o .v))] [(1, [1]), (2, [])] Try.f83 ⟨[.v], [(.o .v)], []⟩ = some ir_spec_DrawReversionOf := by kernel_rfl
instance : Has K 247 ir_spec_DrawReversionOf := ⟨fun _ _ hb => KS.of_body tabOk mixed (r := ⟨247, 83, ⟨[.v], [(.o .v)], []⟩⟩) rfl t247 Try.func83 hb⟩
theorem t248 : trF (cfOf Try.prog tab 29 []) (sgOf tab) [(0, .v), (2, (.o .v)), (3, (.o .v)), (4, (.b .v)), (5, (.o .v)), (6, (.o .v)), (7, .v), (20, .v)] [(1, [1, 1]), (8, []), (24, []), (56, []), (120, []), (240, []), (6, []), (6, [])] Try.f88 ⟨[.v], [(.o .v), (.o .v)], []⟩ = some ir_spec_DrawMultiplySeries := by kernel_rfl
instance : Has K 248 ir_spec_DrawMultiplySeries := ⟨fun _ _ hb => KS.of_body tabOk mixed (r := ⟨248, 88, ⟨[.v], [(.o .v), (.o .v)], []⟩⟩) rfl t248 Try.func88 hb⟩
theorem t249 : trF (cfOf Try.prog tab 19 []) (sgOf tab) [(0, .v), (2, (.o .v)), (3, .v), (4, .v), (5, (.b .v)), (6, (.o .v)), (7, .v)] [(1, [1, 0, 0]), (16, []), (48, []), (112, []), (14, [])] Try.f89 ⟨[.v], [(.o .v), .v, .v], []⟩ = some ir_spec_DrawHankelOf := by kernel_rfl
instance : Has K 249 ir_spec_DrawHankelOf := ⟨fun _ _ hb => KS.of_body tabOk mixed (r := ⟨249, 89, ⟨[.v], [(.o .v), .v, .v], []⟩⟩) rfl t249 Try.func89 hb⟩
theorem t250 : trF (cfOf Try.prog tab 6 []) (sgOf tab) [(0, .v), (2, (.o .v))] [(1, [1]), (2, [])] Try.f91 ⟨[.v], [(.o .v)], []⟩ = some ir_spec_DrawBinomialTransform := by kernel_rfl
instance : Has K 250 ir_spec_DrawBinomialTransform := ⟨fun _ _ hb => KS.of_body tabOk mixed (r := ⟨250, 91, ⟨[.v], [(.o .v)], []⟩⟩) rfl t250 Try.func91 hb⟩
theorem t251 : trF (cfOf Try.prog tab 6 []) (sgOf tab) [(0, .v), (2, (.o .v))] [(1, [1]), (2, [])] Try.f94 ⟨[.v], [(.o .v)], []⟩ = some ir_spec_DrawSatisfiesCatalan := by kernel_rfl
instance : Has K 251 ir_spec_DrawSatisfiesCatalan := ⟨fun _ _ hb => KS.of_body tabOk mixed (r := ⟨251, 94, ⟨[.v], [(.o .v)], []⟩⟩) rfl t251 Try.func94 hb⟩
theorem t288 : trF (cfOf Try.prog tab 32 []) (sgOf tab) [(0, .v), (2, (.b .v)), (3, .v), (4, .v), (15, .v)] [(1, []), (5, []), (13, []), (29, []), (13, []), (13, []), (2, [0, 0, 0, 1, 0])] Try.f136 ⟨[.v], [(.b .v)], []⟩ = some ir_spec_l1New := by kernel_rfl
instance : Has K 288 ir_spec_l1New := ⟨fun _ _ hb => KS.of_body tabOk mixed (r := ⟨288, 136, ⟨[.v], [(.b .v)], []⟩⟩) rfl t288 Try.func136 hb⟩
theorem t289 : trF (cfOf Try.prog tab 37 [0]) (sgOf tab) [(0, (.b .v)), (1, .v), (4, .v), (5, .v), (6, .v), (7, .v), (8, .v), (10, .v), (12, .v)] [(3, []), (131, []), (5, []), (259, []), (5, []), (11, []), (27, []), (59, []), (123, []), (5, [])] Try.f142 ⟨[(.b .v), .v], [.v], [0]⟩ = some ir_spec_l1Below := by kernel_rfl
instance : Has K 289 ir_spec_l1Below := ⟨fun _ _ hb => KS.of_body tabOk mixed (r := ⟨289, 142, ⟨[(.b .v), .v], [.v], [0]⟩⟩) rfl t289 Try.func142 hb⟩
theorem t307 : trF (cfOf Try.prog tab 9 [0]) (sgOf tab) [(0, (.b .v)), (1, .v), (4, .v)] [(3, []), (5, [])] Try.f173 ⟨[(.b .v), .v], [.v], [0]⟩ = some ir_spec_l1Once := by kernel_rfl
instance : Has K 307 ir_spec_l1Once := ⟨fun _ _ hb => KS.of_body tabOk mixed (r := ⟨307, 173, ⟨[(.b .v), .v], [.v], [0]⟩⟩) rfl t307 Try.func173 hb⟩
theorem t308 : trF (cfOf Try.prog tab 57 [0]) (sgOf tab) [(0, (.b .v)), (2, (.o .v)), (3, (.o .v)), (5, (.o .v)), (6, .v), (8, .v), (9, .v), (19, .v), (29, .v), (46, .v), (50, .v)] [(1, [1]), (33, []), (97, []), (5, []), (3, []), (129, []), (3, [1, 0]), (9, [0, 0, 0, 1, 0]), (25, []), (281, []), (25, []), (25, []), (521, []), (9, []), (1033, []), (9, []), (3, [])] Try.f183 ⟨[(.b .v)], [(.o .v)], [0]⟩ = some ir_spec_l30Any := by kernel_rfl
instance : Has K 308 ir_spec_l30Any := ⟨fun _ _ hb => KS.of_body tabOk mixed (r := ⟨308, 183, ⟨[(.b .v)], [(.o .v)], [0]⟩⟩) rfl t308 Try.func183 hb⟩
theorem t313 : trF (cfOf Try.prog tab 12 [0]) (sgOf tab) [(0, (.b .v)), (1, .y), (4, .v)] [(3, []), (5, [])] Try.f193 ⟨[(.b .v), .y], [.v], [0]⟩ = some ir_spec_l1PickInt := by kernel_rfl
instance : Has K 313 ir_spec_l1PickInt := ⟨fun _ _ hb => KS.of_body tabOk mixed (r := ⟨313, 193, ⟨[(.b .v), .y], [.v], [0]⟩⟩) rfl t313 Try.func193 hb⟩
theorem t316 : trF (cfOf Try.prog tab 58 [0]) (sgOf tab) [(0, (.b .v)), (2, .v), (3, .v), (34, .v)] [(1, []), (1, []), (5, []), (13, []), (5, []), (5, []), (3, [])] Try.f196 ⟨[(.b .v)], [.v], [0]⟩ = some ir_spec_l1Byte := by kernel_rfl
instance : Has K 316 ir_spec_l1Byte := ⟨fun _ _ hb => KS.of_body tabOk mixed (r := ⟨316, 196, ⟨[(.b .v)], [.v], [0]⟩⟩) rfl t316 Try.func196 hb⟩
end Go.Proofs.Ytfjkbocblpjpjaa.fnSeries

