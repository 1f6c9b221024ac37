/-
  Texts of the little language.
-/
import Derived.Test.YtddhlibpgnnanaaIrAllA
import Derived.Test.YtddhlibpgnnanaaRows
import Derived.Test.YtddhlibpgnnanaaCatTwo
namespace Go.Proofs.Ytddhlibpgnnanaa.fnExactBinomialTransform
open Go Go.Cat Go.Proofs
set_option maxRecDepth 100000
def tab : List Row := [⟨22, 46, ⟨[.v, .v, .v], [.v], []⟩⟩,
  ⟨23, 48, ⟨[.v, .v, .v], [.v], []⟩⟩,
  ⟨24, 47, ⟨[.v, .v], [.v], []⟩⟩,
  ⟨25, 66, ⟨[.v, .v], [.v], []⟩⟩,
  ⟨36, 12, ⟨[.y], [.v], []⟩⟩,
  ⟨42, 25, ⟨[.y], [(.o .v)], []⟩⟩,
  ⟨44, 27, ⟨[.y, .y], [.v], []⟩⟩,
  ⟨45, 28, ⟨[(.o .v), .v], [.v], [0]⟩⟩,
  ⟨46, 29, ⟨[.y, .v], [.v], []⟩⟩,
  ⟨57, 40, ⟨[.y], [(.o .v), .v], []⟩⟩,
  ⟨58, 41, ⟨[.y], [(.o .v), .v], []⟩⟩,
  ⟨68, 55, ⟨[.y], [.v], []⟩⟩,
  ⟨70, 57, ⟨[.y], [.v], []⟩⟩]
theorem tabOk : tabOK Try.prog tab = true := by kernel_rfl
theorem mixed : Try.prog.follows .mixedOrders = true := Try.checked.mixed
abbrev K := KS Try.prog tab
theorem t22 : trF (cfOf Try.prog tab 15 []) (sgOf tab) [(0, .v), (1, .v), (2, .v), (6, .v)] [(7, []), (8, [])] Try.f46 ⟨[.v, .v, .v], [.v], []⟩ = some ir_spec_l1In := by kernel_rfl
instance : Has K 22 ir_spec_l1In := ⟨fun _ _ hb => KS.of_body tabOk mixed (r := ⟨22, 46, ⟨[.v, .v, .v], [.v], []⟩⟩) rfl t22 Try.func46 hb⟩
theorem t23 : trF (cfOf Try.prog tab 15 []) (sgOf tab) [(0, .v), (1, .v), (2, .v), (6, .v)] [(7, []), (8, [])] Try.f48 ⟨[.v, .v, .v], [.v], []⟩ = some ir_impl_within := by kernel_rfl
instance : Has K 23 ir_impl_within := ⟨fun _ _ hb => KS.of_body tabOk mixed (r := ⟨23, 48, ⟨[.v, .v, .v], [.v], []⟩⟩) rfl t23 Try.func48 hb⟩
theorem t24 : trF (cfOf Try.prog tab 21 []) (sgOf tab) [(0, .v), (1, .v), (4, .v), (5, .v), (6, .v), (9, .v)] [(3, []), (11, []), (27, []), (59, []), (27, []), (27, []), (4, [])] Try.f47 ⟨[.v, .v], [.v], []⟩ = some ir_spec_l3Binomial := by kernel_rfl
instance : Has K 24 ir_spec_l3Binomial := ⟨fun _ _ hb => KS.of_body tabOk mixed (r := ⟨24, 47, ⟨[.v, .v], [.v], []⟩⟩) rfl t24 Try.func47 hb⟩
theorem t25 : trF (cfOf Try.prog tab 29 []) (sgOf tab) [(0, .v), (1, .v), (4, .v), (5, .v), (6, .v), (13, .v), (16, .v)] [(3, []), (35, []), (4, []), (11, []), (27, []), (91, []), (27, []), (27, []), (4, [])] Try.f66 ⟨[.v, .v], [.v], []⟩ = some ir_impl_choose := by kernel_rfl
instance : Has K 25 ir_impl_choose := ⟨fun _ _ hb => KS.of_body tabOk mixed (r := ⟨25, 66, ⟨[.v, .v], [.v], []⟩⟩) rfl t25 Try.func66 hb⟩
theorem t36 : trF (cfOf Try.prog tab 93 []) (sgOf tab) [(0, .y), (2, .v), (3, .v), (4, .v), (5, (.o .v)), (6, (.o .v)), (7, .v), (8, .v), (9, .v), (10, .v), (11, .v), (12, .v), (15, .v), (37, .v), (42, .v), (58, .v), (66, .v), (69, .v), (84, .v), (89, .v), (92, .v)] [(1, []), (4097, []), (2, []), (13, []), (29, []), (125, []), (8317, []), (2, []), (16509, []), (2, []), (253, []), (237, []), (32813, []), (2, []), (301, []), (301, []), (813, []), (813, []), (66349, []), (2, []), (131373, []), (2, []), (3372, []), (262432, []), (2, []), (800, []), (768, []), (525056, []), (2, []), (1048576, []), (2, []), (2, [])] Try.f12 ⟨[.y], [.v], []⟩ = some ir_laws_FnExactBinomialTransform := by kernel_rfl
instance : Has K 36 ir_laws_FnExactBinomialTransform := ⟨fun _ _ hb => KS.of_body tabOk mixed (r := ⟨36, 12, ⟨[.y], [.v], []⟩⟩) rfl t36 Try.func12 hb⟩
theorem t42 : trF (cfOf Try.prog tab 22 []) (sgOf tab) [(0, .y), (2, (.o .v)), (3, (.o .v)), (4, .v), (11, .v)] [(1, [1]), (5, [0, 0, 1, 0]), (13, []), (29, []), (13, []), (13, []), (2, [])] Try.f25 ⟨[.y], [(.o .v)], []⟩ = some ir_laws_toIntS := by kernel_rfl
instance : Has K 42 ir_laws_toIntS := ⟨fun _ _ hb => KS.of_body tabOk mixed (r := ⟨42, 25, ⟨[.y], [(.o .v)], []⟩⟩) rfl t42 Try.func25 hb⟩
theorem t44 : trF (cfOf Try.prog tab 26 []) (sgOf tab) [(0, .y), (1, .y), (4, .v), (5, .v), (10, .v), (14, .v), (25, .v)] [(3, []), (19, []), (4, []), (11, []), (43, []), (75, []), (4, []), (11, []), (4, [])] Try.f27 ⟨[.y, .y], [.v], []⟩ = some ir_laws_eqIntS := by kernel_rfl
instance : Has K 44 ir_laws_eqIntS := ⟨fun _ _ hb => KS.of_body tabOk mixed (r := ⟨44, 27, ⟨[.y, .y], [.v], []⟩⟩) rfl t44 Try.func27 hb⟩
theorem t45 : trF (cfOf Try.prog tab 19 [0]) (sgOf tab) [(0, (.o .v)), (1, .v), (4, .v), (5, .v), (9, .v)] [(3, []), (11, []), (27, []), (11, []), (11, []), (11, []), (5, [])] Try.f28 ⟨[(.o .v), .v], [.v], [0]⟩ = some ir_laws_markIntS := by kernel_rfl
instance : Has K 45 ir_laws_markIntS := ⟨fun _ _ hb => KS.of_body tabOk mixed (r := ⟨45, 28, ⟨[(.o .v), .v], [.v], [0]⟩⟩) rfl t45 Try.func28 hb⟩
theorem t46 : trF (cfOf Try.prog tab 21 []) (sgOf tab) [(0, .y), (1, .v), (4, .v), (5, .v), (9, .v), (17, .v)] [(3, []), (11, []), (27, []), (43, []), (4, []), (11, []), (11, []), (4, [])] Try.f29 ⟨[.y, .v], [.v], []⟩ = some ir_laws_heldIntS := by kernel_rfl
instance : Has K 46 ir_laws_heldIntS := ⟨fun _ _ hb => KS.of_body tabOk mixed (r := ⟨46, 29, ⟨[.y, .v], [.v], []⟩⟩) rfl t46 Try.func29 hb⟩
theorem t57 : trF (cfOf Try.prog tab 39 []) (sgOf tab) [(0, .y), (2, (.o .v)), (3, .v), (4, (.o .v)), (5, .v), (6, .v), (7, .v), (10, .v), (16, .v), (21, .v)] [(1, [1, 0]), (129, []), (6, [1, 0, 0]), (9, [1, 0]), (25, []), (281, []), (57, []), (121, []), (633, []), (121, []), (121, []), (25, []), (25, []), (6, [])] Try.f40 ⟨[.y], [(.o .v), .v], []⟩ = some ir_spec_BinomialTransform := by kernel_rfl
instance : Has K 57 ir_spec_BinomialTransform := ⟨fun _ _ hb => KS.of_body tabOk mixed (r := ⟨57, 40, ⟨[.y], [(.o .v), .v], []⟩⟩) rfl t57 Try.func40 hb⟩
theorem t58 : trF (cfOf Try.prog tab 39 []) (sgOf tab) [(0, .y), (2, (.o .v)), (3, .v), (4, (.o .v)), (5, .v), (6, .v), (7, .v), (11, .v), (14, .v), (15, .v), (16, .v), (20, .v)] [(1, [1, 0]), (9, [1, 0]), (137, []), (6, []), (777, []), (1801, []), (793, []), (825, []), (889, []), (2937, []), (889, []), (889, []), (777, []), (777, []), (6, [])] Try.f41 ⟨[.y], [(.o .v), .v], []⟩ = some ir_impl_BinomialTransform := by kernel_rfl
instance : Has K 58 ir_impl_BinomialTransform := ⟨fun _ _ hb => KS.of_body tabOk mixed (r := ⟨58, 41, ⟨[.y], [(.o .v), .v], []⟩⟩) rfl t58 Try.func41 hb⟩
theorem t68 : trF (cfOf Try.prog tab 19 []) (sgOf tab) [(0, .y), (2, .v), (3, .v), (7, .v), (15, .v)] [(1, []), (5, []), (13, []), (21, []), (2, []), (5, []), (2, [])] Try.f55 ⟨[.y], [.v], []⟩ = some ir_spec_l30Fine := by kernel_rfl
instance : Has K 68 ir_spec_l30Fine := ⟨fun _ _ hb => KS.of_body tabOk mixed (r := ⟨68, 55, ⟨[.y], [.v], []⟩⟩) rfl t68 Try.func55 hb⟩
theorem t70 : trF (cfOf Try.prog tab 18 []) (sgOf tab) [(0, .y), (2, .v), (4, .v), (5, .y), (6, .v), (7, .v), (8, .v), (13, .v)] [(1, []), (57, []), (121, []), (61, []), (185, []), (2, []), (57, []), (2, [])] Try.f57 ⟨[.y], [.v], []⟩ = some ir_impl_areTerms := by kernel_rfl
instance : Has K 70 ir_impl_areTerms := ⟨fun _ _ hb => KS.of_body tabOk mixed (r := ⟨70, 57, ⟨[.y], [.v], []⟩⟩) rfl t70 Try.func57 hb⟩
end Go.Proofs.Ytddhlibpgnnanaa.fnExactBinomialTransform

