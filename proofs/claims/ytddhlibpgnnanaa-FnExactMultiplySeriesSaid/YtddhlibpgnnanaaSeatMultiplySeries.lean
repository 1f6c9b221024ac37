import Derived.Test.YtddhlibpgnnanaaIrH
import Derived.Test.YtddhlibpgnnanaaIrI01
import Derived.Test.YtddhlibpgnnanaaIrI30
import Derived.Test.YtddhlibpgnnanaaIrLFnExactMultiplySeries
import Derived.Test.YtddhlibpgnnanaaIrS01
import Derived.Test.YtddhlibpgnnanaaIrS30
import Derived.Test.YtddhlibpgnnanaaRows
import Derived.Test.YtddhlibpgnnanaaCatHas
namespace Go.Proofs.Ytddhlibpgnnanaa.fnExactMultiplySeries
open Go Go.Cat Go.Proofs
set_option maxRecDepth 100000
def tab : List Row := [⟨22, 46, ⟨[.v, .v, .v], [.v], []⟩⟩,
  ⟨23, 48, ⟨[.v, .v, .v], [.v], []⟩⟩,
  ⟨30, 6, ⟨[.y, .y], [.v], []⟩⟩,
  ⟨41, 24, ⟨[.y, .y], [(.o .v), .v], []⟩⟩,
  ⟨42, 25, ⟨[.y], [(.o .v)], []⟩⟩,
  ⟨43, 26, ⟨[.y, .y], [(.o .v), .v], []⟩⟩,
  ⟨44, 27, ⟨[.y, .y], [.v], []⟩⟩,
  ⟨45, 28, ⟨[(.o .v), .v], [.v], [0]⟩⟩,
  ⟨46, 29, ⟨[.y, .v], [.v], []⟩⟩,
  ⟨68, 55, ⟨[.y], [.v], []⟩⟩,
  ⟨69, 56, ⟨[.y, .y], [(.o .v)], []⟩⟩,
  ⟨70, 57, ⟨[.y], [.v], []⟩⟩,
  ⟨71, 58, ⟨[.y, .y], [(.o .v)], []⟩⟩]
theorem tabOk : tabOK Try.prog tab = true := by kernel_rfl
theorem mixed : Try.prog.follows .mixedOrders = true := Try.checked.mixed
abbrev K := KS Try.prog tab
theorem t22 : trF (cfOf Try.prog tab 15 []) (sgOf tab) [(0, .v), (1, .v), (2, .v), (6, .v)] [(7, []), (8, [])] Try.f46 ⟨[.v, .v, .v], [.v], []⟩ = some ir_spec_l1In := by kernel_rfl
instance : Has K 22 ir_spec_l1In := ⟨fun _ _ hb => KS.of_body tabOk mixed (r := ⟨22, 46, ⟨[.v, .v, .v], [.v], []⟩⟩) rfl t22 Try.func46 hb⟩
theorem t23 : trF (cfOf Try.prog tab 15 []) (sgOf tab) [(0, .v), (1, .v), (2, .v), (6, .v)] [(7, []), (8, [])] Try.f48 ⟨[.v, .v, .v], [.v], []⟩ = some ir_impl_within := by kernel_rfl
instance : Has K 23 ir_impl_within := ⟨fun _ _ hb => KS.of_body tabOk mixed (r := ⟨23, 48, ⟨[.v, .v, .v], [.v], []⟩⟩) rfl t23 Try.func48 hb⟩
theorem t30 : trF (cfOf Try.prog tab 114 []) (sgOf tab) [(0, .y), (1, .y), (4, .v), (5, .v), (6, .v), (7, (.o .v)), (8, (.o .v)), (9, (.o .v)), (10, .v), (11, .v), (12, .v), (13, .v), (14, .v), (15, .v), (18, .v), (21, .v), (48, .v), (53, .v), (58, .v), (77, .v), (85, .v), (88, .v), (105, .v), (110, .v), (113, .v)] [(3, []), (16387, []), (4, []), (32771, []), (4, []), (27, []), (59, []), (123, []), (507, []), (66043, []), (4, []), (131579, []), (4, []), (262651, []), (4, []), (1019, []), (987, []), (923, []), (524443, []), (4, []), (1179, []), (1179, []), (3227, []), (3227, []), (1051803, []), (4, []), (2098331, []), (4, []), (13464, []), (4195456, []), (4, []), (3200, []), (3072, []), (8391680, []), (4, []), (16777216, []), (4, []), (4, [])] Try.f6 ⟨[.y, .y], [.v], []⟩ = some ir_laws_FnExactMultiplySeries := by kernel_rfl
instance : Has K 30 ir_laws_FnExactMultiplySeries := ⟨fun _ _ hb => KS.of_body tabOk mixed (r := ⟨30, 6, ⟨[.y, .y], [.v], []⟩⟩) rfl t30 Try.func6 hb⟩
theorem t41 : trF (cfOf Try.prog tab 25 []) (sgOf tab) [(0, .y), (1, .y), (4, (.o .v)), (5, .v), (20, .v)] [(3, [1, 0]), (19, []), (12, [1, 0, 0]), (12, [])] Try.f24 ⟨[.y, .y], [(.o .v), .v], []⟩ = some ir_spec_MultiplySeries := by kernel_rfl
instance : Has K 41 ir_spec_MultiplySeries := ⟨fun _ _ hb => KS.of_body tabOk mixed (r := ⟨41, 24, ⟨[.y, .y], [(.o .v), .v], []⟩⟩) rfl t41 Try.func24 hb⟩
theorem t42 : trF (cfOf Try.prog tab 22 []) (sgOf tab) [(0, .y), (2, (.o .v)), (3, (.o .v)), (4, .v), (11, .v)] [(1, [1]), (5, [0, 0, 1, 0]), (13, []), (29, []), (13, []), (13, []), (2, [])] Try.f25 ⟨[.y], [(.o .v)], []⟩ = some ir_laws_toIntS := by kernel_rfl
instance : Has K 42 ir_laws_toIntS := ⟨fun _ _ hb => KS.of_body tabOk mixed (r := ⟨42, 25, ⟨[.y], [(.o .v)], []⟩⟩) rfl t42 Try.func25 hb⟩
theorem t43 : trF (cfOf Try.prog tab 25 []) (sgOf tab) [(0, .y), (1, .y), (4, (.o .v)), (5, .v), (20, .v)] [(3, [1, 0]), (19, []), (12, [1, 0, 0]), (12, [])] Try.f26 ⟨[.y, .y], [(.o .v), .v], []⟩ = some ir_impl_MultiplySeries := by kernel_rfl
instance : Has K 43 ir_impl_MultiplySeries := ⟨fun _ _ hb => KS.of_body tabOk mixed (r := ⟨43, 26, ⟨[.y, .y], [(.o .v), .v], []⟩⟩) rfl t43 Try.func26 hb⟩
theorem t44 : trF (cfOf Try.prog tab 26 []) (sgOf tab) [(0, .y), (1, .y), (4, .v), (5, .v), (10, .v), (14, .v), (25, .v)] [(3, []), (19, []), (4, []), (11, []), (43, []), (75, []), (4, []), (11, []), (4, [])] Try.f27 ⟨[.y, .y], [.v], []⟩ = some ir_laws_eqIntS := by kernel_rfl
instance : Has K 44 ir_laws_eqIntS := ⟨fun _ _ hb => KS.of_body tabOk mixed (r := ⟨44, 27, ⟨[.y, .y], [.v], []⟩⟩) rfl t44 Try.func27 hb⟩
theorem t45 : trF (cfOf Try.prog tab 19 [0]) (sgOf tab) [(0, (.o .v)), (1, .v), (4, .v), (5, .v), (9, .v)] [(3, []), (11, []), (27, []), (11, []), (11, []), (11, []), (5, [])] Try.f28 ⟨[(.o .v), .v], [.v], [0]⟩ = some ir_laws_markIntS := by kernel_rfl
instance : Has K 45 ir_laws_markIntS := ⟨fun _ _ hb => KS.of_body tabOk mixed (r := ⟨45, 28, ⟨[(.o .v), .v], [.v], [0]⟩⟩) rfl t45 Try.func28 hb⟩
theorem t46 : trF (cfOf Try.prog tab 21 []) (sgOf tab) [(0, .y), (1, .v), (4, .v), (5, .v), (9, .v), (17, .v)] [(3, []), (11, []), (27, []), (43, []), (4, []), (11, []), (11, []), (4, [])] Try.f29 ⟨[.y, .v], [.v], []⟩ = some ir_laws_heldIntS := by kernel_rfl
instance : Has K 46 ir_laws_heldIntS := ⟨fun _ _ hb => KS.of_body tabOk mixed (r := ⟨46, 29, ⟨[.y, .v], [.v], []⟩⟩) rfl t46 Try.func29 hb⟩
theorem t68 : trF (cfOf Try.prog tab 19 []) (sgOf tab) [(0, .y), (2, .v), (3, .v), (7, .v), (15, .v)] [(1, []), (5, []), (13, []), (21, []), (2, []), (5, []), (2, [])] Try.f55 ⟨[.y], [.v], []⟩ = some ir_spec_l30Fine := by kernel_rfl
instance : Has K 68 ir_spec_l30Fine := ⟨fun _ _ hb => KS.of_body tabOk mixed (r := ⟨68, 55, ⟨[.y], [.v], []⟩⟩) rfl t68 Try.func55 hb⟩
theorem t69 : trF (cfOf Try.prog tab 46 []) (sgOf tab) [(0, .y), (1, .y), (4, (.o .v)), (5, .v), (6, (.o .v)), (7, .v), (8, .v), (18, .v), (23, .v)] [(3, [1]), (11, []), (27, [0, 1, 0]), (59, []), (187, []), (123, []), (379, []), (123, []), (123, []), (59, []), (4, [])] Try.f56 ⟨[.y, .y], [(.o .v)], []⟩ = some ir_spec_l30Times := by kernel_rfl
instance : Has K 69 ir_spec_l30Times := ⟨fun _ _ hb => KS.of_body tabOk mixed (r := ⟨69, 56, ⟨[.y, .y], [(.o .v)], []⟩⟩) rfl t69 Try.func56 hb⟩
theorem t70 : trF (cfOf Try.prog tab 18 []) (sgOf tab) [(0, .y), (2, .v), (4, .v), (5, .y), (6, .v), (7, .v), (8, .v), (13, .v)] [(1, []), (57, []), (121, []), (61, []), (185, []), (2, []), (57, []), (2, [])] Try.f57 ⟨[.y], [.v], []⟩ = some ir_impl_areTerms := by kernel_rfl
instance : Has K 70 ir_impl_areTerms := ⟨fun _ _ hb => KS.of_body tabOk mixed (r := ⟨70, 57, ⟨[.y], [.v], []⟩⟩) rfl t70 Try.func57 hb⟩
theorem t71 : trF (cfOf Try.prog tab 42 []) (sgOf tab) [(0, .y), (1, .y), (4, (.o .v)), (5, (.o .v)), (6, .v), (7, .v), (12, .v), (13, .v), (14, .v), (18, .v)] [(3, [1]), (11, [0, 0, 1, 0]), (203, []), (459, []), (219, []), (251, []), (763, []), (251, []), (251, []), (203, []), (4, [])] Try.f58 ⟨[.y, .y], [(.o .v)], []⟩ = some ir_impl_times := by kernel_rfl
instance : Has K 71 ir_impl_times := ⟨fun _ _ hb => KS.of_body tabOk mixed (r := ⟨71, 58, ⟨[.y, .y], [(.o .v)], []⟩⟩) rfl t71 Try.func58 hb⟩
end Go.Proofs.Ytddhlibpgnnanaa.fnExactMultiplySeries
