import Derived.Test.YtddhlibpgnnanaaIrH
import Derived.Test.YtddhlibpgnnanaaIrI01
import Derived.Test.YtddhlibpgnnanaaIrI02
import Derived.Test.YtddhlibpgnnanaaIrI30
import Derived.Test.YtddhlibpgnnanaaIrLFnExactSatisfiesCatalan
import Derived.Test.YtddhlibpgnnanaaIrS01
import Derived.Test.YtddhlibpgnnanaaIrS30
import Derived.Test.YtddhlibpgnnanaaRows
import Derived.Test.YtddhlibpgnnanaaCatHas
namespace Go.Proofs.Ytddhlibpgnnanaa.fnExactSatisfiesCatalan
open Go Go.Cat Go.Proofs
set_option maxRecDepth 100000
def tab : List Row := [⟨22, 46, ⟨[.v, .v, .v], [.v], []⟩⟩,
  ⟨23, 48, ⟨[.v, .v, .v], [.v], []⟩⟩,
  ⟨31, 7, ⟨[.y], [.v], []⟩⟩,
  ⟨42, 25, ⟨[.y], [(.o .v)], []⟩⟩,
  ⟨44, 27, ⟨[.y, .y], [.v], []⟩⟩,
  ⟨47, 30, ⟨[.y], [.v], []⟩⟩,
  ⟨48, 31, ⟨[.y], [.v], []⟩⟩,
  ⟨68, 55, ⟨[.y], [.v], []⟩⟩,
  ⟨69, 56, ⟨[.y, .y], [(.o .v)], []⟩⟩,
  ⟨70, 57, ⟨[.y], [.v], []⟩⟩,
  ⟨71, 58, ⟨[.y, .y], [(.o .v)], []⟩⟩,
  ⟨72, 59, ⟨[.y, .y], [.v], []⟩⟩]
theorem tabOk : tabOK Try.prog tab = true := by kernel_rfl
theorem mixed : Try.prog.follows .mixedOrders = true := Try.checked.mixed
abbrev K := KS Try.prog tab
theorem t22 : trF (cfOf Try.prog tab 15 []) (sgOf tab) [(0, .v), (1, .v), (2, .v), (6, .v)] [(7, []), (8, [])] Try.f46 ⟨[.v, .v, .v], [.v], []⟩ = some ir_spec_l1In := by kernel_rfl
instance : Has K 22 ir_spec_l1In := ⟨fun _ _ hb => KS.of_body tabOk mixed (r := ⟨22, 46, ⟨[.v, .v, .v], [.v], []⟩⟩) rfl t22 Try.func46 hb⟩
theorem t23 : trF (cfOf Try.prog tab 15 []) (sgOf tab) [(0, .v), (1, .v), (2, .v), (6, .v)] [(7, []), (8, [])] Try.f48 ⟨[.v, .v, .v], [.v], []⟩ = some ir_impl_within := by kernel_rfl
instance : Has K 23 ir_impl_within := ⟨fun _ _ hb => KS.of_body tabOk mixed (r := ⟨23, 48, ⟨[.v, .v, .v], [.v], []⟩⟩) rfl t23 Try.func48 hb⟩
theorem t31 : trF (cfOf Try.prog tab 24 []) (sgOf tab) [(0, .y), (2, .v), (3, .v), (4, .v), (5, .v), (8, .v), (18, .v), (23, .v)] [(1, []), (33, []), (2, []), (5, []), (13, []), (29, []), (73, []), (2, []), (128, []), (2, []), (2, [])] Try.f7 ⟨[.y], [.v], []⟩ = some ir_laws_FnExactSatisfiesCatalan := by kernel_rfl
instance : Has K 31 ir_laws_FnExactSatisfiesCatalan := ⟨fun _ _ hb => KS.of_body tabOk mixed (r := ⟨31, 7, ⟨[.y], [.v], []⟩⟩) rfl t31 Try.func7 hb⟩
theorem t42 : trF (cfOf Try.prog tab 22 []) (sgOf tab) [(0, .y), (2, (.o .v)), (3, (.o .v)), (4, .v), (11, .v)] [(1, [1]), (5, [0, 0, 1, 0]), (13, []), (29, []), (13, []), (13, []), (2, [])] Try.f25 ⟨[.y], [(.o .v)], []⟩ = some ir_laws_toIntS := by kernel_rfl
instance : Has K 42 ir_laws_toIntS := ⟨fun _ _ hb => KS.of_body tabOk mixed (r := ⟨42, 25, ⟨[.y], [(.o .v)], []⟩⟩) rfl t42 Try.func25 hb⟩
theorem t44 : trF (cfOf Try.prog tab 26 []) (sgOf tab) [(0, .y), (1, .y), (4, .v), (5, .v), (10, .v), (14, .v), (25, .v)] [(3, []), (19, []), (4, []), (11, []), (43, []), (75, []), (4, []), (11, []), (4, [])] Try.f27 ⟨[.y, .y], [.v], []⟩ = some ir_laws_eqIntS := by kernel_rfl
instance : Has K 44 ir_laws_eqIntS := ⟨fun _ _ hb => KS.of_body tabOk mixed (r := ⟨44, 27, ⟨[.y, .y], [.v], []⟩⟩) rfl t44 Try.func27 hb⟩
theorem t47 : trF (cfOf Try.prog tab 33 []) (sgOf tab) [(0, .y), (2, .v), (3, .v), (4, .v), (13, .v), (20, .v), (32, .v)] [(1, []), (17, []), (2, []), (5, []), (13, []), (45, []), (77, []), (2, []), (13, []), (2, [])] Try.f30 ⟨[.y], [.v], []⟩ = some ir_spec_SatisfiesCatalan := by kernel_rfl
instance : Has K 47 ir_spec_SatisfiesCatalan := ⟨fun _ _ hb => KS.of_body tabOk mixed (r := ⟨47, 30, ⟨[.y], [.v], []⟩⟩) rfl t47 Try.func30 hb⟩
theorem t48 : trF (cfOf Try.prog tab 24 []) (sgOf tab) [(0, .y), (2, .v), (3, .v), (12, .v)] [(1, []), (9, []), (2, []), (5, []), (2, [])] Try.f31 ⟨[.y], [.v], []⟩ = some ir_impl_SatisfiesCatalan := by kernel_rfl
instance : Has K 48 ir_impl_SatisfiesCatalan := ⟨fun _ _ hb => KS.of_body tabOk mixed (r := ⟨48, 31, ⟨[.y], [.v], []⟩⟩) rfl t48 Try.func31 hb⟩
theorem t68 : trF (cfOf Try.prog tab 19 []) (sgOf tab) [(0, .y), (2, .v), (3, .v), (7, .v), (15, .v)] [(1, []), (5, []), (13, []), (21, []), (2, []), (5, []), (2, [])] Try.f55 ⟨[.y], [.v], []⟩ = some ir_spec_l30Fine := by kernel_rfl
instance : Has K 68 ir_spec_l30Fine := ⟨fun _ _ hb => KS.of_body tabOk mixed (r := ⟨68, 55, ⟨[.y], [.v], []⟩⟩) rfl t68 Try.func55 hb⟩
theorem t69 : trF (cfOf Try.prog tab 46 []) (sgOf tab) [(0, .y), (1, .y), (4, (.o .v)), (5, .v), (6, (.o .v)), (7, .v), (8, .v), (18, .v), (23, .v)] [(3, [1]), (11, []), (27, [0, 1, 0]), (59, []), (187, []), (123, []), (379, []), (123, []), (123, []), (59, []), (4, [])] Try.f56 ⟨[.y, .y], [(.o .v)], []⟩ = some ir_spec_l30Times := by kernel_rfl
instance : Has K 69 ir_spec_l30Times := ⟨fun _ _ hb => KS.of_body tabOk mixed (r := ⟨69, 56, ⟨[.y, .y], [(.o .v)], []⟩⟩) rfl t69 Try.func56 hb⟩
theorem t70 : trF (cfOf Try.prog tab 18 []) (sgOf tab) [(0, .y), (2, .v), (4, .v), (5, .y), (6, .v), (7, .v), (8, .v), (13, .v)] [(1, []), (57, []), (121, []), (61, []), (185, []), (2, []), (57, []), (2, [])] Try.f57 ⟨[.y], [.v], []⟩ = some ir_impl_areTerms := by kernel_rfl
instance : Has K 70 ir_impl_areTerms := ⟨fun _ _ hb => KS.of_body tabOk mixed (r := ⟨70, 57, ⟨[.y], [.v], []⟩⟩) rfl t70 Try.func57 hb⟩
theorem t71 : trF (cfOf Try.prog tab 42 []) (sgOf tab) [(0, .y), (1, .y), (4, (.o .v)), (5, (.o .v)), (6, .v), (7, .v), (12, .v), (13, .v), (14, .v), (18, .v)] [(3, [1]), (11, [0, 0, 1, 0]), (203, []), (459, []), (219, []), (251, []), (763, []), (251, []), (251, []), (203, []), (4, [])] Try.f58 ⟨[.y, .y], [(.o .v)], []⟩ = some ir_impl_times := by kernel_rfl
instance : Has K 71 ir_impl_times := ⟨fun _ _ hb => KS.of_body tabOk mixed (r := ⟨71, 58, ⟨[.y, .y], [(.o .v)], []⟩⟩) rfl t71 Try.func58 hb⟩
theorem t72 : trF (cfOf Try.prog tab 26 []) (sgOf tab) [(0, .y), (1, .y), (4, .v), (5, .v), (10, .v), (12, .v), (13, .v), (14, .v), (24, .v)] [(3, []), (19, []), (4, []), (99, []), (227, []), (107, []), (355, []), (4, []), (99, []), (4, [])] Try.f59 ⟨[.y, .y], [.v], []⟩ = some ir_impl_equalInts := by kernel_rfl
instance : Has K 72 ir_impl_equalInts := ⟨fun _ _ hb => KS.of_body tabOk mixed (r := ⟨72, 59, ⟨[.y, .y], [.v], []⟩⟩) rfl t72 Try.func59 hb⟩
end Go.Proofs.Ytddhlibpgnnanaa.fnExactSatisfiesCatalan
