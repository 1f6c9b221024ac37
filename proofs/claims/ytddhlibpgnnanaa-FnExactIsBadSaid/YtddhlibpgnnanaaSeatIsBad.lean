import Derived.Test.YtddhlibpgnnanaaIrI02
import Derived.Test.YtddhlibpgnnanaaIrI25
import Derived.Test.YtddhlibpgnnanaaIrI28
import Derived.Test.YtddhlibpgnnanaaIrI29
import Derived.Test.YtddhlibpgnnanaaIrLFnExactIsBad
import Derived.Test.YtddhlibpgnnanaaIrS02
import Derived.Test.YtddhlibpgnnanaaIrS29
import Derived.Test.YtddhlibpgnnanaaRows
import Derived.Test.YtddhlibpgnnanaaCatHas
namespace Go.Proofs.Ytddhlibpgnnanaa.fnExactIsBad
open Go Go.Cat Go.Proofs
set_option maxRecDepth 100000
def tab : List Row := [⟨29, 5, ⟨[.v], [.v], []⟩⟩,
  ⟨39, 22, ⟨[.v], [.v], []⟩⟩,
  ⟨40, 23, ⟨[.v], [.v], []⟩⟩,
  ⟨63, 50, ⟨[.v], [.v, .v, .v], []⟩⟩,
  ⟨64, 51, ⟨[.v], [.v], []⟩⟩,
  ⟨65, 52, ⟨[.v], [.v], []⟩⟩,
  ⟨66, 53, ⟨[.v, .v], [.v], []⟩⟩,
  ⟨67, 54, ⟨[.v], [.v], []⟩⟩,
  ⟨82, 71, ⟨[.v], [(.o .v), .v], []⟩⟩]
theorem tabOk : tabOK Try.prog tab = true := by kernel_rfl
theorem mixed : Try.prog.follows .mixedOrders = true := Try.checked.mixed
abbrev K := KS Try.prog tab
theorem t29 : trF (cfOf Try.prog tab 15 []) (sgOf tab) [(0, .v), (2, .v), (3, .v), (4, .v), (7, .v), (14, .v)] [(1, []), (17, []), (2, []), (5, []), (12, []), (32, []), (2, []), (2, [])] Try.f5 ⟨[.v], [.v], []⟩ = some ir_laws_FnExactIsBad := by kernel_rfl
instance : Has K 29 ir_laws_FnExactIsBad := ⟨fun _ _ hb => KS.of_body tabOk mixed (r := ⟨29, 5, ⟨[.v], [.v], []⟩⟩) rfl t29 Try.func5 hb⟩
theorem t39 : trF (cfOf Try.prog tab 23 []) (sgOf tab) [(0, .v), (2, .v), (3, .v), (4, .v), (5, .v)] [(1, []), (29, []), (2, [])] Try.f22 ⟨[.v], [.v], []⟩ = some ir_spec_IsBad := by kernel_rfl
instance : Has K 39 ir_spec_IsBad := ⟨fun _ _ hb => KS.of_body tabOk mixed (r := ⟨39, 22, ⟨[.v], [.v], []⟩⟩) rfl t39 Try.func22 hb⟩
theorem t40 : trF (cfOf Try.prog tab 22 []) (sgOf tab) [(0, .v), (2, .v)] [(1, []), (2, [])] Try.f23 ⟨[.v], [.v], []⟩ = some ir_impl_IsBad := by kernel_rfl
instance : Has K 40 ir_impl_IsBad := ⟨fun _ _ hb => KS.of_body tabOk mixed (r := ⟨40, 23, ⟨[.v], [.v], []⟩⟩) rfl t40 Try.func23 hb⟩
theorem t63 : trF (cfOf Try.prog tab 30 []) (sgOf tab) [(0, .v), (2, .v), (3, .v), (4, .v), (5, .v), (6, .v), (7, .v), (11, .v), (16, .v), (17, .v), (21, .v)] [(1, []), (17, []), (49, []), (113, []), (241, []), (369, []), (881, []), (113, []), (1137, []), (113, []), (14, []), (113, []), (14, [])] Try.f50 ⟨[.v], [.v, .v, .v], []⟩ = some ir_spec_l29Word := by kernel_rfl
instance : Has K 63 ir_spec_l29Word := ⟨fun _ _ hb => KS.of_body tabOk mixed (r := ⟨63, 50, ⟨[.v], [.v, .v, .v], []⟩⟩) rfl t63 Try.func50 hb⟩
theorem t64 : trF (cfOf Try.prog tab 31 []) (sgOf tab) [(0, .v), (2, .v), (3, .v), (4, .v), (8, .v), (13, .v), (14, .v), (18, .v), (23, .v)] [(1, []), (5, []), (13, []), (29, []), (45, []), (109, []), (13, []), (141, []), (13, []), (2, []), (269, []), (2, []), (13, []), (2, [])] Try.f51 ⟨[.v], [.v], []⟩ = some ir_spec_IsDyck := by kernel_rfl
instance : Has K 64 ir_spec_IsDyck := ⟨fun _ _ hb => KS.of_body tabOk mixed (r := ⟨64, 51, ⟨[.v], [.v], []⟩⟩) rfl t64 Try.func51 hb⟩
theorem t65 : trF (cfOf Try.prog tab 11 []) (sgOf tab) [(0, .v), (2, .v)] [(1, []), (2, [])] Try.f52 ⟨[.v], [.v], []⟩ = some ir_impl_areSteps := by kernel_rfl
instance : Has K 65 ir_impl_areSteps := ⟨fun _ _ hb => KS.of_body tabOk mixed (r := ⟨65, 52, ⟨[.v], [.v], []⟩⟩) rfl t65 Try.func52 hb⟩
theorem t66 : trF (cfOf Try.prog tab 21 []) (sgOf tab) [(0, .v), (1, .v), (4, .v), (5, .v), (6, .v), (10, .v), (17, .v)] [(3, []), (11, []), (27, []), (59, []), (91, []), (27, []), (27, []), (4, [])] Try.f53 ⟨[.v, .v], [.v], []⟩ = some ir_impl_count := by kernel_rfl
instance : Has K 66 ir_impl_count := ⟨fun _ _ hb => KS.of_body tabOk mixed (r := ⟨66, 53, ⟨[.v, .v], [.v], []⟩⟩) rfl t66 Try.func53 hb⟩
theorem t67 : trF (cfOf Try.prog tab 14 []) (sgOf tab) [(0, .v), (2, .v), (4, .v), (7, .v)] [(1, []), (9, []), (2, []), (4, []), (2, [])] Try.f54 ⟨[.v], [.v], []⟩ = some ir_impl_IsDyck := by kernel_rfl
instance : Has K 67 ir_impl_IsDyck := ⟨fun _ _ hb => KS.of_body tabOk mixed (r := ⟨67, 54, ⟨[.v], [.v], []⟩⟩) rfl t67 Try.func54 hb⟩
theorem t82 : trF (cfOf Try.prog tab 34 []) (sgOf tab) [(0, .v), (2, (.o .v)), (3, .v), (4, (.o .v)), (5, .v), (6, .v), (11, .v), (16, .v), (17, .v), (21, .v), (26, .v)] [(1, [1, 0]), (9, [1, 0]), (25, []), (57, []), (121, []), (185, []), (441, []), (57, []), (569, []), (57, []), (6, [1, 0]), (1081, []), (6, [1, 0]), (57, []), (57, []), (6, [])] Try.f71 ⟨[.v], [(.o .v), .v], []⟩ = some ir_impl_heights := by kernel_rfl
instance : Has K 82 ir_impl_heights := ⟨fun _ _ hb => KS.of_body tabOk mixed (r := ⟨82, 71, ⟨[.v], [(.o .v), .v], []⟩⟩) rfl t82 Try.func71 hb⟩
end Go.Proofs.Ytddhlibpgnnanaa.fnExactIsBad
