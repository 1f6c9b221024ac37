import Derived.Test.YtddhlibpgnnanaaIrI04
import Derived.Test.YtddhlibpgnnanaaIrI25
import Derived.Test.YtddhlibpgnnanaaIrI28
import Derived.Test.YtddhlibpgnnanaaIrI29
import Derived.Test.YtddhlibpgnnanaaIrLFnExactUnreflectWord
import Derived.Test.YtddhlibpgnnanaaIrS29
import Derived.Test.YtddhlibpgnnanaaRows
import Derived.Test.YtddhlibpgnnanaaCatHas
namespace Go.Proofs.Ytddhlibpgnnanaa.fnExactUnreflectWord
open Go Go.Cat Go.Proofs
set_option maxRecDepth 100000
def tab : List Row := [⟨34, 10, ⟨[.v], [.v], []⟩⟩,
  ⟨53, 36, ⟨[.v], [.v, .v], []⟩⟩,
  ⟨54, 37, ⟨[.v], [.v, .v], []⟩⟩,
  ⟨63, 50, ⟨[.v], [.v, .v, .v], []⟩⟩,
  ⟨65, 52, ⟨[.v], [.v], []⟩⟩,
  ⟨66, 53, ⟨[.v, .v], [.v], []⟩⟩,
  ⟨76, 63, ⟨[.v, .v], [.v], []⟩⟩,
  ⟨77, 64, ⟨[.v], [.v], []⟩⟩,
  ⟨83, 72, ⟨[.v, .v, .v], [.v, .v], []⟩⟩]
theorem tabOk : tabOK Try.prog tab = true := by kernel_rfl
theorem mixed : Try.prog.follows .mixedOrders = true := Try.checked.mixed
abbrev K := KS Try.prog tab
theorem t34 : trF (cfOf Try.prog tab 28 []) (sgOf tab) [(0, .v), (2, .v), (3, .v), (4, .v), (5, .v), (6, .v), (9, .v), (27, .v)] [(1, []), (65, []), (2, []), (13, []), (60, []), (128, []), (2, []), (2, [])] Try.f10 ⟨[.v], [.v], []⟩ = some ir_laws_FnExactUnreflectWord := by kernel_rfl
instance : Has K 34 ir_laws_FnExactUnreflectWord := ⟨fun _ _ hb => KS.of_body tabOk mixed (r := ⟨34, 10, ⟨[.v], [.v], []⟩⟩) rfl t34 Try.func10 hb⟩
theorem t53 : trF (cfOf Try.prog tab 23 []) (sgOf tab) [(0, .v), (2, .v), (3, .v), (4, .v), (5, .v), (6, .v), (20, .v)] [(1, []), (57, []), (65, []), (6, []), (6, [])] Try.f36 ⟨[.v], [.v, .v], []⟩ = some ir_spec_UnreflectWord := by kernel_rfl
instance : Has K 53 ir_spec_UnreflectWord := ⟨fun _ _ hb => KS.of_body tabOk mixed (r := ⟨53, 36, ⟨[.v], [.v, .v], []⟩⟩) rfl t53 Try.func36 hb⟩
theorem t54 : trF (cfOf Try.prog tab 22 []) (sgOf tab) [(0, .v), (2, .v), (3, .v), (19, .v)] [(1, []), (9, []), (6, []), (6, [])] Try.f37 ⟨[.v], [.v, .v], []⟩ = some ir_impl_UnreflectWord := by kernel_rfl
instance : Has K 54 ir_impl_UnreflectWord := ⟨fun _ _ hb => KS.of_body tabOk mixed (r := ⟨54, 37, ⟨[.v], [.v, .v], []⟩⟩) rfl t54 Try.func37 hb⟩
theorem t63 : trF (cfOf Try.prog tab 30 []) (sgOf tab) [(0, .v), (2, .v), (3, .v), (4, .v), (5, .v), (6, .v), (7, .v), (11, .v), (16, .v), (17, .v), (21, .v)] [(1, []), (17, []), (49, []), (113, []), (241, []), (369, []), (881, []), (113, []), (1137, []), (113, []), (14, []), (113, []), (14, [])] Try.f50 ⟨[.v], [.v, .v, .v], []⟩ = some ir_spec_l29Word := by kernel_rfl
instance : Has K 63 ir_spec_l29Word := ⟨fun _ _ hb => KS.of_body tabOk mixed (r := ⟨63, 50, ⟨[.v], [.v, .v, .v], []⟩⟩) rfl t63 Try.func50 hb⟩
theorem t65 : trF (cfOf Try.prog tab 11 []) (sgOf tab) [(0, .v), (2, .v)] [(1, []), (2, [])] Try.f52 ⟨[.v], [.v], []⟩ = some ir_impl_areSteps := by kernel_rfl
instance : Has K 65 ir_impl_areSteps := ⟨fun _ _ hb => KS.of_body tabOk mixed (r := ⟨65, 52, ⟨[.v], [.v], []⟩⟩) rfl t65 Try.func52 hb⟩
theorem t66 : trF (cfOf Try.prog tab 21 []) (sgOf tab) [(0, .v), (1, .v), (4, .v), (5, .v), (6, .v), (10, .v), (17, .v)] [(3, []), (11, []), (27, []), (59, []), (91, []), (27, []), (27, []), (4, [])] Try.f53 ⟨[.v, .v], [.v], []⟩ = some ir_impl_count := by kernel_rfl
instance : Has K 66 ir_impl_count := ⟨fun _ _ hb => KS.of_body tabOk mixed (r := ⟨66, 53, ⟨[.v, .v], [.v], []⟩⟩) rfl t66 Try.func53 hb⟩
theorem t76 : trF (cfOf Try.prog tab 43 []) (sgOf tab) [(0, .v), (1, .v), (4, .v), (5, .v), (6, .v), (7, .v), (8, .v), (12, .v), (15, .v), (19, .v), (34, .v)] [(3, []), (11, []), (27, []), (59, []), (123, []), (251, []), (379, []), (635, []), (123, []), (123, []), (91, []), (1115, []), (91, []), (91, []), (123, []), (123, []), (4, [])] Try.f63 ⟨[.v, .v], [.v], []⟩ = some ir_spec_l29Flip := by kernel_rfl
instance : Has K 76 ir_spec_l29Flip := ⟨fun _ _ hb => KS.of_body tabOk mixed (r := ⟨76, 63, ⟨[.v, .v], [.v], []⟩⟩) rfl t76 Try.func63 hb⟩
theorem t77 : trF (cfOf Try.prog tab 38 []) (sgOf tab) [(0, .v), (2, .v), (3, .v), (4, .v), (5, .v), (10, .v), (16, .v), (22, .v)] [(1, []), (5, []), (13, []), (45, []), (77, []), (13, []), (13, []), (141, []), (25, []), (2, []), (13, []), (2, [])] Try.f64 ⟨[.v], [.v], []⟩ = some ir_impl_reflected := by kernel_rfl
instance : Has K 77 ir_impl_reflected := ⟨fun _ _ hb => KS.of_body tabOk mixed (r := ⟨77, 64, ⟨[.v], [.v], []⟩⟩) rfl t77 Try.func64 hb⟩
theorem t83 : trF (cfOf Try.prog tab 40 []) (sgOf tab) [(0, .v), (1, .v), (2, .v), (6, .v), (7, .v), (8, (.o .v)), (9, .v), (14, .v), (19, .v), (20, .v), (29, .v)] [(7, []), (39, [1, 0]), (103, []), (231, []), (359, []), (871, []), (103, []), (1127, []), (103, []), (24, []), (103, []), (24, [])] Try.f72 ⟨[.v, .v, .v], [.v, .v], []⟩ = some ir_impl_exchanged := by kernel_rfl
instance : Has K 83 ir_impl_exchanged := ⟨fun _ _ hb => KS.of_body tabOk mixed (r := ⟨83, 72, ⟨[.v, .v, .v], [.v, .v], []⟩⟩) rfl t83 Try.func72 hb⟩
end Go.Proofs.Ytddhlibpgnnanaa.fnExactUnreflectWord
