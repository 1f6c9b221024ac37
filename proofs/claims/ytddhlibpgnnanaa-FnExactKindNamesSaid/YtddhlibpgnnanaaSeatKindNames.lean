import Derived.Test.YtddhlibpgnnanaaIrH
import Derived.Test.YtddhlibpgnnanaaIrI32
import Derived.Test.YtddhlibpgnnanaaIrLFnExactKindNames
import Derived.Test.YtddhlibpgnnanaaIrS32
import Derived.Test.YtddhlibpgnnanaaRows
import Derived.Test.YtddhlibpgnnanaaCatHas
namespace Go.Proofs.Ytddhlibpgnnanaa.fnExactKindNames
open Go Go.Cat Go.Proofs
set_option maxRecDepth 100000
def tab : List Row := [⟨4, 4, ⟨[], [.v], []⟩⟩,
  ⟨13, 17, ⟨[], [(.o .v)], []⟩⟩,
  ⟨14, 18, ⟨[], [(.o .v)], []⟩⟩,
  ⟨15, 19, ⟨[.y, .y], [.v], []⟩⟩,
  ⟨16, 20, ⟨[(.o .v), .v], [.v], [0]⟩⟩,
  ⟨17, 21, ⟨[.y, .v], [.v], []⟩⟩,
  ⟨26, 49, ⟨[.v], [.v], []⟩⟩]
theorem tabOk : tabOK Try.prog tab = true := by kernel_rfl
theorem mixed : Try.prog.follows .mixedOrders = true := Try.checked.mixed
abbrev K := KS Try.prog tab
theorem t4 : trF (cfOf Try.prog tab 36 []) (sgOf tab) [(0, .v), (1, .v), (2, (.o .v)), (3, .v), (4, .v), (5, .v), (11, .v), (19, .v), (22, .v), (27, .v), (32, .v), (35, .v)] [(0, []), (2, []), (6, []), (70, []), (1, []), (14, []), (14, []), (30, []), (30, []), (158, []), (1, []), (270, []), (1, []), (46, []), (524, []), (1, []), (28, []), (24, []), (1048, []), (1, []), (2048, []), (1, []), (1, [])] Try.f4 ⟨[], [.v], []⟩ = some ir_laws_FnExactKindNames := by kernel_rfl
instance : Has K 4 ir_laws_FnExactKindNames := ⟨fun _ _ hb => KS.of_body tabOk mixed (r := ⟨4, 4, ⟨[], [.v], []⟩⟩) rfl t4 Try.func4 hb⟩
theorem t13 : trF (cfOf Try.prog tab 2 []) (sgOf tab) [(0, (.o .v))] [(0, [1]), (1, [1, 0])] Try.f17 ⟨[], [(.o .v)], []⟩ = some ir_spec_KindNames := by kernel_rfl
instance : Has K 13 ir_spec_KindNames := ⟨fun _ _ hb => KS.of_body tabOk mixed (r := ⟨13, 17, ⟨[], [(.o .v)], []⟩⟩) rfl t13 Try.func17 hb⟩
theorem t14 : trF (cfOf Try.prog tab 2 []) (sgOf tab) [(0, (.o .v))] [(0, [1]), (1, [1, 0])] Try.f18 ⟨[], [(.o .v)], []⟩ = some ir_impl_KindNames := by kernel_rfl
instance : Has K 14 ir_impl_KindNames := ⟨fun _ _ hb => KS.of_body tabOk mixed (r := ⟨14, 18, ⟨[], [(.o .v)], []⟩⟩) rfl t14 Try.func18 hb⟩
theorem t15 : trF (cfOf Try.prog tab 26 []) (sgOf tab) [(0, .y), (1, .y), (4, .v), (5, .v), (10, .v), (14, .v), (25, .v)] [(3, []), (19, []), (4, []), (11, []), (43, []), (75, []), (4, []), (11, []), (4, [])] Try.f19 ⟨[.y, .y], [.v], []⟩ = some ir_laws_eqStringS := by kernel_rfl
instance : Has K 15 ir_laws_eqStringS := ⟨fun _ _ hb => KS.of_body tabOk mixed (r := ⟨15, 19, ⟨[.y, .y], [.v], []⟩⟩) rfl t15 Try.func19 hb⟩
theorem t16 : trF (cfOf Try.prog tab 20 [0]) (sgOf tab) [(0, (.o .v)), (1, .v), (4, .v), (5, .v), (9, .v)] [(3, []), (11, []), (27, []), (11, []), (11, []), (11, []), (5, [])] Try.f20 ⟨[(.o .v), .v], [.v], [0]⟩ = some ir_laws_markStringS := by kernel_rfl
instance : Has K 16 ir_laws_markStringS := ⟨fun _ _ hb => KS.of_body tabOk mixed (r := ⟨16, 20, ⟨[(.o .v), .v], [.v], [0]⟩⟩) rfl t16 Try.func20 hb⟩
theorem t17 : trF (cfOf Try.prog tab 22 []) (sgOf tab) [(0, .y), (1, .v), (4, .v), (5, .v), (9, .v), (18, .v)] [(3, []), (11, []), (27, []), (43, []), (4, []), (11, []), (11, []), (4, [])] Try.f21 ⟨[.y, .v], [.v], []⟩ = some ir_laws_heldStringS := by kernel_rfl
instance : Has K 17 ir_laws_heldStringS := ⟨fun _ _ hb => KS.of_body tabOk mixed (r := ⟨17, 21, ⟨[.y, .v], [.v], []⟩⟩) rfl t17 Try.func21 hb⟩
theorem t26 : trF (cfOf Try.prog tab 20 []) (sgOf tab) [(0, .v), (2, .v), (3, .v), (5, .v), (7, .v)] [(1, []), (9, []), (2, []), (5, []), (21, []), (5, []), (5, []), (2, [])] Try.f49 ⟨[.v], [.v], []⟩ = some ir_laws_markText := by kernel_rfl
instance : Has K 26 ir_laws_markText := ⟨fun _ _ hb => KS.of_body tabOk mixed (r := ⟨26, 49, ⟨[.v], [.v], []⟩⟩) rfl t26 Try.func49 hb⟩
end Go.Proofs.Ytddhlibpgnnanaa.fnExactKindNames
