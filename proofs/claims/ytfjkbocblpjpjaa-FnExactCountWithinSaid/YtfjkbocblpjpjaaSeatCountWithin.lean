/-
  Texts of the little language.
-/
import Derived.Test.YtfjkbocblpjpjaaIrAllA
import Derived.Test.YtfjkbocblpjpjaaRows
import Derived.Test.YtfjkbocblpjpjaaCatThree
namespace Go.Proofs.Ytfjkbocblpjpjaa.fnExactCountWithin
open Go Go.Cat Go.Proofs
set_option maxRecDepth 100000
def tab : List Row := [⟨3, 3, ⟨[.v, .v], [.v], []⟩⟩,
  ⟨11, 10, ⟨[.v, .v], [.v], []⟩⟩,
  ⟨12, 11, ⟨[.v, .v], [.v], []⟩⟩,
  ⟨22, 132, ⟨[.v, .v, .v], [.v], []⟩⟩,
  ⟨23, 134, ⟨[.v, .v, .v], [.v], []⟩⟩,
  ⟨24, 133, ⟨[.v, .v], [.v], []⟩⟩]
theorem tabOk : tabOK Try.prog tab = true := by kernel_rfl
theorem mixed : Try.prog.follows .mixedOrders = true := Try.checked.mixed
abbrev K := KS Try.prog tab
theorem t3 : trF (cfOf Try.prog tab 16 []) (sgOf tab) [(0, .v), (1, .v), (4, .v), (5, .v), (6, .v), (15, .v)] [(3, []), (11, []), (24, []), (32, []), (4, []), (4, [])] Try.f3 ⟨[.v, .v], [.v], []⟩ = some ir_laws_FnExactCountWithin := by kernel_rfl
instance : Has K 3 ir_laws_FnExactCountWithin := ⟨fun _ _ hb => KS.of_body tabOk mixed (r := ⟨3, 3, ⟨[.v, .v], [.v], []⟩⟩) rfl t3 Try.func3 hb⟩
theorem t11 : trF (cfOf Try.prog tab 60 []) (sgOf tab) [(0, .v), (1, .v), (4, .v), (5, .v), (6, .v), (7, .v), (8, .v), (16, .v), (23, .v), (42, .v), (52, .v)] [(3, []), (131, []), (4, []), (11, []), (27, []), (283, []), (59, []), (123, []), (635, []), (91, []), (1115, []), (27, []), (27, []), (4, [])] Try.f10 ⟨[.v, .v], [.v], []⟩ = some ir_spec_CountWithin := by kernel_rfl
instance : Has K 11 ir_spec_CountWithin := ⟨fun _ _ hb => KS.of_body tabOk mixed (r := ⟨11, 10, ⟨[.v, .v], [.v], []⟩⟩) rfl t11 Try.func10 hb⟩
theorem t12 : trF (cfOf Try.prog tab 61 []) (sgOf tab) [(0, .v), (1, .v), (4, .v), (5, (.o .v)), (6, (.o .v)), (7, .v), (15, .v), (22, .v), (23, .v), (24, .v), (30, .v), (42, .v)] [(3, []), (67, []), (4, []), (11, [0, 0, 1, 0]), (11, []), (394, []), (906, []), (410, [0, 0, 1, 0]), (442, []), (1466, []), (442, []), (2490, []), (442, []), (442, []), (394, []), (394, []), (4, [])] Try.f11 ⟨[.v, .v], [.v], []⟩ = some ir_impl_CountWithin := by kernel_rfl
instance : Has K 12 ir_impl_CountWithin := ⟨fun _ _ hb => KS.of_body tabOk mixed (r := ⟨12, 11, ⟨[.v, .v], [.v], []⟩⟩) rfl t12 Try.func11 hb⟩
theorem t22 : trF (cfOf Try.prog tab 15 []) (sgOf tab) [(0, .v), (1, .v), (2, .v), (6, .v)] [(7, []), (8, [])] Try.f132 ⟨[.v, .v, .v], [.v], []⟩ = some ir_spec_l1In := by kernel_rfl
instance : Has K 22 ir_spec_l1In := ⟨fun _ _ hb => KS.of_body tabOk mixed (r := ⟨22, 132, ⟨[.v, .v, .v], [.v], []⟩⟩) rfl t22 Try.func132 hb⟩
theorem t23 : trF (cfOf Try.prog tab 15 []) (sgOf tab) [(0, .v), (1, .v), (2, .v), (6, .v)] [(7, []), (8, [])] Try.f134 ⟨[.v, .v, .v], [.v], []⟩ = some ir_impl_within := by kernel_rfl
instance : Has K 23 ir_impl_within := ⟨fun _ _ hb => KS.of_body tabOk mixed (r := ⟨23, 134, ⟨[.v, .v, .v], [.v], []⟩⟩) rfl t23 Try.func134 hb⟩
theorem t24 : trF (cfOf Try.prog tab 21 []) (sgOf tab) [(0, .v), (1, .v), (4, .v), (5, .v), (6, .v), (9, .v)] [(3, []), (11, []), (27, []), (59, []), (27, []), (27, []), (4, [])] Try.f133 ⟨[.v, .v], [.v], []⟩ = some ir_spec_l3Binomial := by kernel_rfl
instance : Has K 24 ir_spec_l3Binomial := ⟨fun _ _ hb => KS.of_body tabOk mixed (r := ⟨24, 133, ⟨[.v, .v], [.v], []⟩⟩) rfl t24 Try.func133 hb⟩
end Go.Proofs.Ytfjkbocblpjpjaa.fnExactCountWithin

