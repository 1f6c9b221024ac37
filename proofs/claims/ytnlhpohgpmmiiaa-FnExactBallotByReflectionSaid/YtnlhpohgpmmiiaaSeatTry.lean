import Derived.Test.YtnlhpohgpmmiiaaIrA
import Derived.Test.YtnlhpohgpmmiiaaRows
import Derived.Test.YtnlhpohgpmmiiaaCatHas
namespace Go.Proofs.Ytnlhpohgpmmiiaa.Cat
open Go Go.Cat Go.Proofs
set_option maxRecDepth 100000
def tab : List Row := [⟨1, 3, ⟨[.v], [.v]⟩⟩,
  ⟨2, 4, ⟨[.v, .v], [.v]⟩⟩,
  ⟨3, 5, ⟨[.v, .v], [.v]⟩⟩,
  ⟨4, 6, ⟨[], [.v]⟩⟩,
  ⟨5, 7, ⟨[.v, .v], [.v]⟩⟩,
  ⟨6, 8, ⟨[.v], [.v]⟩⟩,
  ⟨7, 9, ⟨[.v], [.v]⟩⟩,
  ⟨8, 10, ⟨[.v], [.v]⟩⟩,
  ⟨9, 11, ⟨[.v, .v], [.v]⟩⟩,
  ⟨10, 12, ⟨[.v, .v], [.v]⟩⟩,
  ⟨11, 13, ⟨[.v, .v], [.v]⟩⟩,
  ⟨12, 14, ⟨[.v, .v], [.v]⟩⟩,
  ⟨13, 15, ⟨[], [(.o .v)]⟩⟩,
  ⟨14, 16, ⟨[], [(.o .v)]⟩⟩,
  ⟨15, 17, ⟨[.y, .y], [.v]⟩⟩,
  ⟨16, 18, ⟨[.y, .v], [.v]⟩⟩,
  ⟨17, 19, ⟨[.y, .v], [.v]⟩⟩,
  ⟨18, 20, ⟨[.v, .v], [.v]⟩⟩,
  ⟨19, 21, ⟨[.v, .v], [.v]⟩⟩,
  ⟨20, 22, ⟨[.v], [.v]⟩⟩,
  ⟨21, 23, ⟨[.v], [.v]⟩⟩,
  ⟨22, 24, ⟨[.v, .v, .v], [.v]⟩⟩,
  ⟨23, 25, ⟨[.v, .v, .v], [.v]⟩⟩,
  ⟨24, 26, ⟨[.v, .v], [.v]⟩⟩,
  ⟨25, 27, ⟨[.v, .v], [.v]⟩⟩,
  ⟨26, 28, ⟨[.v], [.v]⟩⟩,
  ⟨27, 29, ⟨[.v, .v], [.v]⟩⟩,
  ⟨28, 30, ⟨[.v], [.v]⟩⟩]
theorem tabOk : tabOK Try.prog tab = true := by kernel_rfl
theorem mixed : Try.prog.follows .mixedOrders = true := Try.checked.mixed
abbrev K := KS Try.prog tab
theorem t1 : trF (cfOf Try.prog tab 12) (sgOf tab) [(0, .v), (2, .v), (3, .v), (4, .v), (11, .v)] [(1, []), (5, []), (12, []), (16, []), (2, []), (2, [])] Try.f3 ⟨[.v], [.v]⟩ = some ir_laws_FnExactClaimWord := by kernel_rfl
instance : Has K 1 ir_laws_FnExactClaimWord := ⟨fun _ _ hb => KS.of_body tabOk mixed (r := ⟨1, 3, ⟨[.v], [.v]⟩⟩) rfl t1 Try.func3 hb⟩
theorem t2 : trF (cfOf Try.prog tab 16) (sgOf tab) [(0, .v), (1, .v), (4, .v), (5, .v), (6, .v), (15, .v)] [(3, []), (11, []), (24, []), (32, []), (4, []), (4, [])] Try.f4 ⟨[.v, .v], [.v]⟩ = some ir_laws_FnExactCountWords := by kernel_rfl
instance : Has K 2 ir_laws_FnExactCountWords := ⟨fun _ _ hb => KS.of_body tabOk mixed (r := ⟨2, 4, ⟨[.v, .v], [.v]⟩⟩) rfl t2 Try.func4 hb⟩
theorem t3 : trF (cfOf Try.prog tab 16) (sgOf tab) [(0, .v), (1, .v), (4, .v), (5, .v), (6, .v), (15, .v)] [(3, []), (11, []), (24, []), (32, []), (4, []), (4, [])] Try.f5 ⟨[.v, .v], [.v]⟩ = some ir_laws_FnExactCountWithin := by kernel_rfl
instance : Has K 3 ir_laws_FnExactCountWithin := ⟨fun _ _ hb => KS.of_body tabOk mixed (r := ⟨3, 5, ⟨[.v, .v], [.v]⟩⟩) rfl t3 Try.func5 hb⟩
theorem t4 : trF (cfOf Try.prog tab 36) (sgOf tab) [(0, .v), (1, .v), (2, .v), (3, .v), (4, .v), (5, .v), (11, .v), (19, .v), (22, .v), (27, .v), (32, .v), (35, .v)] [(0, []), (2, []), (6, []), (70, []), (1, []), (14, []), (14, []), (30, []), (30, []), (158, []), (1, []), (270, []), (1, []), (46, []), (524, []), (1, []), (28, []), (24, []), (1048, []), (1, []), (2048, []), (1, []), (1, [])] Try.f6 ⟨[], [.v]⟩ = some ir_laws_FnExactKindNames := by kernel_rfl
instance : Has K 4 ir_laws_FnExactKindNames := ⟨fun _ _ hb => KS.of_body tabOk mixed (r := ⟨4, 6, ⟨[], [.v]⟩⟩) rfl t4 Try.func6 hb⟩
theorem t5 : trF (cfOf Try.prog tab 16) (sgOf tab) [(0, .v), (1, .v), (4, .v), (5, .v), (6, .v), (15, .v)] [(3, []), (11, []), (24, []), (32, []), (4, []), (4, [])] Try.f7 ⟨[.v, .v], [.v]⟩ = some ir_laws_FnExactBallotByReflection := by kernel_rfl
instance : Has K 5 ir_laws_FnExactBallotByReflection := ⟨fun _ _ hb => KS.of_body tabOk mixed (r := ⟨5, 7, ⟨[.v, .v], [.v]⟩⟩) rfl t5 Try.func7 hb⟩
theorem t6 : trF (cfOf Try.prog tab 12) (sgOf tab) [(0, .v), (2, .v), (3, .v), (4, .v), (11, .v)] [(1, []), (5, []), (12, []), (16, []), (2, []), (2, [])] Try.f8 ⟨[.v], [.v]⟩ = some ir_laws_FnExactCountBad := by kernel_rfl
instance : Has K 6 ir_laws_FnExactCountBad := ⟨fun _ _ hb => KS.of_body tabOk mixed (r := ⟨6, 8, ⟨[.v], [.v]⟩⟩) rfl t6 Try.func8 hb⟩
theorem t7 : trF (cfOf Try.prog tab 11) (sgOf tab) [(0, .v), (2, .v), (5, .v)] [(1, []), (5, []), (2, []), (2, [])] Try.f9 ⟨[.v], [.v]⟩ = some ir_spec_ClaimWord := by kernel_rfl
instance : Has K 7 ir_spec_ClaimWord := ⟨fun _ _ hb => KS.of_body tabOk mixed (r := ⟨7, 9, ⟨[.v], [.v]⟩⟩) rfl t7 Try.func9 hb⟩
theorem t8 : trF (cfOf Try.prog tab 11) (sgOf tab) [(0, .v), (2, .v), (5, .v)] [(1, []), (5, []), (2, []), (2, [])] Try.f10 ⟨[.v], [.v]⟩ = some ir_impl_ClaimWord := by kernel_rfl
instance : Has K 8 ir_impl_ClaimWord := ⟨fun _ _ hb => KS.of_body tabOk mixed (r := ⟨8, 10, ⟨[.v], [.v]⟩⟩) rfl t8 Try.func10 hb⟩
theorem t9 : trF (cfOf Try.prog tab 18) (sgOf tab) [(0, .v), (1, .v), (4, .v), (12, .v)] [(3, []), (11, []), (4, []), (4, [])] Try.f11 ⟨[.v, .v], [.v]⟩ = some ir_spec_CountWords := by kernel_rfl
instance : Has K 9 ir_spec_CountWords := ⟨fun _ _ hb => KS.of_body tabOk mixed (r := ⟨9, 11, ⟨[.v, .v], [.v]⟩⟩) rfl t9 Try.func11 hb⟩
theorem t10 : trF (cfOf Try.prog tab 18) (sgOf tab) [(0, .v), (1, .v), (4, .v), (12, .v)] [(3, []), (11, []), (4, []), (4, [])] Try.f12 ⟨[.v, .v], [.v]⟩ = some ir_impl_CountWords := by kernel_rfl
instance : Has K 10 ir_impl_CountWords := ⟨fun _ _ hb => KS.of_body tabOk mixed (r := ⟨10, 12, ⟨[.v, .v], [.v]⟩⟩) rfl t10 Try.func12 hb⟩
theorem t11 : trF (cfOf Try.prog tab 60) (sgOf tab) [(0, .v), (1, .v), (4, .v), (5, .v), (6, .v), (7, .v), (8, .v), (16, .v), (23, .v), (42, .v), (52, .v)] [(3, []), (131, []), (4, []), (11, []), (27, []), (283, []), (59, []), (123, []), (635, []), (91, []), (1115, []), (27, []), (27, []), (4, [])] Try.f13 ⟨[.v, .v], [.v]⟩ = some ir_spec_CountWithin := by kernel_rfl
instance : Has K 11 ir_spec_CountWithin := ⟨fun _ _ hb => KS.of_body tabOk mixed (r := ⟨11, 13, ⟨[.v, .v], [.v]⟩⟩) rfl t11 Try.func13 hb⟩
theorem t12 : trF (cfOf Try.prog tab 61) (sgOf tab) [(0, .v), (1, .v), (4, .v), (5, (.o .v)), (6, (.o .v)), (7, .v), (15, .v), (22, .v), (23, .v), (24, .v), (30, .v), (42, .v)] [(3, []), (67, []), (4, []), (11, [0, 0, 1, 0]), (11, []), (394, []), (906, []), (410, [0, 0, 1, 0]), (442, []), (1466, []), (442, []), (2490, []), (442, []), (442, []), (394, []), (394, []), (4, [])] Try.f14 ⟨[.v, .v], [.v]⟩ = some ir_impl_CountWithin := by kernel_rfl
instance : Has K 12 ir_impl_CountWithin := ⟨fun _ _ hb => KS.of_body tabOk mixed (r := ⟨12, 14, ⟨[.v, .v], [.v]⟩⟩) rfl t12 Try.func14 hb⟩
theorem t13 : trF (cfOf Try.prog tab 2) (sgOf tab) [(0, (.o .v))] [(0, [1]), (1, [1, 0])] Try.f15 ⟨[], [(.o .v)]⟩ = some ir_spec_KindNames := by kernel_rfl
instance : Has K 13 ir_spec_KindNames := ⟨fun _ _ hb => KS.of_body tabOk mixed (r := ⟨13, 15, ⟨[], [(.o .v)]⟩⟩) rfl t13 Try.func15 hb⟩
theorem t14 : trF (cfOf Try.prog tab 2) (sgOf tab) [(0, (.o .v))] [(0, [1]), (1, [1, 0])] Try.f16 ⟨[], [(.o .v)]⟩ = some ir_impl_KindNames := by kernel_rfl
instance : Has K 14 ir_impl_KindNames := ⟨fun _ _ hb => KS.of_body tabOk mixed (r := ⟨14, 16, ⟨[], [(.o .v)]⟩⟩) rfl t14 Try.func16 hb⟩
theorem t15 : trF (cfOf Try.prog tab 26) (sgOf tab) [(0, .y), (1, .y), (4, .v), (5, .v), (10, .v), (14, .v), (25, .v)] [(3, []), (19, []), (4, []), (11, []), (43, []), (75, []), (4, []), (11, []), (4, [])] Try.f17 ⟨[.y, .y], [.v]⟩ = some ir_laws_eqStringS := by kernel_rfl
instance : Has K 15 ir_laws_eqStringS := ⟨fun _ _ hb => KS.of_body tabOk mixed (r := ⟨15, 17, ⟨[.y, .y], [.v]⟩⟩) rfl t15 Try.func17 hb⟩
theorem t17 : trF (cfOf Try.prog tab 22) (sgOf tab) [(0, .y), (1, .v), (4, .v), (5, .v), (9, .v), (18, .v)] [(3, []), (11, []), (27, []), (43, []), (4, []), (11, []), (11, []), (4, [])] Try.f19 ⟨[.y, .v], [.v]⟩ = some ir_laws_heldStringS := by kernel_rfl
instance : Has K 17 ir_laws_heldStringS := ⟨fun _ _ hb => KS.of_body tabOk mixed (r := ⟨17, 19, ⟨[.y, .v], [.v]⟩⟩) rfl t17 Try.func19 hb⟩
theorem t18 : trF (cfOf Try.prog tab 25) (sgOf tab) [(0, .v), (1, .v), (4, .v), (13, .v), (15, .v)] [(3, []), (11, []), (4, []), (19, []), (4, []), (4, [])] Try.f20 ⟨[.v, .v], [.v]⟩ = some ir_spec_BallotByReflection := by kernel_rfl
instance : Has K 18 ir_spec_BallotByReflection := ⟨fun _ _ hb => KS.of_body tabOk mixed (r := ⟨18, 20, ⟨[.v, .v], [.v]⟩⟩) rfl t18 Try.func20 hb⟩
theorem t19 : trF (cfOf Try.prog tab 17) (sgOf tab) [(0, .v), (1, .v), (4, .v), (13, .v)] [(3, []), (11, []), (4, []), (4, [])] Try.f21 ⟨[.v, .v], [.v]⟩ = some ir_impl_BallotByReflection := by kernel_rfl
instance : Has K 19 ir_impl_BallotByReflection := ⟨fun _ _ hb => KS.of_body tabOk mixed (r := ⟨19, 21, ⟨[.v, .v], [.v]⟩⟩) rfl t19 Try.func21 hb⟩
theorem t20 : trF (cfOf Try.prog tab 13) (sgOf tab) [(0, .v), (2, .v), (5, .v), (7, .v)] [(1, []), (5, []), (2, []), (9, []), (2, []), (2, [])] Try.f22 ⟨[.v], [.v]⟩ = some ir_spec_CountBad := by kernel_rfl
instance : Has K 20 ir_spec_CountBad := ⟨fun _ _ hb => KS.of_body tabOk mixed (r := ⟨20, 22, ⟨[.v], [.v]⟩⟩) rfl t20 Try.func22 hb⟩
theorem t21 : trF (cfOf Try.prog tab 12) (sgOf tab) [(0, .v), (2, .v), (5, .v)] [(1, []), (5, []), (2, []), (2, [])] Try.f23 ⟨[.v], [.v]⟩ = some ir_impl_CountBad := by kernel_rfl
instance : Has K 21 ir_impl_CountBad := ⟨fun _ _ hb => KS.of_body tabOk mixed (r := ⟨21, 23, ⟨[.v], [.v]⟩⟩) rfl t21 Try.func23 hb⟩
theorem t22 : trF (cfOf Try.prog tab 15) (sgOf tab) [(0, .v), (1, .v), (2, .v), (6, .v)] [(7, []), (8, [])] Try.f24 ⟨[.v, .v, .v], [.v]⟩ = some ir_spec_l1In := by kernel_rfl
instance : Has K 22 ir_spec_l1In := ⟨fun _ _ hb => KS.of_body tabOk mixed (r := ⟨22, 24, ⟨[.v, .v, .v], [.v]⟩⟩) rfl t22 Try.func24 hb⟩
theorem t23 : trF (cfOf Try.prog tab 15) (sgOf tab) [(0, .v), (1, .v), (2, .v), (6, .v)] [(7, []), (8, [])] Try.f25 ⟨[.v, .v, .v], [.v]⟩ = some ir_impl_within := by kernel_rfl
instance : Has K 23 ir_impl_within := ⟨fun _ _ hb => KS.of_body tabOk mixed (r := ⟨23, 25, ⟨[.v, .v, .v], [.v]⟩⟩) rfl t23 Try.func25 hb⟩
theorem t24 : trF (cfOf Try.prog tab 21) (sgOf tab) [(0, .v), (1, .v), (4, .v), (5, .v), (6, .v), (9, .v)] [(3, []), (11, []), (27, []), (59, []), (27, []), (27, []), (4, [])] Try.f26 ⟨[.v, .v], [.v]⟩ = some ir_spec_l3Binomial := by kernel_rfl
instance : Has K 24 ir_spec_l3Binomial := ⟨fun _ _ hb => KS.of_body tabOk mixed (r := ⟨24, 26, ⟨[.v, .v], [.v]⟩⟩) rfl t24 Try.func26 hb⟩
theorem t25 : trF (cfOf Try.prog tab 29) (sgOf tab) [(0, .v), (1, .v), (4, .v), (5, .v), (6, .v), (13, .v), (16, .v)] [(3, []), (35, []), (4, []), (11, []), (27, []), (91, []), (27, []), (27, []), (4, [])] Try.f27 ⟨[.v, .v], [.v]⟩ = some ir_impl_choose := by kernel_rfl
instance : Has K 25 ir_impl_choose := ⟨fun _ _ hb => KS.of_body tabOk mixed (r := ⟨25, 27, ⟨[.v, .v], [.v]⟩⟩) rfl t25 Try.func27 hb⟩
theorem t26 : trF (cfOf Try.prog tab 20) (sgOf tab) [(0, .v), (2, .v), (3, .v), (5, .v), (7, .v)] [(1, []), (9, []), (2, []), (5, []), (21, []), (5, []), (5, []), (2, [])] Try.f28 ⟨[.v], [.v]⟩ = some ir_laws_markText := by kernel_rfl
instance : Has K 26 ir_laws_markText := ⟨fun _ _ hb => KS.of_body tabOk mixed (r := ⟨26, 28, ⟨[.v], [.v]⟩⟩) rfl t26 Try.func28 hb⟩
theorem t27 : trF (cfOf Try.prog tab 73) (sgOf tab) [(0, .v), (1, .v), (4, .v), (5, (.o .v)), (6, .v), (7, .v), (8, (.o .v)), (9, .v), (18, .v), (23, .v), (24, .v), (25, .v), (33, .v), (42, .v), (54, .v)] [(3, []), (259, []), (4, []), (11, [0, 0, 1, 0]), (1547, []), (3595, []), (1563, []), (1547, []), (1547, []), (43, []), (4139, []), (107, [0, 0, 1, 0]), (235, []), (8427, []), (235, []), (16619, []), (235, []), (235, []), (43, []), (43, []), (4, [])] Try.f29 ⟨[.v, .v], [.v]⟩ = some ir_impl_BallotNumber := by kernel_rfl
instance : Has K 27 ir_impl_BallotNumber := ⟨fun _ _ hb => KS.of_body tabOk mixed (r := ⟨27, 29, ⟨[.v, .v], [.v]⟩⟩) rfl t27 Try.func29 hb⟩
theorem t28 : trF (cfOf Try.prog tab 9) (sgOf tab) [(0, .v), (2, .v), (5, .v)] [(1, []), (5, []), (2, []), (2, [])] Try.f30 ⟨[.v], [.v]⟩ = some ir_impl_CatalanNumber := by kernel_rfl
instance : Has K 28 ir_impl_CatalanNumber := ⟨fun _ _ hb => KS.of_body tabOk mixed (r := ⟨28, 30, ⟨[.v], [.v]⟩⟩) rfl t28 Try.func30 hb⟩
end Go.Proofs.Ytnlhpohgpmmiiaa.Cat
