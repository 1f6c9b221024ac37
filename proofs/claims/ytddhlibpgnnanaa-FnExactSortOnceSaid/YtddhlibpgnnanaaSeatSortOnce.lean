import Derived.Test.YtddhlibpgnnanaaIrGo
import Derived.Test.YtddhlibpgnnanaaIrH
import Derived.Test.YtddhlibpgnnanaaIrI01
import Derived.Test.YtddhlibpgnnanaaIrI10
import Derived.Test.YtddhlibpgnnanaaIrI31
import Derived.Test.YtddhlibpgnnanaaIrLFnExactSortOnce
import Derived.Test.YtddhlibpgnnanaaIrS01
import Derived.Test.YtddhlibpgnnanaaIrS10
import Derived.Test.YtddhlibpgnnanaaIrS31
import Derived.Test.YtddhlibpgnnanaaRows
import Derived.Test.YtddhlibpgnnanaaCatHas
namespace Go.Proofs.Ytddhlibpgnnanaa.fnExactSortOnce
open Go Go.Cat Go.Proofs
set_option maxRecDepth 100000
def tab : List Row := [⟨22, 46, ⟨[.v, .v, .v], [.v], []⟩⟩,
  ⟨23, 48, ⟨[.v, .v, .v], [.v], []⟩⟩,
  ⟨38, 14, ⟨[.y], [.v], []⟩⟩,
  ⟨42, 25, ⟨[.y], [(.o .v)], []⟩⟩,
  ⟨44, 27, ⟨[.y, .y], [.v], []⟩⟩,
  ⟨45, 28, ⟨[(.o .v), .v], [.v], [0]⟩⟩,
  ⟨46, 29, ⟨[.y, .v], [.v], []⟩⟩,
  ⟨61, 44, ⟨[.y], [(.o .v), .v], []⟩⟩,
  ⟨62, 45, ⟨[.y], [(.o .v), .v], []⟩⟩,
  ⟨73, 60, ⟨[.y], [.v], []⟩⟩,
  ⟨74, 61, ⟨[.y], [.v], []⟩⟩,
  ⟨80, 69, ⟨[.y], [(.o .v)], []⟩⟩,
  ⟨81, 70, ⟨[(.o .v)], [], [0]⟩⟩]
theorem tabOk : tabOK Try.prog tab = true := by kernel_rfl
theorem mixed : Try.prog.follows .mixedOrders = true := Try.checked.mixed
abbrev K := KS Try.prog tab
theorem t22 : trF (cfOf Try.prog tab 15 []) (sgOf tab) [(0, .v), (1, .v), (2, .v), (6, .v)] [(7, []), (8, [])] Try.f46 ⟨[.v, .v, .v], [.v], []⟩ = some ir_spec_l1In := by kernel_rfl
instance : Has K 22 ir_spec_l1In := ⟨fun _ _ hb => KS.of_body tabOk mixed (r := ⟨22, 46, ⟨[.v, .v, .v], [.v], []⟩⟩) rfl t22 Try.func46 hb⟩
theorem t23 : trF (cfOf Try.prog tab 15 []) (sgOf tab) [(0, .v), (1, .v), (2, .v), (6, .v)] [(7, []), (8, [])] Try.f48 ⟨[.v, .v, .v], [.v], []⟩ = some ir_impl_within := by kernel_rfl
instance : Has K 23 ir_impl_within := ⟨fun _ _ hb => KS.of_body tabOk mixed (r := ⟨23, 48, ⟨[.v, .v, .v], [.v], []⟩⟩) rfl t23 Try.func48 hb⟩
theorem t38 : trF (cfOf Try.prog tab 93 []) (sgOf tab) [(0, .y), (2, .v), (3, .v), (4, .v), (5, (.o .v)), (6, (.o .v)), (7, .v), (8, .v), (9, .v), (10, .v), (11, .v), (12, .v), (15, .v), (37, .v), (42, .v), (58, .v), (66, .v), (69, .v), (84, .v), (89, .v), (92, .v)] [(1, []), (4097, []), (2, []), (13, []), (29, []), (125, []), (8317, []), (2, []), (16509, []), (2, []), (253, []), (237, []), (32813, []), (2, []), (301, []), (301, []), (813, []), (813, []), (66349, []), (2, []), (131373, []), (2, []), (3372, []), (262432, []), (2, []), (800, []), (768, []), (525056, []), (2, []), (1048576, []), (2, []), (2, [])] Try.f14 ⟨[.y], [.v], []⟩ = some ir_laws_FnExactSortOnce := by kernel_rfl
instance : Has K 38 ir_laws_FnExactSortOnce := ⟨fun _ _ hb => KS.of_body tabOk mixed (r := ⟨38, 14, ⟨[.y], [.v], []⟩⟩) rfl t38 Try.func14 hb⟩
theorem t42 : trF (cfOf Try.prog tab 22 []) (sgOf tab) [(0, .y), (2, (.o .v)), (3, (.o .v)), (4, .v), (11, .v)] [(1, [1]), (5, [0, 0, 1, 0]), (13, []), (29, []), (13, []), (13, []), (2, [])] Try.f25 ⟨[.y], [(.o .v)], []⟩ = some ir_laws_toIntS := by kernel_rfl
instance : Has K 42 ir_laws_toIntS := ⟨fun _ _ hb => KS.of_body tabOk mixed (r := ⟨42, 25, ⟨[.y], [(.o .v)], []⟩⟩) rfl t42 Try.func25 hb⟩
theorem t44 : trF (cfOf Try.prog tab 26 []) (sgOf tab) [(0, .y), (1, .y), (4, .v), (5, .v), (10, .v), (14, .v), (25, .v)] [(3, []), (19, []), (4, []), (11, []), (43, []), (75, []), (4, []), (11, []), (4, [])] Try.f27 ⟨[.y, .y], [.v], []⟩ = some ir_laws_eqIntS := by kernel_rfl
instance : Has K 44 ir_laws_eqIntS := ⟨fun _ _ hb => KS.of_body tabOk mixed (r := ⟨44, 27, ⟨[.y, .y], [.v], []⟩⟩) rfl t44 Try.func27 hb⟩
theorem t45 : trF (cfOf Try.prog tab 19 [0]) (sgOf tab) [(0, (.o .v)), (1, .v), (4, .v), (5, .v), (9, .v)] [(3, []), (11, []), (27, []), (11, []), (11, []), (11, []), (5, [])] Try.f28 ⟨[(.o .v), .v], [.v], [0]⟩ = some ir_laws_markIntS := by kernel_rfl
instance : Has K 45 ir_laws_markIntS := ⟨fun _ _ hb => KS.of_body tabOk mixed (r := ⟨45, 28, ⟨[(.o .v), .v], [.v], [0]⟩⟩) rfl t45 Try.func28 hb⟩
theorem t46 : trF (cfOf Try.prog tab 21 []) (sgOf tab) [(0, .y), (1, .v), (4, .v), (5, .v), (9, .v), (17, .v)] [(3, []), (11, []), (27, []), (43, []), (4, []), (11, []), (11, []), (4, [])] Try.f29 ⟨[.y, .v], [.v], []⟩ = some ir_laws_heldIntS := by kernel_rfl
instance : Has K 46 ir_laws_heldIntS := ⟨fun _ _ hb => KS.of_body tabOk mixed (r := ⟨46, 29, ⟨[.y, .v], [.v], []⟩⟩) rfl t46 Try.func29 hb⟩
theorem t61 : trF (cfOf Try.prog tab 10 []) (sgOf tab) [(0, .y), (2, (.o .v)), (3, .v), (6, .v)] [(1, [1, 0]), (9, []), (6, [1, 0, 0]), (6, [])] Try.f44 ⟨[.y], [(.o .v), .v], []⟩ = some ir_spec_SortOnce := by kernel_rfl
instance : Has K 61 ir_spec_SortOnce := ⟨fun _ _ hb => KS.of_body tabOk mixed (r := ⟨61, 44, ⟨[.y], [(.o .v), .v], []⟩⟩) rfl t61 Try.func44 hb⟩
theorem t62 : trF (cfOf Try.prog tab 57 []) (sgOf tab) [(0, .y), (2, (.o .v)), (3, .v), (4, (.o .v)), (5, (.o .v)), (7, .v), (11, .v), (14, .y), (15, .v), (16, .v), (17, .v), (32, .v)] [(1, [1, 0]), (9, [1, 0]), (73, []), (6, []), (25, [1, 0]), (920, []), (1944, []), (952, []), (3000, []), (952, []), (952, []), (920, []), (920, []), (24, []), (6, [])] Try.f45 ⟨[.y], [(.o .v), .v], []⟩ = some ir_impl_SortOnce := by kernel_rfl
instance : Has K 62 ir_impl_SortOnce := ⟨fun _ _ hb => KS.of_body tabOk mixed (r := ⟨62, 45, ⟨[.y], [(.o .v), .v], []⟩⟩) rfl t62 Try.func45 hb⟩
theorem t73 : trF (cfOf Try.prog tab 37 []) (sgOf tab) [(0, .y), (2, .v), (3, .v), (4, .v), (8, .v), (19, .v), (22, .v), (33, .v)] [(1, []), (5, []), (21, []), (37, []), (2, []), (13, []), (77, []), (141, []), (2, []), (13, []), (5, []), (2, [])] Try.f60 ⟨[.y], [.v], []⟩ = some ir_spec_IsPermutation := by kernel_rfl
instance : Has K 73 ir_spec_IsPermutation := ⟨fun _ _ hb => KS.of_body tabOk mixed (r := ⟨73, 60, ⟨[.y], [.v], []⟩⟩) rfl t73 Try.func60 hb⟩
theorem t74 : trF (cfOf Try.prog tab 34 []) (sgOf tab) [(0, .y), (2, .v), (3, (.o .v)), (5, .v), (8, .v), (12, .y), (13, .v), (14, .v), (15, .v), (29, .v)] [(1, []), (17, []), (2, []), (5, [0, 0, 1, 0]), (229, []), (485, []), (237, []), (749, []), (2, []), (229, []), (229, []), (2, [])] Try.f61 ⟨[.y], [.v], []⟩ = some ir_impl_IsPermutation := by kernel_rfl
instance : Has K 74 ir_impl_IsPermutation := ⟨fun _ _ hb => KS.of_body tabOk mixed (r := ⟨74, 61, ⟨[.y], [.v], []⟩⟩) rfl t74 Try.func61 hb⟩
theorem t80 : trF (cfOf Try.prog tab 69 []) (sgOf tab) [(0, .y), (2, (.o .v)), (3, (.o .v)), (4, (.o .v)), (5, .v), (11, .v), (29, .v), (53, .v)] [(1, [1]), (5, [1, 0]), (13, [1, 0]), (29, []), (61, []), (93, []), (29, []), (29, []), (29, []), (29, []), (140, []), (12, []), (12, []), (2, [])] Try.f69 ⟨[.y], [(.o .v)], []⟩ = some ir_spec_l31Sort := by kernel_rfl
instance : Has K 80 ir_spec_l31Sort := ⟨fun _ _ hb => KS.of_body tabOk mixed (r := ⟨80, 69, ⟨[.y], [(.o .v)], []⟩⟩) rfl t80 Try.func69 hb⟩
theorem t81 : trF (cfOf Try.prog tab 28 [0]) (sgOf tab) [(0, (.o .v)), (2, .v), (3, .v), (9, .v)] [(7, []), (15, []), (7, [0, 0, 0, 0, 0, 0, 0, 0, 0, 0, 0, 0, 0, 2, 0, 2]), (7, [])] Try.f70 ⟨[(.o .v)], [], [0]⟩ = some ir_slices_Reverse___int_int_ := by kernel_rfl
instance : Has K 81 ir_slices_Reverse___int_int_ := ⟨fun _ _ hb => KS.of_body tabOk mixed (r := ⟨81, 70, ⟨[(.o .v)], [], [0]⟩⟩) rfl t81 Try.func70 hb⟩
end Go.Proofs.Ytddhlibpgnnanaa.fnExactSortOnce
