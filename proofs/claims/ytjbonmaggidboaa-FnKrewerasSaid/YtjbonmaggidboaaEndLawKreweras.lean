/-
 The law FnKreweras of the program returns true for all arguments; no condition.
-/
import Derived.Test.YtjbonmaggidboaaRows
import Derived.WalkKit
import Derived.ProofKit
import Derived.OpenShut
import Derived.Test.YtjbonmaggidboaaSeatLawKreweras
import Derived.Test.YtjbonmaggidboaaPfKrO
import Derived.Test.YtjbonmaggidboaaCatFour
set_option linter.unusedSimpArgs false
set_option linter.unusedVariables false
namespace Go.Proofs.Ytjbonmaggidboaa.fnKreweras
open Go.Cat Go.ChangeShapes Go.WideShapes Go.ChangeAt Go.RowKit
theorem own:ownKnob Try.prog.godebug=none:=by kernel_rfl
theorem laid:laidOutB Try.prog=true:=by kernel_rfl
theorem reads22:Try.prog.readableRec 22=true∧22<Try.prog.types.size:=⟨by kernel_rfl,of_decide_eq_true (by kernel_rfl)⟩
theorem reads:∀ t∈([22]:List Nat),Try.prog.readableRec t=true∧t<Try.prog.types.size:=by
 intro t ht
 obtain rfl:t=22:=by simpa using ht
 exact reads22
set_option maxRecDepth 100000 in
theorem lifted (os:Os) (started:os.Started) (H:Type) (enc:TypeId×Value→H):
  ReturnsInHanded {} Try.checked os 3 .any (Rows.fnKrewerasSpec.pre6 enc Try.prog Try.f3 Rows.fnKrewerasRow.domain false) (Rows.fnKrewerasSpec.post enc Try.prog Try.f3 false true false false):=by
 refine returnsInHanded_of_change (C:=Try.checked) own started (by kernel_rfl) Try.func3
  (ChangeSpec.witness6 (enc:=enc) (C:=Try.checked) false ⟨#[],#[.slice none 0 0],[]⟩ 8 (by kernel_rfl) (by kernel_rfl) (by kernel_rfl) (by kernel_rfl)) ?_
 intro W base args ds gs before hval0 hW hcnd _
 have hval:∀ (j:Nat) t v,Try.f3.params[j]?=some t→args[j]?=some v→Value.okWide Try.prog W .any base t v:=hval0
 have hW':=hW
 obtain ⟨p,q,hA0,hV,rfl,hfz,hnd⟩:=hW
 have hA:DataW.TrodAll enc Try.prog W 0 (fun _=>true) true Try.f3.params.toList args.toList ds p:=hA0
 rw [Try.params3] at hA hval
 have hA1:=hA
 obtain ⟨v0,vs0,d0,ds0,p0,q0,hargs,rfl,rfl,h0,r0⟩:=trodAll_cons hA
 obtain ⟨rfl,rfl,rfl⟩:=trodAll_nil r0
 obtain rfl:args=#[v0]:=by cases args; simp_all
 obtain ⟨rfl,rfl⟩:=trodVars_none hV
 obtain ⟨l0,b0,g0⟩:=arg_bytes Try.underlying22 Try.underlying5 (by kernel_rfl) (hval 0 22 v0 rfl rfl) h0
 clear hA0 hval0
 simp only [List.append_nil] at hW'
 have hK:=con_row (tab:=tab) (kre_law (K:=K) l0 b0) rfl rfl rfl rfl
 have hw:Calls Try.prog 3 #[v0] W fun e w'=>e=.returned (.bool true)∧Below W.heap.size W w':=con_bool (args:=[v0]) hK (eachV_cons (g0 _ _ (by simp)) each_nil)
 refine hw.mono fun e W' ⟨he,hg⟩=>?_
 subst he
 exact ⟨_,rfl,post_below (pv:=[]) hW' (fun _ _ _=>(trodAll_cons_mk (shut_bool Try.underlying4 _) trodAll_mk0)) (fun sp hsp=>by
   rw [Try.params3]
   exact trodAll_stays laid hg reads hA1 (fun x hx=>hsp x (by simpa using hx)) (fun x hx=>hW'.lt x (by simpa using hx))) (fun _ _=>rfl) (by simp)
  hg (ok_one (by kernel_rfl) rfl (okWide_bool_mk Try.underlying4 _))⟩
theorem over:Rows.fnKrewerasRow.holds Try.pinned (OpenSpec.ofChange Rows.fnKrewerasSpec):=
 OpenClaim.holds_of_wide 3 Try.f3 rfl rfl rfl rfl rfl rfl rfl ⟨rfl,rfl,rfl,rfl,rfl⟩ rfl rfl rfl rfl rfl (by kernel_rfl) Try.func3 (by kernel_rfl)
  (of_decide_eq_true (by kernel_rfl)) (by unfold Func.isWrapper; first | (rw [if_pos (by decide +kernel)]; kernel_rfl) | (rw [if_neg (by decide +kernel)]; exact ⟨rfl,rfl⟩))
  (fun os started H enc _=>lifted os started H enc)
theorem proved:Rows.FnKrewerasSaid:=
 over
#print axioms proved
end Go.Proofs.Ytjbonmaggidboaa.fnKreweras
