/-
 The law FnExactPairLine of the program returns true for all arguments; no condition.
-/
import Derived.Test.YtgncagjobmbmaaaRotPairLine
import Derived.Test.YtgncagjobmbmaaaRows
import Derived.WalkKit
import Derived.ProofKit
import Derived.OpenShut
import Derived.Test.YtgncagjobmbmaaaSeatPairLine
import Derived.Test.YtgncagjobmbmaaaPfPairB
import Derived.Test.YtgncagjobmbmaaaCatFour
set_option linter.unusedSimpArgs false
set_option linter.unusedVariables false
namespace Go.Proofs.Ytgncagjobmbmaaa.fnExactPairLine
open Go.Cat Go.ChangeShapes Go.WideShapes Go.ChangeAt Go.RowKit
theorem own:ownKnob Try.prog.godebug=none:=by kernel_rfl
theorem laid:laidOutB Try.prog=true:=by kernel_rfl
theorem reads9:Try.prog.readableRec 9=true∧9<Try.prog.types.size:=⟨by kernel_rfl,of_decide_eq_true (by kernel_rfl)⟩
theorem reads:∀ t∈([9,9]:List Nat),Try.prog.readableRec t=true∧t<Try.prog.types.size:=by
 intro t ht
 simp only [qmn,qnm,or_false] at ht
 rcases ht with rfl | rfl
 ·exact reads9
 ·exact reads9
set_option maxRecDepth 100000 in
theorem lifted (os:Os) (started:os.Started) (H:Type) (enc:TypeId×Value→H):
  ReturnsInHanded {} Try.checked os 8 .any (Rows.fnExactPairLineSpec.pre6 enc Try.prog Try.f8 Rows.fnExactPairLineRow.domain false) (Rows.fnExactPairLineSpec.post enc Try.prog Try.f8 false true false false):=by
 refine returnsInHanded_of_change (C:=Try.checked) own started (by kernel_rfl) Try.func8
  (ChangeSpec.witness6 (enc:=enc) (C:=Try.checked) false ⟨#[],#[.string ⟨#[]⟩,.string ⟨#[]⟩],[]⟩ 8 (by kernel_rfl) (by kernel_rfl) (by kernel_rfl) (by kernel_rfl)) ?_
 intro W base args ds gs before hval0 hW hcnd _
 have hval:∀ (j:Nat) t v,Try.f8.params[j]?=some t→args[j]?=some v→Value.okWide Try.prog W .any base t v:=hval0
 have hW':=hW
 obtain ⟨p,q,hA0,hV,rfl,hfz,hnd⟩:=hW
 have hA:DataW.TrodAll enc Try.prog W 0 (fun _=>true) true Try.f8.params.toList args.toList ds p:=hA0
 rw [Try.params8] at hA hval
 have hA1:=hA
 obtain ⟨v0,vs0,d0,ds0,p0,q0,hargs,rfl,rfl,h0,r0⟩:=trodAll_cons hA
 obtain ⟨v1,vs1,d1,ds1,p1,q1,rfl,rfl,rfl,h1,r1⟩:=trodAll_cons r0
 obtain ⟨rfl,rfl,rfl⟩:=trodAll_nil r1
 obtain rfl:args=#[v0,v1]:=by cases args; simp_all
 obtain ⟨rfl,rfl⟩:=trodVars_none hV
 obtain ⟨s0,b0,l0,g0⟩:=arg_string Try.underlying9 (hval 0 9 v0 rfl rfl) h0
 obtain ⟨s1,b1,l1,g1⟩:=arg_string Try.underlying9 (hval 1 9 v1 rfl rfl) h1
 clear hA0 hval0
 simp only [List.append_nil] at hW'
 have hK:=con_row (tab:=tab) (pair_law (K:=K) s0 s1) rfl rfl rfl rfl
 have hw:Calls Try.prog 8 #[v0,v1] W fun e w'=>e=.returned (.bool true)∧Below W.heap.size W w':=con_bool (args:=[v0,v1]) hK (eachV_cons (g0 _ _) (eachV_cons (g1 _ _) each_nil))
 refine hw.mono fun e W' ⟨he,hg⟩=>?_
 subst he
 exact ⟨_,rfl,post_below (pv:=[]) hW' (fun _ _ _=>(trodAll_cons_mk (shut_bool Try.underlying4 _) trodAll_mk0)) (fun sp hsp=>by
   rw [Try.params8]
   exact trodAll_stays laid hg reads hA1 (fun x hx=>hsp x (by simpa using hx)) (fun x hx=>hW'.lt x (by simpa using hx))) (fun _ _=>rfl) (by simp)
  hg (ok_one (by kernel_rfl) rfl (okWide_bool_mk Try.underlying4 _))⟩
theorem over:Rows.fnExactPairLineRow.holds Try.pinned (OpenSpec.ofChange Rows.fnExactPairLineSpec):=
 OpenClaim.holds_of_wide 8 Try.f8 rfl rfl rfl rfl rfl rfl rfl ⟨rfl,rfl,rfl,rfl,rfl⟩ rfl rfl rfl rfl rfl (by kernel_rfl) Try.func8 (by kernel_rfl)
  (of_decide_eq_true (by kernel_rfl)) (by unfold Func.isWrapper; first | (rw [if_pos (by decide +kernel)]; kernel_rfl) | (rw [if_neg (by decide +kernel)]; exact ⟨rfl,rfl⟩))
  (fun os started H enc _=>lifted os started H enc)
theorem proved:Rows.FnExactPairLineSaid:=
 over
#print axioms proved
end Go.Proofs.Ytgncagjobmbmaaa.fnExactPairLine
