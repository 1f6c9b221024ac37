/-
 The law FnExactCheckClaim of the program returns true for all arguments; no condition.
-/
import Derived.Test.YtihgdjeahjfhfaaGreatTreCheckClaim
import Derived.Test.YtihgdjeahjfhfaaGreatRows
import Derived.WalkKit
import Derived.ProofKit
import Derived.OpenShut
import Derived.Test.YtihgdjeahjfhfaaGreatSeatCheckClaim
import Derived.Test.YtihgdjeahjfhfaaGreatPfCkN
import Derived.Test.YtihgdjeahjfhfaaGreatCatFour
set_option linter.unusedSimpArgs false
set_option linter.unusedVariables false
namespace Go.Proofs.YtihgdjeahjfhfaaGreat.fnExactCheckClaim
open Go.Cat Go.ChangeShapes Go.WideShapes Go.ChangeAt Go.RowKit
theorem own:ownKnob Tryz.prog.godebug=none:=by kernel_rfl
theorem laid:laidOutB Tryz.prog=true:=by kernel_rfl
theorem reads26:Tryz.prog.readableRec 26=true∧26<Tryz.prog.types.size:=⟨by kernel_rfl,of_decide_eq_true (by kernel_rfl)⟩
theorem reads:∀ t∈([26]:List Nat),Tryz.prog.readableRec t=true∧t<Tryz.prog.types.size:=by
 intro t ht
 obtain rfl:t=26:=by simpa using ht
 exact reads26
set_option maxRecDepth 100000 in
theorem lifted (os:Os) (started:os.Started) (H:Type) (enc:TypeId×Value→H):
  ReturnsInHanded {} Tryz.checked os 3 .any (Rows.fnExactCheckClaimSpec.pre6 enc Tryz.prog Tryz.f3 Rows.fnExactCheckClaimRow.domain false) (Rows.fnExactCheckClaimSpec.post enc Tryz.prog Tryz.f3 false true false false):=by
 refine returnsInHanded_of_change (C:=Tryz.checked) own started (by kernel_rfl) Tryz.func3
  (ChangeSpec.witness6 (enc:=enc) (C:=Tryz.checked) false ⟨#[],#[.agg #[.int .i64 0,.string ⟨#[]⟩,.string ⟨#[]⟩,.slice none 0 0,.slice none 0 0,.slice none 0 0,.slice none 0 0]],[]⟩ 8 (by kernel_rfl) (by kernel_rfl) (by kernel_rfl) (by kernel_rfl)) ?_
 intro W base args ds gs before hval0 hW hcnd _
 have hval:∀ (j:Nat) t v,Tryz.f3.params[j]?=some t→args[j]?=some v→Value.okWide Tryz.prog W .any base t v:=hval0
 have hW':=hW
 obtain ⟨p,q,hA0,hV,rfl,hfz,hnd⟩:=hW
 have hA:DataW.TrodAll enc Tryz.prog W 0 (fun _=>true) true Tryz.f3.params.toList args.toList ds p:=hA0
 rw [Tryz.params3] at hA hval
 have hA1:=hA
 obtain ⟨v0,vs0,d0,ds0,p0,q0,hargs,rfl,rfl,h0,r0⟩:=trodAll_cons hA
 obtain ⟨rfl,rfl,rfl⟩:=trodAll_nil r0
 obtain rfl:args=#[v0]:=by cases args; simp_all
 obtain ⟨rfl,rfl⟩:=trodVars_none hV
 obtain ⟨ck0,cf0,cs0,ct0,cn0,co0,cr0,cc0,g0⟩:=arg_claim (ti:=3) (ts:=9) (tss:=22) (tis:=23) (tiss:=24) Tryz.underlying26 rfl Tryz.underlying3 Tryz.underlying9 Tryz.underlying22 Tryz.underlying23 Tryz.underlying24 (by kernel_rfl) (by kernel_rfl) (by kernel_rfl) (by kernel_rfl) (by kernel_rfl) (by kernel_rfl) (hval 0 26 v0 rfl rfl) h0
 clear hA0 hval0
 simp only [List.append_nil] at hW'
 have hK:=con_row (tab:=tab) (chk_law (K:=K) (k:=ck0) ⟨cc0.1,cc0.2.1,cc0.2.2.1,cc0.2.2.2.1,cc0.2.2.2.2.1,cc0.2.2.2.2.2.1,cc0.2.2.2.2.2.2.1,cc0.2.2.2.2.2.2.2⟩) rfl rfl rfl rfl
 have hw:Calls Tryz.prog 3 #[v0] W fun e w'=>e=.returned (.bool true)∧Below W.heap.size W w':=con_bool (args:=[v0]) hK (eachY_cons (g0 _ _ (by simp)) each_nil)
 refine hw.mono fun e W' ⟨he,hg⟩=>?_
 subst he
 exact ⟨_,rfl,post_below (pv:=[]) hW' (fun _ _ _=>(trodAll_cons_mk (shut_bool Tryz.underlying4 _) trodAll_mk0)) (fun sp hsp=>by
   rw [Tryz.params3]
   exact trodAll_stays laid hg reads hA1 (fun x hx=>hsp x (by simpa using hx)) (fun x hx=>hW'.lt x (by simpa using hx))) (fun _ _=>rfl) (by simp)
  hg (ok_one (by kernel_rfl) rfl (okWide_bool_mk Tryz.underlying4 _))⟩
theorem over:Rows.fnExactCheckClaimRow.holds Tryz.pinned (OpenSpec.ofChange Rows.fnExactCheckClaimSpec):=
 OpenClaim.holds_of_wide 3 Tryz.f3 rfl rfl rfl rfl rfl rfl rfl ⟨rfl,rfl,rfl,rfl,rfl⟩ rfl rfl rfl rfl rfl (by kernel_rfl) Tryz.func3 (by kernel_rfl)
  (of_decide_eq_true (by kernel_rfl)) (by unfold Func.isWrapper; first | (rw [if_pos (by decide +kernel)]; kernel_rfl) | (rw [if_neg (by decide +kernel)]; exact ⟨rfl,rfl⟩))
  (fun os started H enc _=>lifted os started H enc)
theorem proved:Rows.FnExactCheckClaimSaid:=
 over
#print axioms proved
end Go.Proofs.YtihgdjeahjfhfaaGreat.fnExactCheckClaim
