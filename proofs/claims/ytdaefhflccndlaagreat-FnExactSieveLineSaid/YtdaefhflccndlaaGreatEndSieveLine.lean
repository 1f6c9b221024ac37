/-
 The law FnExactSieveLine of the program returns true for all arguments; no condition.
-/
import Derived.Test.YtdaefhflccndlaaGreatRows
import Derived.WalkKit
import Derived.ProofKit
import Derived.OpenShut
import Derived.Test.YtdaefhflccndlaaGreatSeatSieveLine
import Derived.Test.YtdaefhflccndlaaGreatPfSvV
import Derived.Test.YtdaefhflccndlaaGreatCatFour
set_option linter.unusedSimpArgs false
set_option linter.unusedVariables false
namespace Go.Proofs.YtdaefhflccndlaaGreat.fnExactSieveLine
open Go.Cat Go.ChangeShapes Go.WideShapes Go.ChangeAt Go.RowKit
theorem own:ownKnob Tryz.prog.godebug=none:=by kernel_rfl
theorem laid:laidOutB Tryz.prog=true:=by kernel_rfl
theorem reads3:Tryz.prog.readableRec 3=true∧3<Tryz.prog.types.size:=⟨by kernel_rfl,of_decide_eq_true (by kernel_rfl)⟩
theorem reads9:Tryz.prog.readableRec 9=true∧9<Tryz.prog.types.size:=⟨by kernel_rfl,of_decide_eq_true (by kernel_rfl)⟩
theorem reads:∀ t∈([9,3]:List Nat),Tryz.prog.readableRec t=true∧t<Tryz.prog.types.size:=by
 intro t ht
 simp only [qmn,qnm,or_false] at ht
 rcases ht with rfl | rfl
 ·exact reads9
 ·exact reads3
set_option maxRecDepth 100000 in
theorem lifted (os:Os) (started:os.Started) (H:Type) (enc:TypeId×Value→H):
  ReturnsInHanded {} Tryz.checked os 3 .any (Rows.fnExactSieveLineSpec.pre6 enc Tryz.prog Tryz.f3 Rows.fnExactSieveLineRow.domain false) (Rows.fnExactSieveLineSpec.post enc Tryz.prog Tryz.f3 false true false false):=by
 refine returnsInHanded_of_change (C:=Tryz.checked) own started (by kernel_rfl) Tryz.func3
  (ChangeSpec.witness6 (enc:=enc) (C:=Tryz.checked) false ⟨#[],#[.string ⟨#[]⟩,.int .i64 0],[]⟩ 8 (by kernel_rfl) (by kernel_rfl) (by kernel_rfl) (by kernel_rfl)) ?_
 intro W base args ds gs before hval0 hW hcnd _
 have hval:∀ (j:Nat) t v,Tryz.f3.params[j]?=some t→args[j]?=some v→Value.okWide Tryz.prog W .any base t v:=hval0
 have hW':=hW
 obtain ⟨p,q,hA0,hV,rfl,hfz,hnd⟩:=hW
 have hA:DataW.TrodAll enc Tryz.prog W 0 (fun _=>true) true Tryz.f3.params.toList args.toList ds p:=hA0
 rw [Tryz.params3] at hA hval
 have hA1:=hA
 obtain ⟨v0,vs0,d0,ds0,p0,q0,hargs,rfl,rfl,h0,r0⟩:=trodAll_cons hA
 obtain ⟨v1,vs1,d1,ds1,p1,q1,rfl,rfl,rfl,h1,r1⟩:=trodAll_cons r0
 obtain ⟨rfl,rfl,rfl⟩:=trodAll_nil r1
 obtain rfl:args=#[v0,v1]:=by cases args; simp_all
 obtain ⟨rfl,rfl⟩:=trodVars_none hV
 obtain ⟨s0,b0,l0,g0⟩:=arg_string Tryz.underlying9 (hval 0 9 v0 rfl rfl) h0
 obtain ⟨a1,e1,_,_,w1⟩:=open_int Tryz.underlying3 (hval 1 3 v1 rfl rfl) h1
 have g1:∀ (fid:Nat→Nat) (Z:Nat→Prop),Rd fid W.heap Z (.i .i64 a1) v1:=fun _ _=>by rw [e1]; simp only [Rd]
 clear hA0 hval0
 simp only [List.append_nil] at hW'
 have hK:=con_row (tab:=tab) (svl_law (K:=K) s0 a1) rfl rfl rfl rfl
 have hw:Calls Tryz.prog 3 #[v0,v1] W fun e w'=>e=.returned (.bool true)∧Below W.heap.size W w':=con_bool (args:=[v0,v1]) hK (eachV_cons (g0 _ _) (eachV_cons (g1 _ _) each_nil))
 refine hw.mono fun e W' ⟨he,hg⟩=>?_
 subst he
 exact ⟨_,rfl,post_below (pv:=[]) hW' (fun _ _ _=>(trodAll_cons_mk (shut_bool Tryz.underlying4 _) trodAll_mk0)) (fun sp hsp=>by
   rw [Tryz.params3]
   exact trodAll_stays laid hg reads hA1 (fun x hx=>hsp x (by simpa using hx)) (fun x hx=>hW'.lt x (by simpa using hx))) (fun _ _=>rfl) (by simp)
  hg (ok_one (by kernel_rfl) rfl (okWide_bool_mk Tryz.underlying4 _))⟩
theorem over:Rows.fnExactSieveLineRow.holds Tryz.pinned (OpenSpec.ofChange Rows.fnExactSieveLineSpec):=
 OpenClaim.holds_of_wide 3 Tryz.f3 rfl rfl rfl rfl rfl rfl rfl ⟨rfl,rfl,rfl,rfl,rfl⟩ rfl rfl rfl rfl rfl (by kernel_rfl) Tryz.func3 (by kernel_rfl)
  (of_decide_eq_true (by kernel_rfl)) (by unfold Func.isWrapper; first | (rw [if_pos (by decide +kernel)]; kernel_rfl) | (rw [if_neg (by decide +kernel)]; exact ⟨rfl,rfl⟩))
  (fun os started H enc _=>lifted os started H enc)
theorem proved:Rows.FnExactSieveLineSaid:=
 over
#print axioms proved
end Go.Proofs.YtdaefhflccndlaaGreat.fnExactSieveLine
