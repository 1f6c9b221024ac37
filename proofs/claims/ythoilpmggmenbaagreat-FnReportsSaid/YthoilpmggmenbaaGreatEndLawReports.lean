/-
 The law FnReports of the program returns true for all arguments; no condition.
-/
import Derived.Test.YthoilpmggmenbaaGreatSchLawReports
import Derived.Test.YthoilpmggmenbaaGreatRows
import Derived.WalkKit
import Derived.ProofKit
import Derived.OpenShut
import Derived.Test.YthoilpmggmenbaaGreatSeatLawReports
import Derived.Test.YthoilpmggmenbaaGreatPfClE
import Derived.Test.YthoilpmggmenbaaGreatCatFour
import Derived.Test.YthoilpmggmenbaaGreatCatDel
set_option linter.unusedSimpArgs false
set_option linter.unusedVariables false
namespace Go.Proofs.YthoilpmggmenbaaGreat.fnReports
open Go.Cat Go.ChangeShapes Go.WideShapes Go.ChangeAt Go.RowKit
def lays23_ren : Go.Shelf.Ren := ⟨fun | 23 => 325 | n => n, fun | 22 => 28 | 3 => 3 | 4 => 4 | 0 => 0 | n => n, fun | n => n⟩
theorem lays23 : Go.Proofs.Lays2.n23 Tryz.prog lays23_ren where
 mixed := by kernel_rfl
 f23 := Tryz.func325.trans (congrArg some (by kernel_rfl))
 t0 := Tryz.underlying0
 a0 := Tryz.isAgg0
 z0 := Tryz.sizeOf0
 v0 := Tryz.zeroValue0
 t3 := Tryz.underlying3
 a3 := Tryz.isAgg3
 z3 := Tryz.sizeOf3
 v3 := Tryz.zeroValue3
 t4 := Tryz.underlying4
 a4 := Tryz.isAgg4
 z4 := Tryz.sizeOf4
 v4 := Tryz.zeroValue4
 t22 := Tryz.underlying28
 a22 := Tryz.isAgg28
 z22 := Tryz.sizeOf28
 v22 := Tryz.zeroValue28
 i3 := by kernel_rfl
instance:IJ K:=⟨fun l i hi hl=>⟨⟨212,325,⟨[.o .v,.v,.v],[.o .v],[],none⟩⟩,rfl,AcU lays23 (F4 tab) (by kernel_rfl) l i hi hl⟩⟩
theorem own:ownKnob Tryz.prog.godebug=none:=by kernel_rfl
theorem laid:laidOutB Tryz.prog=true:=by kernel_rfl
theorem AWJ:Tryz.prog.readableRec 22=true∧22<Tryz.prog.types.size:=⟨by kernel_rfl,of_decide_eq_true (by kernel_rfl)⟩
theorem reads:∀t∈([22]:List Nat),Tryz.prog.readableRec t=true∧t<Tryz.prog.types.size:=by
 intro t ht;obtain rfl:t=22:=by simpa using ht
 exact AWJ
set_option maxRecDepth 100000 in
theorem lifted(os:Os)(started:os.Started)(H:Type)(enc:TypeId×Value→H):
  ReturnsInHanded {} Tryz.checked os 3 .any (Rows.fnReportsSpec.pre6 enc Tryz.prog Tryz.f3 Rows.fnReportsRow.domain false) (Rows.fnReportsSpec.post enc Tryz.prog Tryz.f3 false true false false):=by
 refine returnsInHanded_of_change (C:=Tryz.checked) own started (by kernel_rfl) Tryz.func3
  (ChangeSpec.witness6 (enc:=enc) (C:=Tryz.checked) false ⟨#[],#[.slice none 0 0],[]⟩ 8 (by kernel_rfl) (by kernel_rfl) (by kernel_rfl) (by kernel_rfl)) ?_
 intro W base args ds gs before hval0 hW hcnd _;have hval:∀(j:Nat) t v,Tryz.f3.params[j]?=some t→args[j]?=some v→Value.okWide Tryz.prog W .any base t v:=hval0;have hW':=hW;obtain⟨p,q,hA0,hV,rfl,hfz,hnd⟩:=hW;have hA:DataW.TrodAll enc Tryz.prog W 0 (fun _=>true) true Tryz.f3.params.toList args.toList ds p:=hA0;rw[Tryz.params3]at hA hval;have hA1:=hA;obtain⟨v0,vs0,d0,ds0,p0,q0,hargs,rfl,rfl,h0,r0⟩:=trodAll_cons hA;obtain⟨rfl,rfl,rfl⟩:=trodAll_nil r0;obtain rfl:args=#[v0]:=by cases args;simp_all
 obtain⟨rfl,rfl⟩:=trodVars_none hV;obtain⟨l0,b0,g0⟩:=Aa6 Tryz.underlying22 Tryz.underlying5 (by kernel_rfl) (hval 0 22 v0 rfl rfl) h0;clear hA0 hval0;simp only[List.append_nil]at hW';have hK:=AUT (tab:=tab) (ATZ (K:=K) l0) rfl rfl rfl rfl;have hw:Calls Tryz.prog 3 #[v0] W fun e w'=>e=.returned (.bool true)∧Below W.heap.size W w':=AT6 (args:=[v0]) hK (AaR (g0 _ _ (by simp)) AXD);refine hw.mono fun e W' ⟨he,hg⟩=>?_;subst he;exact⟨_,rfl,ATF (pv:=[]) hW' (fun _ _ _=>(trodAll_cons_mk (shut_bool Tryz.underlying4 _) trodAll_mk0)) (fun sp hsp=>by
   rw[Tryz.params3]
   exact AMM laid hg reads hA1 (fun x hx=>hsp x (by simpa using hx)) (fun x hx=>hW'.lt x (by simpa using hx))) (fun _ _=>rfl) (by simp)
  hg (ok_one (by kernel_rfl) rfl (okWide_bool_mk Tryz.underlying4 _))⟩
theorem j1:(Rows.fnReportsRow.inPlace==Tryz.prog.inPlace 3)=true:=by kernel_rfl
theorem j2:(Rows.fnReportsRow.unfollowed==Tryz.prog.unfollowed 3)=true:=by kernel_rfl
theorem j3:(Rows.fnReportsRow.recurses==Tryz.prog.recurses 3)=true:=by kernel_rfl
theorem j4:(Rows.fnReportsRow.named==Tryz.prog.varsNamed 3)=true:=by kernel_rfl
theorem closed:joinedFacts Tryz.prog 3 Tryz.f3 Rows.fnReportsSpec Rows.fnReportsRow=true:=by unfold joinedFacts;rw[laid,j1,j2,j3,j4];kernel_rfl
theorem over:Rows.fnReportsRow.holds Tryz.pinned (OpenSpec.ofChange Rows.fnReportsSpec):=
 OpenClaim.holds_of_wide 3 Tryz.f3 rfl rfl rfl rfl rfl rfl rfl ⟨rfl,rfl,rfl,rfl,rfl⟩ rfl rfl rfl rfl rfl (by kernel_rfl) Tryz.func3 closed
  (of_decide_eq_true (by kernel_rfl)) (by unfold Func.isWrapper;first|(rw[if_pos (by decide +kernel)];kernel_rfl)|(rw[if_neg (by decide +kernel)];exact⟨rfl,rfl⟩))
  (fun os started H enc _=>lifted os started H enc)
theorem proved:Rows.FnReportsSaid:=
 over
#print axioms proved
end Go.Proofs.YthoilpmggmenbaaGreat.fnReports
