/-
 The law FnConsoleResults of the program returns true for all arguments; no condition.
-/
import Derived.Test.YthoilpmggmenbaaGreatExcLawConsoleResults
import Derived.Test.YthoilpmggmenbaaGreatCatDel
set_option linter.unusedSimpArgs false
set_option linter.unusedVariables false
namespace Go.Proofs.YthoilpmggmenbaaGreat.fnConsoleResults
open Go.Cat Go.ChangeShapes Go.WideShapes Go.ChangeAt Go.RowKit
set_option maxRecDepth 100000
def AY5:Go.Shelf.Ren:=⟨λ|23=>325|n=>n,λ|22=>28|3=>3|4=>4|0=>0|n=>n,λ|n=>n⟩
theorem AOW:Go.Proofs.Lays2.n23 Tryz.prog AY5 where
 mixed:=by kernel_rfl
 f23:=Tryz.func325.trans (congrArg some (by kernel_rfl))
 t0:=Tryz.underlying0
 a0:=Tryz.isAgg0
 z0:=Tryz.sizeOf0
 v0:=Tryz.zeroValue0
 t3:=Tryz.underlying3
 a3:=Tryz.isAgg3
 z3:=Tryz.sizeOf3
 v3:=Tryz.zeroValue3
 t4:=Tryz.underlying4
 a4:=Tryz.isAgg4
 z4:=Tryz.sizeOf4
 v4:=Tryz.zeroValue4
 t22:=Tryz.underlying28
 a22:=Tryz.isAgg28
 z22:=Tryz.sizeOf28
 v22:=Tryz.zeroValue28
 i3:=by kernel_rfl
instance:ADP K:=⟨λl i hi hl=>⟨⟨212,325,⟨[.o .v,.v,.v],[.o .v],[],none⟩⟩,rfl,AXJ AOW (GL tab) (by kernel_rfl) l i hi hl⟩⟩
theorem own:ownKnob Tryz.prog.godebug=none:=by kernel_rfl
theorem laid:laidOutB Tryz.prog=true:=by kernel_rfl
theorem AbM:Tryz.prog.readableRec 22=true/\22<Tryz.prog.types.size:=⟨by kernel_rfl,of_decide_eq_true (by kernel_rfl)⟩
theorem reads:∀t∈([22]:List Nat),Tryz.prog.readableRec t=true/\t<Tryz.prog.types.size:=by
 intro t ht;obtain rfl:t=22:=by simpa using ht
 exact AbM
set_option maxRecDepth 100000 in
theorem lifted(os:Os)(started:os.Started)(H:Type)(enc:TypeId×Value->H):
  ReturnsInHanded {} Tryz.checked os 4 .any (Rows.fnConsoleResultsSpec.pre6 enc Tryz.prog Tryz.f4 Rows.fnConsoleResultsRow.domain false) (Rows.fnConsoleResultsSpec.post enc Tryz.prog Tryz.f4 false true false false):=by
 refine returnsInHanded_of_change (C:=Tryz.checked) own started (by kernel_rfl) Tryz.func4
  (ChangeSpec.witness6 (enc:=enc) (C:=Tryz.checked) false ⟨#[],#[.slice none 0 0],[]⟩ 8 (by kernel_rfl) (by kernel_rfl) (by kernel_rfl) (by kernel_rfl)) ?_
 intro W base args ds gs before hval0 hW hcnd _;have hval:∀(j:Nat) t v,Tryz.f4.params[j]?=some t->args[j]?=some v->Value.okWide Tryz.prog W .any base t v:=hval0;have hW':=hW;obtain⟨p,q,hA0,hV,rfl,hfz,hnd⟩:=hW;have hA:DataW.TrodAll enc Tryz.prog W 0 (λ_=>true) true Tryz.f4.params.toList args.toList ds p:=hA0;rw[Tryz.params4]at hA hval;have hA1:=hA;obtain⟨v0,vs0,d0,ds0,p0,q0,hargs,rfl,rfl,h0,r0⟩:=trodAll_cons hA;obtain⟨rfl,rfl,rfl⟩:=trodAll_nil r0;obtain rfl:args=#[v0]:=by cases args;simp_all
 obtain⟨rfl,rfl⟩:=trodVars_none hV;obtain⟨l0,b0,g0⟩:=APB Tryz.underlying22 Tryz.underlying5 (by kernel_rfl) (hval 0 22 v0 rfl rfl) h0;clear hA0 hval0;simp only[List.append_nil]at hW';have hK:=APC (tab:=tab) (AYG (K:=K) b0) rfl rfl rfl rfl;have hw:Calls Tryz.prog 4 #[v0] W λe w'=>e=.returned (.bool true)/\Below W.heap.size W w':=AV3 (args:=[v0]) hK (AaK (g0 _ _ (by simp)) AON);refine hw.mono λe W' ⟨he,hg⟩=>?_;subst he;exact⟨_,rfl,AZR (pv:=[]) hW' (λ_ _ _=>(trodAll_cons_mk (shut_bool Tryz.underlying4 _) trodAll_mk0)) (λsp hsp=>by
   rw[Tryz.params4]
   exact AMR laid hg reads hA1 (λx hx=>hsp x (by simpa using hx)) (λx hx=>hW'.lt x (by simpa using hx))) (λ_ _=>rfl) (by simp)
  hg (ok_one (by kernel_rfl) rfl (okWide_bool_mk Tryz.underlying4 _))⟩
theorem j1:(Rows.fnConsoleResultsRow.inPlace==Tryz.prog.inPlace 4)=true:=by kernel_rfl
theorem j2:(Rows.fnConsoleResultsRow.unfollowed==Tryz.prog.unfollowed 4)=true:=by kernel_rfl
theorem j3:(Rows.fnConsoleResultsRow.recurses==Tryz.prog.recurses 4)=true:=by kernel_rfl
theorem j4:(Rows.fnConsoleResultsRow.named==Tryz.prog.varsNamed 4)=true:=by kernel_rfl
theorem closed:joinedFacts Tryz.prog 4 Tryz.f4 Rows.fnConsoleResultsSpec Rows.fnConsoleResultsRow=true:=by unfold joinedFacts;rw[laid,j1,j2,j3,j4];kernel_rfl
theorem over:Rows.fnConsoleResultsRow.holds Tryz.pinned (OpenSpec.ofChange Rows.fnConsoleResultsSpec):=
 OpenClaim.holds_of_wide 4 Tryz.f4 rfl rfl rfl rfl rfl rfl rfl ⟨rfl,rfl,rfl,rfl,rfl⟩ rfl rfl rfl rfl rfl (by kernel_rfl) Tryz.func4 closed
  (of_decide_eq_true (by kernel_rfl)) (by unfold Func.isWrapper;first|(rw[if_pos (by decide +kernel)];kernel_rfl)|(rw[if_neg (by decide +kernel)];exact⟨rfl,rfl⟩))
  (λos started H enc _=>lifted os started H enc)
theorem proved:Rows.FnConsoleResultsSaid:=
 over
#print axioms proved
end Go.Proofs.YthoilpmggmenbaaGreat.fnConsoleResults
