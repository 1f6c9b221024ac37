/-
 The law FnConsolePrefix of the program returns true for all arguments; no condition.
-/
import Derived.Test.YthoilpmggmenbaaGreatExcLawConsolePrefix
import Derived.Test.YthoilpmggmenbaaGreatPfCp2
import Derived.Test.YthoilpmggmenbaaGreatCatDel
set_option linter.unusedSimpArgs false
set_option linter.unusedVariables false
namespace Go.Proofs.YthoilpmggmenbaaGreat.fnConsolePrefix
open Go.Cat Go.ChangeShapes Go.WideShapes Go.ChangeAt Go.RowKit
set_option maxRecDepth 100000
def Ag4:Go.Shelf.Ren:=⟨λ|23=>325|n=>n,λ|22=>28|3=>3|4=>4|0=>0|n=>n,λ|n=>n⟩
theorem AX3:Go.Proofs.Lays2.n23 Tryz.prog Ag4 where
 mixed:=by kernel_rfl
 f23:=Tryz.func325.trans (congrArg some (by kernel_rfl))
 t0:=Tryz.underlying0
 a0:=Tryz.isAgg0
 z0:=Tryz.sizeOf0
 v0:=Tryz.zeroValue0
 t3:=Tryz.underlying3
 a3:=Tryz.isAgg3
 z3:=Tryz.sizeOf3
 v3:=Tryz.zeroValue3
 t4:=Tryz.underlying4
 a4:=Tryz.isAgg4
 z4:=Tryz.sizeOf4
 v4:=Tryz.zeroValue4
 t22:=Tryz.underlying28
 a22:=Tryz.isAgg28
 z22:=Tryz.sizeOf28
 v22:=Tryz.zeroValue28
 i3:=by kernel_rfl
instance:Hk K:=⟨λl i hi hl=>⟨⟨212,325,⟨[.o .v,.v,.v],[.o .v],[],none⟩⟩,rfl,AWH AX3 (Gs tab) (by kernel_rfl) l i hi hl⟩⟩
theorem own:ownKnob Tryz.prog.godebug=none:=by kernel_rfl
theorem laid:laidOutB Tryz.prog=true:=by kernel_rfl
theorem AT7:Tryz.prog.readableRec 22=true/\22<Tryz.prog.types.size:=⟨by kernel_rfl,of_decide_eq_true (by kernel_rfl)⟩
theorem reads:∀t∈([22]:List Nat),Tryz.prog.readableRec t=true/\t<Tryz.prog.types.size:=by
 intro t ht;obtain rfl:t=22:=by simpa using ht
 exact AT7
set_option maxRecDepth 100000 in
theorem lifted(os:Os)(started:os.Started)(H:Type)(enc:TypeId×Value->H):
  ReturnsInHanded {} Tryz.checked os 6 .any (Rows.fnConsolePrefixSpec.pre6 enc Tryz.prog Tryz.f6 Rows.fnConsolePrefixRow.domain false) (Rows.fnConsolePrefixSpec.post enc Tryz.prog Tryz.f6 false true false false):=by
 refine returnsInHanded_of_change (C:=Tryz.checked) own started (by kernel_rfl) Tryz.func6
  (ChangeSpec.witness6 (enc:=enc) (C:=Tryz.checked) false ⟨#[],#[.slice none 0 0],[]⟩ 8 (by kernel_rfl) (by kernel_rfl) (by kernel_rfl) (by kernel_rfl)) ?_
 intro W base args ds gs before hval0 hW hcnd _;have hval:∀(j:Nat) t v,Tryz.f6.params[j]?=some t->args[j]?=some v->Value.okWide Tryz.prog W .any base t v:=hval0;have hW':=hW;obtain⟨p,q,hA0,hV,rfl,hfz,hnd⟩:=hW;have hA:DataW.TrodAll enc Tryz.prog W 0 (λ_=>true) true Tryz.f6.params.toList args.toList ds p:=hA0;rw[Tryz.params6]at hA hval;have hA1:=hA;obtain⟨v0,vs0,d0,ds0,p0,q0,hargs,rfl,rfl,h0,r0⟩:=trodAll_cons hA;obtain⟨rfl,rfl,rfl⟩:=trodAll_nil r0;obtain rfl:args=#[v0]:=by cases args;simp_all
 obtain⟨rfl,rfl⟩:=trodVars_none hV;obtain⟨l0,b0,g0⟩:=AiP Tryz.underlying22 Tryz.underlying5 (by kernel_rfl) (hval 0 22 v0 rfl rfl) h0;clear hA0 hval0;simp only[List.append_nil]at hW';have hK:=AlH (tab:=tab) (AZC (K:=K) b0) rfl rfl rfl rfl;have hw:Calls Tryz.prog 6 #[v0] W λe w'=>e=.returned (.bool true)/\Below W.heap.size W w':=AeK (args:=[v0]) hK (AlU (g0 _ _ (by simp)) AhN);refine hw.mono λe W' ⟨he,hg⟩=>?_;subst he;exact⟨_,rfl,AWU (pv:=[]) hW' (λ_ _ _=>(trodAll_cons_mk (shut_bool Tryz.underlying4 _) trodAll_mk0)) (λsp hsp=>by
   rw[Tryz.params6]
   exact AG1 laid hg reads hA1 (λx hx=>hsp x (by simpa using hx)) (λx hx=>hW'.lt x (by simpa using hx))) (λ_ _=>rfl) (by simp)
  hg (ok_one (by kernel_rfl) rfl (okWide_bool_mk Tryz.underlying4 _))⟩
theorem j1:(Rows.fnConsolePrefixRow.inPlace==Tryz.prog.inPlace 6)=true:=by kernel_rfl
theorem j2:(Rows.fnConsolePrefixRow.unfollowed==Tryz.prog.unfollowed 6)=true:=by kernel_rfl
theorem j3:(Rows.fnConsolePrefixRow.recurses==Tryz.prog.recurses 6)=true:=by kernel_rfl
theorem j4:(Rows.fnConsolePrefixRow.named==Tryz.prog.varsNamed 6)=true:=by kernel_rfl
theorem closed:joinedFacts Tryz.prog 6 Tryz.f6 Rows.fnConsolePrefixSpec Rows.fnConsolePrefixRow=true:=by unfold joinedFacts;rw[laid,j1,j2,j3,j4];kernel_rfl
theorem over:Rows.fnConsolePrefixRow.holds Tryz.pinned (OpenSpec.ofChange Rows.fnConsolePrefixSpec):=
 OpenClaim.holds_of_wide 6 Tryz.f6 rfl rfl rfl rfl rfl rfl rfl ⟨rfl,rfl,rfl,rfl,rfl⟩ rfl rfl rfl rfl rfl (by kernel_rfl) Tryz.func6 closed
  (of_decide_eq_true (by kernel_rfl)) (by unfold Func.isWrapper;first|(rw[if_pos (by decide +kernel)];kernel_rfl)|(rw[if_neg (by decide +kernel)];exact⟨rfl,rfl⟩))
  (λos started H enc _=>lifted os started H enc)
theorem proved:Rows.FnConsolePrefixSaid:=
 over
#print axioms proved
end Go.Proofs.YthoilpmggmenbaaGreat.fnConsolePrefix
