/-
 The law FnExactClaimOfFrieze of the program returns true for all arguments; no condition.
-/
import Derived.Test.YtgncagjobmbmaaaSfClaimOfFrieze
import Derived.Test.YtgncagjobmbmaaaRows
import Derived.WalkKit
import Derived.ProofKit
import Derived.OpenShut
import Derived.Test.YtgncagjobmbmaaaSeatClaimOfFrieze
import Derived.Test.YtgncagjobmbmaaaPfLCFz
import Derived.Test.YtgncagjobmbmaaaCatFour
import Derived.Test.YtgncagjobmbmaaaCatDel
set_option linter.unusedSimpArgs false
set_option linter.unusedVariables false
namespace Go.Proofs.Ytgncagjobmbmaaa.fnExactClaimOfFrieze
open Go.Cat Go.ChangeShapes Go.WideShapes Go.ChangeAt Go.RowKit
def lays23_ren : Go.Shelf.Ren := ⟨fun | 23 => 120 | n => n, fun | 22 => 23 | 3 => 3 | 4 => 4 | 0 => 0 | n => n, fun | n => n⟩
theorem lays23 : Go.Proofs.Lays2.n23 Try.prog lays23_ren where
 mixed := by kernel_rfl
 f23 := Try.func120.trans (congrArg some (by kernel_rfl))
 t0 := Try.underlying0
 a0 := Try.isAgg0
 z0 := Try.sizeOf0
 v0 := Try.zeroValue0
 t3 := Try.underlying3
 a3 := Try.isAgg3
 z3 := Try.sizeOf3
 v3 := Try.zeroValue3
 t4 := Try.underlying4
 a4 := Try.isAgg4
 z4 := Try.sizeOf4
 v4 := Try.zeroValue4
 t22 := Try.underlying23
 a22 := Try.isAgg23
 z22 := Try.sizeOf23
 v22 := Try.zeroValue23
 i3 := by kernel_rfl
instance:HDel K:=⟨fun l i hi hl=>⟨⟨212,120,⟨[.o .v,.v,.v],[.o .v],[],none⟩⟩,rfl,del_con lays23 (fidOf tab) (by kernel_rfl) l i hi hl⟩⟩
theorem own:ownKnob Try.prog.godebug=none:=by kernel_rfl
theorem laid:laidOutB Try.prog=true:=by kernel_rfl
theorem reads23:Try.prog.readableRec 23=true∧23<Try.prog.types.size:=⟨by kernel_rfl,of_decide_eq_true (by kernel_rfl)⟩
theorem reads:∀ t∈([23]:List Nat),Try.prog.readableRec t=true∧t<Try.prog.types.size:=by
 intro t ht
 obtain rfl:t=23:=by simpa using ht
 exact reads23
set_option maxRecDepth 100000 in
theorem lifted (os:Os) (started:os.Started) (H:Type) (enc:TypeId×Value→H):
  ReturnsInHanded {} Try.checked os 5 .any (Rows.fnExactClaimOfFriezeSpec.pre6 enc Try.prog Try.f5 Rows.fnExactClaimOfFriezeRow.domain false) (Rows.fnExactClaimOfFriezeSpec.post enc Try.prog Try.f5 false true false false):=by
 refine returnsInHanded_of_change (C:=Try.checked) own started (by kernel_rfl) Try.func5
  (ChangeSpec.witness6 (enc:=enc) (C:=Try.checked) false ⟨#[],#[.slice none 0 0],[]⟩ 8 (by kernel_rfl) (by kernel_rfl) (by kernel_rfl) (by kernel_rfl)) ?_
 intro W base args ds gs before hval0 hW hcnd _
 have hval:∀ (j:Nat) t v,Try.f5.params[j]?=some t→args[j]?=some v→Value.okWide Try.prog W .any base t v:=hval0
 have hW':=hW
 obtain ⟨p,q,hA0,hV,rfl,hfz,hnd⟩:=hW
 have hA:DataW.TrodAll enc Try.prog W 0 (fun _=>true) true Try.f5.params.toList args.toList ds p:=hA0
 rw [Try.params5] at hA hval
 have hA1:=hA
 obtain ⟨v0,vs0,d0,ds0,p0,q0,hargs,rfl,rfl,h0,r0⟩:=trodAll_cons hA
 obtain ⟨rfl,rfl,rfl⟩:=trodAll_nil r0
 obtain rfl:args=#[v0]:=by cases args; simp_all
 obtain ⟨rfl,rfl⟩:=trodVars_none hV
 obtain ⟨z0,w0,g0⟩:=arg_ints Try.underlying23 Try.underlying3 (by kernel_rfl) (hval 0 23 v0 rfl rfl) h0
 clear hA0 hval0
 simp only [List.append_nil] at hW'
 have hK:=con_row (tab:=tab) (cfrz_ex (K:=K) z0) rfl rfl rfl rfl
 have hw:Calls Try.prog 5 #[v0] W fun e w'=>e=.returned (.bool true)∧Below W.heap.size W w':=con_bool (args:=[v0]) hK (eachY_cons (g0 _ _ (by simp)) each_nil)
 refine hw.mono fun e W' ⟨he,hg⟩=>?_
 subst he
 exact ⟨_,rfl,post_below (pv:=[]) hW' (fun _ _ _=>(trodAll_cons_mk (shut_bool Try.underlying4 _) trodAll_mk0)) (fun sp hsp=>by
   rw [Try.params5]
   exact trodAll_stays laid hg reads hA1 (fun x hx=>hsp x (by simpa using hx)) (fun x hx=>hW'.lt x (by simpa using hx))) (fun _ _=>rfl) (by simp)
  hg (ok_one (by kernel_rfl) rfl (okWide_bool_mk Try.underlying4 _))⟩
theorem over:Rows.fnExactClaimOfFriezeRow.holds Try.pinned (OpenSpec.ofChange Rows.fnExactClaimOfFriezeSpec):=
 OpenClaim.holds_of_wide 5 Try.f5 rfl rfl rfl rfl rfl rfl rfl ⟨rfl,rfl,rfl,rfl,rfl⟩ rfl rfl rfl rfl rfl (by kernel_rfl) Try.func5 (by kernel_rfl)
  (of_decide_eq_true (by kernel_rfl)) (by unfold Func.isWrapper; first | (rw [if_pos (by decide +kernel)]; kernel_rfl) | (rw [if_neg (by decide +kernel)]; exact ⟨rfl,rfl⟩))
  (fun os started H enc _=>lifted os started H enc)
theorem proved:Rows.FnExactClaimOfFriezeSaid:=
 over
#print axioms proved
end Go.Proofs.Ytgncagjobmbmaaa.fnExactClaimOfFrieze
