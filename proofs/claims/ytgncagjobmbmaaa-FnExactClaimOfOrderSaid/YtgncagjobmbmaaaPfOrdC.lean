/-
 A claim that one tree lies below another, on both sides.
-/
import Derived.Test.YtgncagjobmbmaaaPfOrdI
import Derived.Test.YtgncagjobmbmaaaPfOrdS
import Derived.Test.YtgncagjobmbmaaaPfMark
import Derived.Test.YtgncagjobmbmaaaIrHas
set_option linter.unusedSimpArgs false
set_option linter.unusedVariables false
namespace Go.Cat
variable {K:Nat→List D→List D→Prop}
def upF (x y:BT):Option BT:=(roL rrB x x.n).find? fun z=>leB z y
theorem roL_mem {x z:BT} (h:z∈roL rrB x x.n):∃ v:Nat,v<x.n∧rrB x (v:Nat)=some z:=by
 simp only [roL,List.mem_filterMap,List.mem_range] at h
 exact h
theorem upF_ok {x y:BT} (h:leW x y) (hne:x≠y):∃ z,upF x y=some z∧leW z y∧x.w.sum<z.w.sum∧z.n=x.n:=by
 obtain ⟨v,z,hv,hz,hl⟩:=up_ex h (fun e=>hne (w_inj e))
 have hs:(upF x y).isSome=true:=by
  simp only [upF,List.find?_isSome]
  exact ⟨z,by simp only [roL,List.mem_filterMap,List.mem_range]; exact ⟨v,hv,hz⟩,leB_iff.2 hl⟩
 obtain ⟨u,hu⟩:=Option.isSome_iff_exists.1 hs
 have h1:=List.find?_some hu
 obtain ⟨k,hk,hk2⟩:=roL_mem (List.mem_of_find?_eq_some hu)
 exact ⟨u,hu,leB_iff.1 h1,rr_sum hk hk2,rrB_n hk2⟩
def chF (y:BT):Nat→BT→List BT
 | 0,_=>[]
 | k+1,x=>if x.t=y.t then [] else match upF x y with
  | none=>[]
  | some z=>z::chF y k z
theorem chF_len {y:BT}:∀ {k:Nat} {x:BT},(chF y k x).length≤k
 | 0,x=>by simp [chF]
 | k+1,x=>by
  simp only [chF]
  split
  ·simp
  ·split
   ·simp
   ·rename_i z _
    have:=chF_len (y:=y) (k:=k) (x:=z)
    simp only [qlc]; omega
theorem chF_e {y z:BT} {k:Nat} (h:z.t=y.t):chF y k z=[]:=by
 cases k with
 | zero=>rfl
 | succ k=>simp only [chF,if_pos h]
theorem atS_mapT {l:List BT} {i:Nat} (h:i<l.length):atS (l.map BT.t) (i:Nat)=(l[i]).t:=by
 simp [atS,h]
abbrev ocC (x y:BT):D:=.g [.n 1,.s x.t,.s y.t,LS (x.t::(chF y 64 x).map BT.t),.l [],.l [],.l []]
abbrev ocN:D:=.g [.n 0,.s [],.s [],.l [],.l [],.l [],.l []]
theorem putB_SO {x:List (List Nat)}:putB 3 (LS x,1)=true:=by simp [putB,LS,D.one,depB,D.flat]
theorem putB_lO:putB 3 (.l [],1)=true:=by simp [putB,D.one,depB,D.flat]
theorem co_i [HA K] [HRot K] {x y:BT} (hx:x.n≤8) (hy:y.n≤8) (h:leW x y):K 340 [.s x.t,.s y.t] [ocC x y,.b true]:=by
 have k1:=tl_i (K:=K) hx hy
 rw [leB_iff.2 h] at k1
 have wx:=w_sum hx
 have wy:=w_sum hy
 refine body_by (f:=ir_impl_ClaimOfOrder) rfl ?_; simp only [ir_impl_ClaimOfOrder,zn,zs,zq,zi,zg,zp]
 simp (disch:=first|omega|simp only[vl];omega) only [vcd]
 refine call_by (k1) rfl ?_
 simp (disch:=first|omega|simp only[vl];omega) only [vcd]
 refine loop_wh (fun (s:Nat×BT×List (List Nat))=>leW s.2.1 y∧s.2.1.n=x.n∧y.w.sum-s.2.1.w.sum≤s.1∧s.2.2.length+s.1≤65∧s.2.2++(chF y s.1 s.2.1).map BT.t=x.t::(chF y 64 x).map BT.t) (fun s=>[.u,.s y.t,ocN,.u,.g [.n 1,.s x.t,.s y.t,LS s.2.2,.l [],.l [],.l []],.s s.2.1.t,.u,.u,.u,.u,.u,.u,.u,.u]) (fun s=>s.1) (64,x,[x.t]) ⟨h,rfl,by show y.w.sum-x.w.sum≤64; omega,by simp,rfl⟩ rfl ?_
 rintro ⟨k,z,acc⟩ ⟨g1,g2,g3,g4,g5⟩
 simp only at g1 g2 g3 g4 g5 ⊢
 by_cases q:z.t=y.t
 ·rw [chF_e q,List.map_nil,List.append_nil] at g5
  have eb:(z.t == y.t)=true:=by rw [beq_iff_eq]; exact q
  simp (disch:=first|omega|simp only[vl];omega) only [vcd,LS_known,LI_known,LL_known,LS_one,putB_SO,putB_lO,eb]
  rw [g5]
 ·obtain ⟨w,e1,e2,e3,e4⟩:=upF_ok g1 (fun e=>q (by rw [e]))
  have e5:=leW_sum e2
  have eb:(z.t == y.t)=false:=by rw [beq_eq_false_iff_ne]; exact q
  cases k with
  | zero=>omega
  | succ k=>
   have e6:chF y (k+1) z=w::chF y k w:=by simp only [chF,if_neg q,e1]
   rw [e6] at g5
   obtain ⟨pw,i0,hi0,ei0,hlt⟩:=List.find?_eq_some_iff_getElem.1 e1
   have hl:=roL_len (f:=rrB) (x:=z) (k:=z.n)
   simp (disch:=first|omega|simp only[vl];omega) only [vcd,eb]
   refine call_by (rots_r (K:=K) (x:=z) (by omega)) rfl ?_
   simp (disch:=first|omega|simp only[vl];omega) only [vcd]
   refine loop_ix (fun i=>i≤i0) (fun i=>[.u,.s y.t,ocN,.u,.g [.n 1,.s x.t,.s y.t,LS acc,.l [],.l [],.l []],.s z.t,.u,.u,.u,LT_ (roL rrB z z.n),.n (roL rrB z z.n).length,.n i,.u,.u]) (roL rrB z z.n).length (Nat.zero_le _) (by simp) (fun i hi hP=>?_) (fun hP=>by omega)
   have ea:=atS_mapT hi
   obtain ⟨v,hv,hz⟩:=roL_mem (List.getElem_mem hi)
   have en:=rrB_n hz
   have k2:=tl_i (K:=K) (x:=(roL rrB z z.n)[i]) (y:=y) (by omega) hy
   by_cases qi:i=i0
   ·subst qi
    rw [ei0] at ea k2
    rw [pw] at k2
    simp (disch:=first|omega|simp only[vl];omega) only [vcd,ea]
    refine call_by (k2) rfl ?_
    simp (disch:=first|omega|simp only[vl];omega) only [vcd,LS_known,LI_known,LL_known,LS_one,uqD_S,ixL_0,ixL_s,Option.map_some,List.set]
    exact ⟨(k,w,acc++[w.t]),by simp,⟨e2,by simp only; omega,by simp only; omega,by simp; omega,by simp only; rw [← g5]; simp⟩,rfl⟩
   ·have:=hlt i (by omega)
    have this2:leB (roL rrB z z.n)[i] y=false:=by simpa using this
    rw [this2] at k2
    simp (disch:=first|omega|simp only[vl];omega) only [vcd,ea]
    refine call_by (k2) rfl ?_
    simp (disch:=first|omega|simp only[vl];omega) only [vcd]
    omega
def roE (x:BT) (i:Nat):List BT:=(List.range' (x.n-i) i).filterMap fun j:Nat=>rrB x j
theorem roE_all {x:BT}:roE x x.n=roL rrB x x.n:=by
 simp only [roE,roL,Nat.sub_self,List.range_eq_range']
theorem roE_s {x:BT} {i:Nat} (h:i<x.n):roE x (i+1)=(rrB x ((x.n-1-i:Nat):Int)).toList++roE x i:=by
 simp only [roE]
 rw [show x.n-(i+1)=x.n-1-i by omega,List.range'_succ,show x.n-1-i+1=x.n-i by omega,List.filterMap_cons]
 cases rrB x ((x.n-1-i:Nat):Int) <;> simp
theorem co_s [HA K] {x y:BT} (hx:x.n≤8) (hy:y.n≤8) (h:leW x y):K 339 [.s x.t,.s y.t] [ocC x y,.b true]:=by
 have k1:=tl_s (K:=K) hx hy
 rw [leB_iff.2 h] at k1
 have wx:=w_sum hx
 have wy:=w_sum hy
 refine body_by (f:=ir_spec_ClaimOfOrder) rfl ?_; simp only [ir_spec_ClaimOfOrder,zn,zs,zq,zi,zg,zp]
 simp (disch:=first|omega|simp only[vl];omega) only [vcd]
 refine call_by (k1) rfl ?_
 simp (disch:=first|omega|simp only[vl];omega) only [vcd]
 refine loop_wh (fun (s:Nat×BT×List (List Nat))=>leW s.2.1 y∧s.2.1.n=x.n∧y.w.sum-s.2.1.w.sum≤s.1∧s.2.2.length+s.1≤65∧s.2.2++(chF y s.1 s.2.1).map BT.t=x.t::(chF y 64 x).map BT.t) (fun s=>[.s x.t,.s y.t,ocN,.u,LS s.2.2,.s s.2.1.t,.u,.u,.u,.u,.u,.u,.u,.u]) (fun s=>s.1) (64,x,[x.t]) ⟨h,rfl,by show y.w.sum-x.w.sum≤64; omega,by simp,rfl⟩ rfl ?_
 rintro ⟨k,z,acc⟩ ⟨g1,g2,g3,g4,g5⟩
 simp only at g1 g2 g3 g4 g5 ⊢
 by_cases q:z.t=y.t
 ·rw [chF_e q,List.map_nil,List.append_nil] at g5
  have eb:(z.t == y.t)=true:=by rw [beq_iff_eq]; exact q
  simp (disch:=first|omega|simp only[vl];omega) only [vcd,LS_known,LI_known,LL_known,LS_one,putB_SO,putB_lO,eb]
  rw [g5]
 ·obtain ⟨w,e1,e2,e3,e4⟩:=upF_ok g1 (fun e=>q (by rw [e]))
  have e5:=leW_sum e2
  have eb:(z.t == y.t)=false:=by rw [beq_eq_false_iff_ne]; exact q
  cases k with
  | zero=>omega
  | succ k=>
   have e6:chF y (k+1) z=w::chF y k w:=by simp only [chF,if_neg q,e1]
   rw [e6] at g5
   simp (disch:=first|omega|simp only[vl];omega) only [vcd,eb]
   refine call_by (no_s (K:=K) (x:=z) (by omega)) rfl ?_
   simp (disch:=first|omega|simp only[vl];omega) only [vcd]
   refine loop_up (fun i (r:List Nat)=>r=(((roE z i).find? fun u=>leB u y).map BT.t).getD []) (fun i r=>[.s x.t,.s y.t,ocN,.u,LS acc,.s z.t,.s r,.n ((z.n:Int)-1-i),.u,.u,.u,.u,.u,.u]) z.n [] rfl (by simp) (fun i r hi hP=>?_) (fun r hP=>?_)
   ·have ev:(z.n:Int)-1-i=((z.n-1-i:Nat):Int):=by omega
    have hs:=roE_s hi
    simp (disch:=first|omega|simp only[vl];omega) only [vcd]
    have kr:=rr_s (K:=K) (x:=z) (v:=(z.n:Int)-1-i) (by omega) (by omega)
    have er:rrB z ((z.n:Int)-1-i)=rrB z ((z.n-1-i:Nat):Int):=by rw [ev]
    rw [roR,er] at kr
    refine call_by (kr) rfl ?_
    cases hu:rrB z ((z.n-1-i:Nat):Int) with
    | none=>
     rw [hu] at hs
     simp only [Option.isSome_none,Option.elim_none]
     simp (disch:=first|omega|simp only[vl];omega) only [vcd]
     refine ⟨r,?_,by simp; omega⟩
     rw [hP,hs]; simp
    | some u=>
     rw [hu] at hs
     have un:=rrB_n hu
     simp only [Option.isSome_some,Option.elim_some]
     simp (disch:=first|omega|simp only[vl];omega) only [vcd]
     refine call_by (tl_s (K:=K) (x:=u) (y:=y) (by omega) hy) rfl ?_
     cases hb:leB u y with
     | false=>
      simp (disch:=first|omega|simp only[vl];omega) only [vcd]
      refine ⟨r,?_,by simp; omega⟩
      rw [hP,hs]; simp [hb]
     | true=>
      simp (disch:=first|omega|simp only[vl];omega) only [vcd]
      refine ⟨u.t,?_,by simp; omega⟩
      rw [hs]; simp [hb]
   ·rw [roE_all] at hP
    have e1':=e1
    simp only [upF] at e1'
    rw [e1'] at hP
    simp only [Option.map_some,Option.getD_some] at hP
    subst hP
    simp (disch:=first|omega|simp only[vl];omega) only [vcd,LS_one]
    exact ⟨(k,w,acc++[w.t]),by simp,⟨e2,by simp only; omega,by simp only; omega,by simp; omega,by simp only; rw [← g5]; simp⟩,rfl⟩
end Go.Cat
