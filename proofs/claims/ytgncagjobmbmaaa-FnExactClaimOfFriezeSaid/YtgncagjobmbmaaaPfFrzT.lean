/-
 Quiddities of the reference, and the triangulations of both.
-/
import Derived.Test.YtgncagjobmbmaaaPfFrzI
import Derived.Test.YtgncagjobmbmaaaPfTurn
import Derived.Test.YtgncagjobmbmaaaIrHas
set_option linter.unusedSimpArgs false
set_option linter.unusedVariables false
namespace Go.Cat
variable {K:Nat→List D→List D→Prop}
theorem pv_ne {n j:Nat} (hn:3≤n) (hj:j<n):pvQ n j≠nxQ n j:=by
 unfold pvQ nxQ
 rcases qlg (j+1) n with h | h
 ·rw [Nat.mod_eq_of_lt h]
  cases j with
  | zero=>rw [Nat.mod_eq_of_lt (by omega)]; omega
  | succ j=>rw [show j+1+n-1=j+n by omega,Nat.add_mod_right,Nat.mod_eq_of_lt (by omega)]; omega
 ·obtain rfl:n=j+1:=by omega
  rw [Nat.mod_self,show j+(j+1)-1=j-1+(j+1) by omega,Nat.add_mod_right,Nat.mod_eq_of_lt (by omega)]; omega
def dcR (l:List Int) (j:Nat):List Int:=seI (seI l (nxQ l.length j:Nat) (atI l (nxQ l.length j:Nat)-1)) (pvQ l.length j:Nat) (atI (seI l (nxQ l.length j:Nat) (atI l (nxQ l.length j:Nat)-1)) (pvQ l.length j:Nat)-1)
theorem dcR_eq {l:List Int} {j:Nat} (hl:3≤l.length) (hj:j<l.length):dcR l j=dcQ l j:=by
 have a:pvQ l.length j<l.length:=Nat.mod_lt _ (by omega)
 have b:nxQ l.length j<l.length:=Nat.mod_lt _ (by omega)
 have c:=pv_ne hl hj
 rw [dcR,dcQ,atI_se b,atI_se a,if_neg c,if_neg (Ne.symm c)]
 simp only [seI,qtn]
 exact List.set_comm _ _ (Ne.symm c)
theorem cutR_eq {l:List Int} {j:Nat} (hl:3≤l.length) (hj:j<l.length):rmQ (dcR l j) j=cutQ l j:=by rw [dcR_eq hl hj]; rfl
def scI (l:List Int) (k:Nat) (at_:Int):Prop:=(at_=-1∧∀ j:Nat,k≤j→j<l.length→atI l j≠1)∨∃ t:Nat,at_=t∧k≤t∧t<l.length∧atI l t=1∧∀ j:Nat,k≤j→j<t→atI l j≠1
theorem scI_0 {l:List Int} {at_:Int} (h:scI l 0 at_):at_=if f1Q l<l.length then (f1Q l:Int) else -1:=by
 rcases h with ⟨rfl,h⟩ | ⟨t,rfl,_,h2,h3,h4⟩
 ·have:=f1Q_no (l:=l) (i:=l.length) (fun j hj=>h j (Nat.zero_le _) hj) (Nat.le_refl _)
  rw [if_neg (by omega)]
 ·have:=f1Q_is (l:=l) (i:=t) (fun j hj=>h4 j (Nat.zero_le _) hj) h2 h3
  rw [this,if_pos h2]
theorem scI_y {l:List Int} {k:Nat} {at_:Int} (hk:k<l.length) (h1:atI l k=1):scI l k (k:Int):=.inr ⟨k,rfl,Nat.le_refl _,hk,h1,fun j a b=>by omega⟩
theorem scI_n {l:List Int} {k:Nat} {at_:Int} (h:scI l (k+1) at_) (h1:atI l k≠1):scI l k at_:=by
 have e:∀ j:Nat,k≤j→k+1≤j∨j=k:=fun j hj=>by omega
 rcases h with ⟨rfl,h⟩ | ⟨t,rfl,g1,g2,g3,g4⟩
 ·refine .inl ⟨rfl,fun j a b=>?_⟩
  rcases e j a with q | rfl
  ·exact h j q b
  ·exact h1
 ·refine .inr ⟨t,rfl,by omega,g2,g3,fun j a b=>?_⟩
  rcases e j a with q | rfl
  ·exact g4 j q b
  ·exact h1
theorem appF {p:List Int} (h:p.length≤1048576):appD false (.l []) (LI p)=some (LI p):=LI_app (zs:=[]) (by simp; omega)
theorem sub_rm {l:List Int} {j:Nat} (h:j<l.length):sub l 0 (j:Int)++sub l ((j:Int)+1) (l.length:Int)=rmQ l j:=by
 simp only [sub,rmQ,qtn,Int.toNat_zero,List.drop_zero,List.take_length]
 rw [show ((j:Int)+1).toNat=j+1 by omega]
theorem sub_l1 {l:List Int} {j:Nat} (h:j<l.length):(sub l 0 (j:Int)).length=j:=by simp [sub]; omega
theorem sub_l2 {l:List Int} {j:Nat} (h:j<l.length):(sub l ((j:Int)+1) (l.length:Int)).length=l.length-(j+1):=by
 simp only [sub,qtn,List.take_length]
 rw [show ((j:Int)+1).toNat=j+1 by omega,List.length_drop]
theorem ctR_b {q:List Int} (h:fzB q=true):ctB (ctR q)=ctQ (q.length-3) q:=by rw [ctR,if_pos h,ctO_b]
theorem ctR_f {q:List Int} (h:fzB q=false):ctB (ctR q)=false:=by rw [ctR,if_neg (by simp [h])]; rfl
theorem len3 {l:List Int} (h:l.length=3):∃ a b c,l=[a,b,c]:=by
 match l,h with
 | [a,b,c],_=>exact ⟨a,b,c,rfl⟩
theorem isq_s [HA K] {q:List Int} (h:q.length≤1048576):K 361 [LI q] [.b (ctB (ctR q))]:=by
 refine body_by (f:=ir_spec_IsQuiddity) rfl ?_; simp only [ir_spec_IsQuiddity,zn,zs,zq,zi,zg,zp]
 simp (disch:=first|omega|simp only[vl];omega) only [vcd]
 refine call_by (fine_s (K:=K) h) rfl ?_
 cases hz:fzB q
 ·rw [ctR_f hz]
  simp (disch:=first|omega|simp only[vl];omega) only [vcd]
 ·rw [ctR_b hz]
  obtain ⟨z1,z2,z3⟩:=fzB_iff.1 hz
  simp (disch:=first|omega|simp only[vl];omega) only [vcd,appZ]
  refine loop_wh (fun (x:Nat×List Int)=>x.2.length=x.1+3∧x.1≤7∧(∀ y∈x.2,(x.1:Int)-10≤y∧y≤100)∧ctQ x.1 x.2=ctQ (q.length-3) q)
   (fun x=>[.u,.u,LI x.2,.u,.u,.u,.u,.u,.u,.u,.u]) (fun x=>x.1) (q.length-3,q) ⟨by simp only; omega,by simp only; omega,fun y hy=>by have:=z1 y hy; simp only; omega,rfl⟩ rfl ?_
  rintro ⟨f,l⟩ ⟨g1,g3,g4,g6⟩
  simp only at g1 g3 g4 g6 ⊢
  cases f with
  | zero=>
   simp only [ctQ] at g6
   rw [← g6]
   obtain ⟨a,b,c,rfl⟩:=len3 g1
   have e0:atI [a,b,c] 0=a:=rfl
   have e1:atI [a,b,c] 1=b:=rfl
   have e2:atI [a,b,c] 2=c:=rfl
   by_cases h1:a=1
   ·by_cases h2:b=1
    ·by_cases h3:c=1
     ·simp (disch:=first|omega|simp only[vl];omega) only [vcd,e0,e1,e2]
      simp [h1,h2,h3]
     ·simp (disch:=first|omega|simp only[vl];omega) only [vcd,e0,e1,e2]
      simp [h1,h2,h3]
    ·simp (disch:=first|omega|simp only[vl];omega) only [vcd,e0,e1,e2]
     simp [h1,h2]
   ·simp (disch:=first|omega|simp only[vl];omega) only [vcd,e0,e1,e2]
    simp [h1]
  | succ f=>
   simp (disch:=first|omega|simp only[vl];omega) only [vcd]
   refine loop_wh (fun (x:Nat×Int)=>x.1≤l.length∧scI l x.1 x.2) (fun x=>[.u,.u,LI l,.n x.2,.n ((x.1:Int)-1),.u,.u,.u,.u,.u,.u]) (fun x=>x.1) (l.length,-1) ⟨Nat.le_refl _,.inl ⟨rfl,fun j a b=>by omega⟩⟩ rfl ?_
   rintro ⟨k,at_⟩ ⟨k1,k2⟩
   simp only at k1 k2 ⊢
   cases k with
   | zero=>
    have k3:=scI_0 k2
    simp (disch:=first|omega|simp only[vl];omega) only [vcd]
    by_cases hj:f1Q l<l.length
    ·rw [if_pos hj] at k3
     subst k3
     have e1:((f1Q l:Int)+l.length-1) % (l.length:Int)=(pvQ l.length (f1Q l):Nat):=by
      rw [show (f1Q l:Int)+l.length-1=((f1Q l+l.length-1:Nat):Int) by omega]; simp [pvQ,Int.natCast_emod]
     have e2:((f1Q l:Int)+1) % (l.length:Int)=(nxQ l.length (f1Q l):Nat):=by simp [nxQ,Int.natCast_emod]
     have p1:pvQ l.length (f1Q l)<l.length:=Nat.mod_lt _ (by omega)
     have p2:nxQ l.length (f1Q l)<l.length:=Nat.mod_lt _ (by omega)
     have m1:=g4 _ (atI_memQ p2)
     have p3:pvQ l.length (f1Q l)<(seI l (nxQ l.length (f1Q l):Nat) (atI l (nxQ l.length (f1Q l):Nat)-1)).length:=by rw [seI_lenQ]; exact p1
     have m2:(f:Int)-10≤atI (seI l (nxQ l.length (f1Q l):Nat) (atI l (nxQ l.length (f1Q l):Nat)-1)) (pvQ l.length (f1Q l):Nat)∧atI (seI l (nxQ l.length (f1Q l):Nat) (atI l (nxQ l.length (f1Q l):Nat)-1)) (pvQ l.length (f1Q l):Nat)≤100:=by
      rcases seI_mem (atI_memQ p3) with q | q
      ·rw [q]; omega
      ·have:=g4 _ q; omega
     have hd:seI (seI l (nxQ l.length (f1Q l):Nat) (atI l (nxQ l.length (f1Q l):Nat)-1)) (pvQ l.length (f1Q l):Nat) (atI (seI l (nxQ l.length (f1Q l):Nat) (atI l (nxQ l.length (f1Q l):Nat)-1)) (pvQ l.length (f1Q l):Nat)-1)=dcR l (f1Q l):=rfl
     have hdl:(dcR l (f1Q l)).length=l.length:=by simp [dcR,seI]
     have s1:=sub_l1 (l:=dcR l (f1Q l)) (j:=f1Q l) (by omega)
     have s2:=sub_l2 (l:=dcR l (f1Q l)) (j:=f1Q l) (by omega)
     have s3:=sub_rm (l:=dcR l (f1Q l)) (j:=f1Q l) (by omega)
     have s4:=cutR_eq (l:=l) (j:=f1Q l) (by omega) hj
     rw [hdl] at s2 s3
     simp (disch:=first|omega|simp only[vl];omega) only [vcd,e1,e2,seI_lenQ,hd,hdl,appF]
     trace_state
     have k1:(cutQ l (f1Q l)).length=f+3:=by rw [cutQ_len hj]; omega
     have k3:ctQ f (cutQ l (f1Q l))=ctQ (q.length-3) q:=by
      rw [← g6,ctQ,decide_eq_true hj,Bool.true_and]
     refine ⟨(f,cutQ l (f1Q l)),by simp,⟨k1,by simp only; omega,?_,k3⟩,?_⟩
     ·exact cutQ_bd (by omega) hj fun x hx=>by have:=g4 x hx; omega
     ·rw [s3,s4]
    ·rw [if_neg hj] at k3
     subst k3
     simp (disch:=first|omega|simp only[vl];omega) only [vcd]
     rw [← g6,ctQ,decide_eq_false hj,Bool.false_and]
   | succ k=>
    have e3:((k:Int)+1-1)=(k:Int):=by omega
    by_cases h1:atI l k=1
    ·simp (disch:=first|omega|simp only[vl];omega) only [vcd,e3]
     exact ⟨(k,(k:Int)),by simp,⟨by simp only; omega,scI_y (at_:=0) (by omega) h1⟩,rfl⟩
    ·simp (disch:=first|omega|simp only[vl];omega) only [vcd,e3]
     exact ⟨(k,at_),by simp,⟨by simp only; omega,scI_n k2 h1⟩,rfl⟩
end Go.Cat
