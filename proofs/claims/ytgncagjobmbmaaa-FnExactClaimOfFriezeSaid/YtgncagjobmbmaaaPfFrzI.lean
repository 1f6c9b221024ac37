/-
 Friezes: ears cut off by the program.
-/
import Derived.Test.YtgncagjobmbmaaaPfFrzS
import Derived.Test.YtgncagjobmbmaaaPfPerm
import Derived.Test.YtgncagjobmbmaaaPfSerB
import Derived.Test.YtgncagjobmbmaaaIrHas
set_option linter.unusedSimpArgs false
set_option linter.unusedVariables false
namespace Go.Cat
variable {K:Nat→List D→List D→Prop}
class HDel (K:Nat→List D→List D→Prop):Prop where
 del:∀ (l:List Int) (i:Nat),i<l.length→l.length≤1000→K 212 [LI l,.n i,.n ((i:Int)+1)] [LI (rmQ l i)]
theorem f1Q_no {l:List Int} {i:Nat} (h:∀ j:Nat,j<i→atI l j≠1) (hi:i≤l.length):i≤f1Q l:=by
 rcases qlg (f1Q l) i with q | q
 ·exact absurd (f1Q_at (q:=l) (by omega)) (h _ q)
 ·exact q
theorem f1Q_is {l:List Int} {i:Nat} (h:∀ j:Nat,j<i→atI l j≠1) (hi:i<l.length) (h1:atI l i=1):f1Q l=i:=by
 have:=f1Q_no h (by omega)
 have h2:f1Q l≤i:=by
  refine Nat.le_of_not_lt fun q=>?_
  have:=List.not_of_lt_findIdx q
  have e:l[i]'(by omega)=atI l i:=by simp [atI,hi]
  rw [e,h1] at this
  cases this
 omega
theorem idx1_ok [HA K] {l:List Int} (h:l.length≤1000000):K 179 [LI l,.n 1] [.n (if f1Q l<l.length then (f1Q l:Int) else -1)]:=by
 refine body_by (f:=ir_slices_Index___int_int_) rfl ?_; simp only [ir_slices_Index___int_int_,zn,zs,zq,zi,zg,zp]
 simp (disch:=first|omega|simp only[vl];omega) only [vcd]
 refine loop_ix (fun i=>∀ j:Nat,j<i→atI l j≠1) (fun i=>[LI l,.n 1,.u,.u,.n l.length,.n i,.u,.u]) l.length (by omega) rfl (fun i hi hP=>?_) (fun hP=>?_)
 ·by_cases hx:atI l i=1
  ·have e:=f1Q_is hP hi hx
   simp (disch:=first|omega|simp only[vl];omega) only [vcd]
   rw [e,if_pos hi]
  ·simp (disch:=first|omega|simp only[vl];omega) only [vcd]
   exact all_s hP hx
 ·have e:=f1Q_no hP (Nat.le_refl _)
  simp (disch:=first|omega|simp only[vl];omega) only [vcd]
  rw [if_neg (by omega)]
def dgQ (n:Nat) (c:List Int) (j:Nat):List Int:=[min (atI c (pvQ n j:Nat)) (atI c (nxQ n j:Nat)),max (atI c (pvQ n j:Nat)) (atI c (nxQ n j:Nat))]
def ctO:Nat→List Int→List Int→List (List Int)→Option (List (List Int)×List Int)
 | 0,l,_,o=>some (o,l)
 | f+1,l,c,o=>if f1Q l<l.length then ctO f (cutQ l (f1Q l)) (rmQ c (f1Q l)) (o++[dgQ l.length c (f1Q l)]) else none
def rnQ (n:Nat):List Int:=(List.range n).map fun i:Nat=>(i:Int)
def ctR (q:List Int):Option (List (List Int)×List Int):=if fzB q=true then ctO (q.length-3) q (rnQ q.length) [] else none
def ctB (x:Option (List (List Int)×List Int)):Bool:=match x with
 | some x=>decide (x.2=[1,1,1])
 | none=>false
def ctL (x:Option (List (List Int)×List Int)):List (List Int):=match x with
 | some x=>x.1
 | none=>[]
theorem ctO_b:∀ f (l c:List Int) (o:List (List Int)),ctB (ctO f l c o)=ctQ f l
 | 0,l,c,o=>by
  simp only [ctO,ctB,ctQ]
  by_cases h:l=[1,1,1] <;> simp [h]
 | f+1,l,c,o=>by
  simp only [ctO,ctQ]
  by_cases h:f1Q l<l.length
  ·rw [if_pos h,ctO_b f,decide_eq_true h,Bool.true_and]
  ·rw [if_neg h,decide_eq_false h]; rfl
theorem rmQ_mem {α:Type} {l:List α} {j:Nat} {x:α} (h:x∈rmQ l j):x∈l:=by
 rcases qma.1 h with h | h
 ·exact List.mem_of_mem_take h
 ·exact List.mem_of_mem_drop h
theorem seI_mem {l:List Int} {i x y:Int} (h:y∈seI l i x):y=x∨y∈l:=by
 rcases List.mem_or_eq_of_mem_set h with h | h
 ·exact .inr h
 ·exact .inl h
theorem cutQ_bd {l:List Int} {j:Nat} {a b:Int} (hl:3≤l.length) (hj:j<l.length) (h:∀ x∈l,a+1≤x∧x≤b):∀ x∈cutQ l j,a≤x∧x≤b:=by
 intro x hx
 obtain ⟨k,hk,e⟩:=List.mem_iff_getElem.1 (rmQ_mem hx)
 rw [dcQ_len] at hk
 have e2:atI (dcQ l j) (k:Int)=x:=by rw [← e]; simp [atI,dcQ_len,hk]
 rw [dcQ_at hl hj] at e2
 have hm:=h (atI l k) (by simp [atI,hk])
 have hne:¬ (k=pvQ l.length j∧k=nxQ l.length j):=by
  rintro ⟨q1,q2⟩
  rw [q1] at q2
  have:=dcQ_at (q:=l) (j:=j) (k:=pvQ l.length j) hl hj
  revert q2
  unfold pvQ nxQ
  generalize l.length=n at*
  rcases qlg (j+1) n with h | h
  ·rw [Nat.mod_eq_of_lt h]
   cases j with
   | zero=>rw [Nat.mod_eq_of_lt (by omega)]; omega
   | succ j=>rw [show j+1+n-1=j+n by omega,Nat.add_mod_right,Nat.mod_eq_of_lt (by omega)]; omega
  ·obtain rfl:n=j+1:=by omega
   rw [Nat.mod_self,show j+(j+1)-1=j-1+(j+1) by omega,Nat.add_mod_right,Nat.mod_eq_of_lt (by omega)]; omega
 split at e2 <;> split at e2 <;> omega
theorem cuts_i [HA K] [HDel K] {q:List Int} (h:q.length≤1048576):K 204 [LI q] [LL (ctL (ctR q)),.b (ctB (ctR q))]:=by
 refine body_by (f:=ir_impl_cuts) rfl ?_; simp only [ir_impl_cuts,zn,zs,zq,zi,zg,zp]
 simp (disch:=first|omega|simp only[vl];omega) only [vcd]
 refine call_by (within_ok (K:=K)) rfl ?_
 cases hn:inR 3 10 q.length
 ·have e:ctR q=none:=by rw [ctR,if_neg (by simp [fzB,hn])]
  simp (disch:=first|omega|simp only[vl];omega) only [vcd]
  simp [e,ctL,ctB,LL]
 have hn2:=inR_iff.1 hn
 simp (disch:=first|omega|simp only[vl];omega) only [vcd]
 refine loop_ix (fun i=>∀ j:Nat,j<i→inR 1 100 (atI q j)=true) (fun i=>[LI q,.u,.u,.u,.u,.u,.u,.u,.u,.u,.u,.u,.u,LI q,.n q.length,.n i,.u,.u,.u,.u,.u,.u,.u]) q.length (by omega) rfl (fun i hi hP=>?_) (fun hP=>?_)
 ·cases hx:inR 1 100 (atI q i)
  ·have e:ctR q=none:=by rw [ctR,if_neg (by simp [fzB,all_f hi hx])]
   simp (disch:=first|omega|simp only[vl];omega) only [vcd]
   repeat (first | (refine call_by (within_ok (K:=K)) rfl ?_; try simp (disch:=first|omega|simp only[vl];omega) only [vcd,hx]))
   simp [e,ctL,ctB,LL]
  ·simp (disch:=first|omega|simp only[vl];omega) only [vcd]
   repeat (first | (refine call_by (within_ok (K:=K)) rfl ?_; try simp (disch:=first|omega|simp only[vl];omega) only [vcd,hx]))
   exact all_s hP hx
 ·have hz:fzB q=true:=by simp [fzB,hn,all_t hP]
  obtain ⟨z1,z2,z3⟩:=fzB_iff.1 hz
  have eR:ctR q=ctO (q.length-3) q (rnQ q.length) []:=by rw [ctR,if_pos hz]
  simp (disch:=first|omega|simp only[vl];omega) only [vcd]
  refine call_by (copyInts_ok (K:=K) (p:=q) (by omega)) rfl ?_
  simp (disch:=first|omega|simp only[vl];omega) only [vcd]
  refine loop_up (fun i (r:List Int)=>r=rnQ i) (fun i r=>[.u,.u,.u,.u,LI q,LI r,.u,.u,.u,.u,.u,.u,.u,.u,.u,.u,.u,.u,.n q.length,.n i,.u,.u,.u]) q.length [] rfl rfl (fun i r hi hP=>?_) (fun r hP=>?_)
  ·have hr:r.length=i:=by rw [hP]; simp [rnQ]
   simp (disch:=first|omega|simp only[vl];omega) only [vcd]
   refine ⟨_,?_,rfl⟩
   rw [hP,rnQ,rnQ,map_snocQ]
  ·subst hP
   simp (disch:=first|omega|simp only[vl];omega) only [vcd]
   refine loop_wh (fun (x:Nat×List Int×List Int×List (List Int))=>x.2.1.length=x.1+3∧x.2.2.1.length=x.1+3∧x.1≤7∧(∀ y∈x.2.1,(x.1:Int)-10≤y∧y≤100)∧x.2.2.2.length+x.1≤7∧ctO x.1 x.2.1 x.2.2.1 x.2.2.2=ctR q)
    (fun x=>[.u,.u,.u,.u,LI x.2.1,LI x.2.2.1,.u,LL x.2.2.2,.u,.u,.u,.u,.u,.u,.u,.u,.u,.u,.u,.u,.u,.u,.u]) (fun x=>x.1) (q.length-3,q,rnQ q.length,[]) ⟨by simp only; omega,by simp [rnQ]; omega,by simp only; omega,fun y hy=>by have:=z1 y hy; simp only; omega,by simp only [qln]; omega,eR.symm⟩ rfl ?_
   rintro ⟨f,l,c,o⟩ ⟨g1,g2,g3,g4,g5,g6⟩
   simp only at g1 g2 g3 g4 g5 g6 ⊢
   cases f with
   | zero=>
    simp only [ctO] at g6
    simp (disch:=first|omega|simp only[vl];omega) only [vcd]
    refine call_by (equalInts_ok (K:=K) (a:=l) (b:=[1,1,1]) (by omega)) rfl ?_
    simp (disch:=first|omega|simp only[vl];omega) only [vcd]
    rw [← g6]
    rfl
   | succ f=>
    simp (disch:=first|omega|simp only[vl];omega) only [vcd]
    refine call_by (idx1_ok (K:=K) (l:=l) (by omega)) rfl ?_
    by_cases hj:f1Q l<l.length
    ·rw [if_pos hj]
     have e1:((f1Q l:Int)+l.length-1) % (l.length:Int)=(pvQ l.length (f1Q l):Nat):=by
      rw [show (f1Q l:Int)+l.length-1=((f1Q l+l.length-1:Nat):Int) by omega]; simp [pvQ,Int.natCast_emod]
     have e2:((f1Q l:Int)+1) % (l.length:Int)=(nxQ l.length (f1Q l):Nat):=by simp [nxQ,Int.natCast_emod]
     have p1:pvQ l.length (f1Q l)<l.length:=Nat.mod_lt _ (by omega)
     have p2:nxQ l.length (f1Q l)<l.length:=Nat.mod_lt _ (by omega)
     have m1:=g4 _ (atI_memQ p1)
     have p3:nxQ l.length (f1Q l)<(seI l (pvQ l.length (f1Q l):Nat) (atI l (pvQ l.length (f1Q l):Nat)-1)).length:=by rw [seI_lenQ]; exact p2
     have m2:(f:Int)-10≤atI (seI l (pvQ l.length (f1Q l):Nat) (atI l (pvQ l.length (f1Q l):Nat)-1)) (nxQ l.length (f1Q l):Nat)∧atI (seI l (pvQ l.length (f1Q l):Nat) (atI l (pvQ l.length (f1Q l):Nat)-1)) (nxQ l.length (f1Q l):Nat)≤100:=by
      rcases seI_mem (atI_memQ p3) with q | q
      ·rw [q]; omega
      ·have:=g4 _ q; omega
     simp (disch:=first|omega|simp only[vl];omega) only [vcd,e1,e2,seI_lenQ,LL_appQ]
     have dl1:=HDel.del (K:=K) (dcQ l (f1Q l)) (f1Q l) (by rw [dcQ_len]; exact hj) (by rw [dcQ_len]; omega)
     have dl2:=HDel.del (K:=K) c (f1Q l) (by omega) (by omega)
     refine call_by (dl1) rfl ?_
     simp (disch:=first|omega|simp only[vl];omega) only [vcd]
     refine call_by (dl2) rfl ?_
     simp (disch:=first|omega|simp only[vl];omega) only [vcd]
     have k1:(cutQ l (f1Q l)).length=f+3:=by rw [cutQ_len hj]; omega
     have k2:(rmQ c (f1Q l)).length=f+3:=by rw [rmQ_len (by omega)]; omega
     have k3:ctO f (cutQ l (f1Q l)) (rmQ c (f1Q l)) (o++[dgQ l.length c (f1Q l)])=ctR q:=by
      rw [← g6,ctO,if_pos hj]
     refine ⟨(f,cutQ l (f1Q l),rmQ c (f1Q l),o++[dgQ l.length c (f1Q l)]),by simp,⟨k1,k2,by simp only; omega,?_,by simp only [qla,qlc,qln]; omega,k3⟩,rfl⟩
     exact cutQ_bd (by omega) hj fun x hx=>by have:=g4 x hx; omega
    ·rw [if_neg hj]
     simp only [ctO,if_neg hj] at g6
     simp (disch:=first|omega|simp only[vl];omega) only [vcd]
     rw [← g6]
     rfl
end Go.Cat
