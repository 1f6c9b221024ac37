/-
 Friezes of rows of numbers: ears cut off, and the rows.
-/
import Derived.Test.YtgncagjobmbmaaaPfFrzM
set_option linter.unusedSimpArgs false
set_option linter.unusedVariables false
namespace Go.Cat
def qa (q:List Int) (i:Nat):Int:=atI q ((i % q.length:Nat):Int)
theorem qa_per {q:List Int} (k:Nat):qa q (k+q.length)=qa q k:=by simp [qa]
def pvQ (n j:Nat):Nat:=(j+n-1) % n
def nxQ (n j:Nat):Nat:=(j+1) % n
def dcQ (q:List Int) (j:Nat):List Int:=seI (seI q (pvQ q.length j:Nat) (atI q (pvQ q.length j:Nat)-1)) (nxQ q.length j:Nat) (atI (seI q (pvQ q.length j:Nat) (atI q (pvQ q.length j:Nat)-1)) (nxQ q.length j:Nat)-1)
def rmQ {α:Type} (l:List α) (j:Nat):List α:=l.take j++l.drop (j+1)
def cutQ (q:List Int) (j:Nat):List Int:=rmQ (dcQ q j) j
theorem seI_lenQ {l:List Int} {i x:Int}:(seI l i x).length=l.length:=by simp [seI]
theorem dcQ_len {q:List Int} {j:Nat}:(dcQ q j).length=q.length:=by simp [dcQ,seI]
theorem rmQ_len {α:Type} {l:List α} {j:Nat} (h:j<l.length):(rmQ l j).length=l.length-1:=by simp [rmQ]; omega
theorem cutQ_len {q:List Int} {j:Nat} (h:j<q.length):(cutQ q j).length=q.length-1:=by rw [cutQ,rmQ_len (by rw [dcQ_len]; exact h),dcQ_len]
theorem atI_se {l:List Int} {i k:Nat} {x:Int} (h:i<l.length):atI (seI l (i:Int) x) (k:Int)=if k=i then x else atI l (k:Int):=by
 simp only [atI,seI,qtn,qgd,List.getElem?_set]
 by_cases q:i=k
 ·subst q; simp [h]
 ·simp [q,Ne.symm q]
theorem rmQ_at {l:List Int} {j k:Nat} (h:j<l.length):atI (rmQ l j) (k:Int)=if k<j then atI l (k:Int) else atI l ((k+1:Nat):Int):=by
 simp only [atI,rmQ,qtn,qgd]
 by_cases q:k<j
 ·rw [if_pos q,qgl (by simp; omega),List.getElem?_take,if_pos q]
 ·rw [if_neg q,qgr (by simp; omega)]
  simp only [List.length_take,List.getElem?_drop]
  congr 2; omega
theorem dcQ_at {q:List Int} {j k:Nat} (hq:3≤q.length) (hj:j<q.length):atI (dcQ q j) (k:Int)=atI q (k:Int)-(if k=pvQ q.length j then 1 else 0)-(if k=nxQ q.length j then 1 else 0):=by
 have a:pvQ q.length j<q.length:=Nat.mod_lt _ (by omega)
 have b:nxQ q.length j<q.length:=Nat.mod_lt _ (by omega)
 have c:pvQ q.length j≠nxQ q.length j:=by
  unfold pvQ nxQ
  generalize q.length=n at*
  rcases qlg (j+1) n with h | h
  ·rw [Nat.mod_eq_of_lt h]
   cases j with
   | zero=>rw [Nat.mod_eq_of_lt (by omega)]; omega
   | succ j=>rw [show j+1+n-1=j+n by omega,Nat.add_mod_right,Nat.mod_eq_of_lt (by omega)]; omega
  ·obtain rfl:n=j+1:=by omega
   rw [Nat.mod_self,show j+(j+1)-1=j-1+(j+1) by omega,Nat.add_mod_right,Nat.mod_eq_of_lt (by omega)]; omega
 rw [dcQ,atI_se (by rw [seI_lenQ]; exact b),atI_se a,atI_se a]
 split
 ·rename_i h; subst h
  rw [if_neg (Ne.symm c),if_neg (Ne.symm c)]; omega
 ·split
  ·rename_i h; subst h; omega
  ·omega
theorem sg_mod {n j:Nat} (hn:pz n) (hj:j<n):∀ v,sg n j v % n=if v % (n-1)<j then v % (n-1) else v % (n-1)+1
 | 0=>by
  unfold sg
  rw [Nat.zero_mod]
  rcases hn with rfl | rfl | rfl | rfl | rfl | rfl | rfl <;> split <;> split <;> omega
 | v+1=>by
  have:=sg_mod hn hj v
  rw [sg_s]
  generalize sg n j v=s at this
  rcases hn with rfl | rfl | rfl | rfl | rfl | rfl | rfl <;> simp only [Nat.add_one_sub_one] at this ⊢ <;> split at this <;> split <;> split <;> omega
theorem ear_of {q:List Int} {j:Nat} (hq:pz q.length) (hj:j<q.length) (h1:atI q (j:Int)=1):Ear q.length j (qa q) (qa (cutQ q j)):=by
 have h4:4≤q.length:=by rcases hq with h | h | h | h | h | h | h <;> omega
 refine ⟨hq,hj,fun k hk=>by rw [qa,hk,h1],fun v=>?_⟩
 have e:=sg_mod hq hj v
 have hr:v % (q.length-1)<q.length-1:=Nat.mod_lt _ (by omega)
 have c1:∀ s,((s+1) % q.length=j↔s % q.length=pvQ q.length j):=fun s=>by
  unfold pvQ
  generalize q.length=n at hq hj
  rcases hq with rfl | rfl | rfl | rfl | rfl | rfl | rfl <;> omega
 have c2:∀ s,((s+q.length-1) % q.length=j↔s % q.length=nxQ q.length j):=fun s=>by
  unfold nxQ
  generalize q.length=n at hq hj
  rcases hq with rfl | rfl | rfl | rfl | rfl | rfl | rfl <;> omega
 simp only [c1,c2]
 rw [qa,qa,cutQ_len hj,cutQ,rmQ_at (by rw [dcQ_len]; exact hj),dcQ_at (by omega) hj,dcQ_at (by omega) hj,e]
 split <;> rfl
def f1Q (q:List Int):Nat:=q.findIdx (fun x=>x == 1)
def ctQ:Nat→List Int→Bool
 | 0,q=>q == [1,1,1]
 | f+1,q=>decide (f1Q q<q.length)&&ctQ f (cutQ q (f1Q q))
theorem f1Q_at {q:List Int} (h:f1Q q<q.length):atI q (f1Q q:Nat)=1:=by
 have:=List.findIdx_getElem (w:=h)
 simp only [beq_iff_eq] at this
 simp only [atI,qtn,qgd]
 rw [qge h]
 exact this
theorem pow1:∀ f:Nat,(1:Int)≤2 ^ f
 | 0=>by decide
 | f+1=>by have:=pow1 f; rw [Int.pow_succ]; omega
theorem ctQ_fr:∀ f (q:List Int),q.length=f+3→f≤7→(ctQ f q=true→FrA q.length (2 ^ f) (qa q))∧(∀ M,1≤M→FrA q.length M (qa q)→ctQ f q=true)
 | 0,q,hl,_=>by
  match q,hl with
  | [a,b,c],_=>
   refine ⟨fun h=>?_,fun M hM h=>?_⟩
   ·simp only [ctQ,beq_iff_eq,List.cons.injEq,and_true] at h
    obtain ⟨rfl,rfl,rfl⟩:=h
    refine (FrA.tri (by decide)).2 fun k=>?_
    have:(k+1) % 3=0∨(k+1) % 3=1∨(k+1) % 3=2:=by omega
    simp only [qa,qlc,qln]
    rcases this with h | h | h <;> rw [h] <;> rfl
   ·have:=(FrA.tri hM).1 h
    have a0:=this 2
    have a1:=this 0
    have a2:=this 1
    simp only [qa,qlc,qln,atI] at a0 a1 a2
    simp at a0 a1 a2
    simp [ctQ,a0,a1,a2]
 | f+1,q,hl,hf=>by
  have hz:pz q.length:=by unfold pz; omega
  refine ⟨fun h=>?_,fun M hM h=>?_⟩
  ·simp only [ctQ,qba,qde] at h
   have ih:=(ctQ_fr f (cutQ q (f1Q q)) (by rw [cutQ_len h.1]; omega) (by omega)).1 h.2
   rw [cutQ_len h.1] at ih
   have:=(ear_of hz h.1 (f1Q_at h.1)).glue qa_per (pow1 f) ih
   rw [show (2:Int) ^ (f+1)=2*2 ^ f by rw [Int.pow_succ,Int.mul_comm]]
   exact this
  ·obtain ⟨k,hk⟩:=h.one (by omega)
   have h1:f1Q q<q.length:=by
    refine List.findIdx_lt_length_of_exists ⟨qa q (k+1),?_,by rw [hk]; rfl⟩
    simp only [qa,atI,qtn,qgd]
    have:(k+1) % q.length<q.length:=Nat.mod_lt _ (by omega)
    rw [qge this]
    exact List.getElem_mem _
   simp only [ctQ,qba,qde]
   refine ⟨h1,(ctQ_fr f (cutQ q (f1Q q)) (by rw [cutQ_len h1]; omega) (by omega)).2 M hM ?_⟩
   rw [cutQ_len h1]
   exact (ear_of hz h1 (f1Q_at h1)).cut h
def rwQ (q:List Int) (r i:Nat):Int:=kq (fun t=>qa q (i+t)) r
theorem rwQ_per {q:List Int} {r i:Nat}:rwQ q r (i+q.length)=rwQ q r i:=kq_congr r fun t _=>by rw [← qa_per (i+t)]; congr 1; omega
theorem rwQ_mod {q:List Int} {r i:Nat}:rwQ q r (i % q.length)=rwQ q r i:=kq_congr r fun t _=>by simp [qa]
def frQ (q:List Int) (M:Int):Prop:=∀ i,(∀ m,1≤m→m<q.length→1≤rwQ q m i∧rwQ q m i≤M)∧rwQ q (q.length-1) i=1∧rwQ q q.length i=0
theorem frQ_iff {q:List Int} {M:Int} (h:1≤q.length):frQ q M↔FrA q.length M (qa q):=by
 have e:∀ u m,dq (qa q) u (u+m)=rwQ q m (u+1):=fun u m=>dq_kq m u
 constructor
 ·intro h u
  simp only [e]
  exact h (u+1)
 ·intro h2 i
  have:=h2 (i+q.length-1)
  simp only [e] at this
  simp only [show i+q.length-1+1=i+q.length by omega,rwQ_per] at this
  exact this
theorem rwQ_rule {q:List Int} {r i:Nat} (hq:1≤q.length):rwQ q (r+1) i*rwQ q (r+1) (i+1)-rwQ q r (i+1)*rwQ q (r+2) i=1:=by
 have e:∀ u m,dq (qa q) u (u+m)=rwQ q m (u+1):=fun u m=>dq_kq m u
 rw [← rwQ_per (i:=i+1) (r:=r+1),← rwQ_per (i:=i+1) (r:=r),← rwQ_per (i:=i) (r:=r+1),← rwQ_per (i:=i) (r:=r+2)]
 obtain ⟨u,hu⟩:∃ u,i+q.length=u+1:=⟨i+q.length-1,by omega⟩
 rw [show i+1+q.length=u+1+1 by omega,hu,← e,← e,← e,← e]
 have s1:∀ r,dq (qa q) u (u+1)=1∧dq (qa q) u (u+(r+1))*dq (qa q) (u+1) (u+1+(r+1))-dq (qa q) (u+1) (u+1+r)*dq (qa q) u (u+(r+2))=1:=by
  intro r
  refine ⟨dq_one u,?_⟩
  induction r with
  | zero=>
   have k1:dq (qa q) u (u+1)=1:=dq_one u
   have k2:dq (qa q) (u+1) (u+1+1)=1:=dq_one (u+1)
   have k3:dq (qa q) (u+1) (u+1+0)=0:=dt_self
   rw [Nat.zero_add,k1,k2,k3]; omega
  | succ r ih=>
   have k1:dq (qa q) (u+1) (u+1+(r+2))=qa q (u+1+(r+1))*dq (qa q) (u+1) (u+1+(r+1))-dq (qa q) (u+1) (u+1+r):=dt_step wv_flw wv_flw
   have k2:dq (qa q) u (u+(r+3))=qa q (u+(r+2))*dq (qa q) u (u+(r+2))-dq (qa q) u (u+(r+1)):=dt_step wv_flw wv_flw
   rw [show u+1+(r+1)=u+(r+2) by omega] at k1
   rw [show r+1+1=r+2 from rfl,show r+1+2=r+3 from rfl,k1,k2]
   rw [show u+1+(r+1)=u+(r+2) by omega] at ih ⊢
   grind
 exact (s1 r).2
end Go.Cat
