/-
 Quiddities and triangulations of at most eight corners: each gives the other; by the kernel.
-/
import Derived.Test.YtnjjceodpbhlmaaGreatPfCkT
import Derived.Test.YtnjjceodpbhlmaaGreatPfFrzT
import Derived.Test.YtnjjceodpbhlmaaGreatPfWayD
import Derived.Test.YtnjjceodpbhlmaaGreatPfMatP
import Derived.Test.YtnjjceodpbhlmaaGreatIrHas
import Derived.Test.YtnjjceodpbhlmaaGreatPfCkL
import Derived.Test.YtnjjceodpbhlmaaGreatPfStat
import Derived.Test.YtnjjceodpbhlmaaGreatPfMWalk
import Derived.Test.YtnjjceodpbhlmaaGreatPfRankA
set_option linter.unusedSimpArgs false
set_option linter.unusedVariables false
namespace Go.Cat
variable {K:Nat→List D→List D→Prop}
set_option maxRecDepth 100000
def fcM {α:Type} (x:Int) (k:Int→α):α:=if x=0 then k 0 else if x=1 then k 1 else if x=2 then k 2 else if x=3 then k 3 else if x=4 then k 4 else if x=5 then k 5 else if x=6 then k 6 else if x=7 then k 7 else k x
theorem AMU {α:Type} {x:Int} {k:Int→α}:fcM x k=k x:=by
 unfold fcM
 repeat' split
 all_goals first | rfl | (rename_i h; rw [h])
def JW {α:Type}:List Int→(List Int→α)→α
 | [],k=>k []
 | x::t,k=>fcM x fun x'=>JW t fun t'=>k (x'::t')
theorem Pe {α:Type}:∀ {l:List Int} {k:List Int→α},JW l k=k l
 | [],k=>rfl
 | x::t,k=>by rw [JW,AMU,Pe]
def L9 {α:Type}:List (List Int)→(List (List Int)→α)→α
 | [],k=>k []
 | r::t,k=>JW r fun r'=>L9 t fun t'=>k (r'::t')
theorem Ts {α:Type}:∀ {l:List (List Int)} {k:List (List Int)→α},L9 l k=k l
 | [],k=>rfl
 | r::t,k=>by rw [L9,Pe,Ts]
def qcK (n:Nat) (d:List (List Int)):List Int:=L9 (oA n d n n) fun L=>Cb n fun v=>cS v L
theorem AC6 {n:Nat} {d:List (List Int)}:qcK n d=Cb n fun v=>cS v (oA n d n n):=Ts
def glu (j:Nat) (l:List Int):List Int:=let r:=l.take j++1::l.drop j
 Aw (Aw r (BM r.length j:Nat) (AD r (BM r.length j:Nat)+1)) (Ax r.length j:Nat) (AD r (Ax r.length j:Nat)+1)
theorem APC {a b:List Int} (h:a.length=b.length) (hk:∀ k:Nat,k<a.length→AD a (k:Int)=AD b (k:Int)):a=b:=by
 refine List.ext_getElem h fun i h1 h2=>?_
 have:=hk i h1
 simpa [AD,h1,h2] using this
theorem ARJ {q:List Int} {j:Nat} (hq:3≤q.length) (hj:j<q.length) (h1:AD q (j:Int)=1):glu j (Cl q j)=q:=by
 have a:BM q.length j<q.length:=Nat.mod_lt _ (by omega)
 have b:Ax q.length j<q.length:=Nat.mod_lt _ (by omega)
 have c:=ZZ hq hj
 have hl:=Iz (q:=q) (j:=j)
 have pj:BM q.length j≠j:=by
  unfold BM
  intro e
  cases j with
  | zero=>rw [Nat.mod_eq_of_lt (by omega)] at e; omega
  | succ j=>rw [show j+1+q.length-1=j+q.length by omega,Nat.add_mod_right,Nat.mod_eq_of_lt (by omega)] at e; omega
 have nj:Ax q.length j≠j:=by
  unfold Ax
  intro e
  rcases CC (j+1) q.length with h | h
  ·rw [Nat.mod_eq_of_lt h] at e; omega
  ·obtain e2:q.length=j+1:=by omega
   rw [e2,Nat.mod_self] at e; omega
 have hd1:AD (EB q j) (j:Int)=1:=by
  rw [JY hq hj,if_neg (Ne.symm pj),if_neg (Ne.symm nj),h1]; rfl
 have hr:(Cl q j).take j++1::(Cl q j).drop j=EB q j:=by
  have e1:(Cl q j).take j=(EB q j).take j:=by
   simp only [Cl,Dy]
   rw [List.take_append_of_le_length (by simp; omega),List.take_take,Nat.min_self]
  have e2:(Cl q j).drop j=(EB q j).drop (j+1):=by
   simp only [Cl,Dy]
   rw [List.drop_append_of_le_length (by simp; omega)]
   simp
  have e3:(EB q j)[j]'(by omega)=1:=by
   have:=hd1
   simpa [AD,show j<(EB q j).length by omega] using this
  rw [e1,e2]
  have:=List.drop_eq_getElem_cons (l:=EB q j) (i:=j) (by omega)
  rw [e3] at this
  rw [← this,List.take_append_drop]
 simp only [glu,hr,hl]
 refine APC (by rw [Eu,Eu,hl]) fun k hk=>?_
 rw [Eu,Eu,hl] at hk
 rw [Hk (by rw [Eu,hl]; exact b),Hk (by rw [hl]; exact a),JY hq hj,JY hq hj,JY hq hj]
 by_cases k1:k=Ax q.length j
 ·subst k1
  rw [if_pos rfl,if_neg (Ne.symm c),if_pos rfl]; omega
 ·rw [if_neg k1]
  by_cases k2:k=BM q.length j
  ·subst k2
   rw [if_pos rfl,if_pos rfl,if_neg c]; omega
  ·rw [if_neg k2,if_neg k2,if_neg k1]; omega
noncomputable def G9:Nat→(List Int→Bool)→Bool
 | 0,P=>P [1,1,1]
 | f+1,P=>G9 f fun q=>Ez (f+4) fun j=>JW (glu j q) fun q'=>!decide (AM q'=j) || P q'
theorem Gt:∀ {f:Nat} {P:List Int→Bool} {q:List Int},G9 f P=true→q.length=f+3→Dk f q=true→P q=true
 | 0,P,q,h,_,hc=>by
  have:q=[1,1,1]:=by simpa [Dk] using hc
  rw [this]; exact h
 | f+1,P,q,h,hl,hc=>by
  simp only [Dk,Ac,Aj] at hc
  have h1:=Qb hc.1
  have hg:=ARJ (q:=q) (by omega) hc.1 h1
  have:=Gt (f:=f) h (by rw [Pu hc.1]; omega) hc.2
  have:=Ep this (AM q) (by omega)
  rw [Pe,hg] at this
  simpa using this
def G5 (q:List Int):Bool:=L9 (D7 q) fun d=>Bh q.length d&&decide (qcK q.length d=q)
theorem AOJ:G9 0 G5=true:=by kernel_rfl
theorem AI1:G9 1 G5=true:=by kernel_rfl
theorem AL4:G9 2 G5=true:=by kernel_rfl
theorem AG0:G9 3 G5=true:=by kernel_rfl
theorem AN2:G9 4 G5=true:=by kernel_rfl
theorem AGW:G9 5 G5=true:=by kernel_rfl
theorem AI3:G9 6 G5=true:=by kernel_rfl
theorem AMJ {q:List Int} (h:C5 (BZ q)=true) (h8:q.length≤9):Bh q.length (D7 q)=true∧(Cb q.length fun v=>cS v (oA q.length (D7 q) q.length q.length))=q:=by
 have hz:D9 q=true:=by
  cases e:D9 q with
  | true=>rfl
  | false=>rw [OD e] at h; cases h
 have h3:=(JZ.1 hz).2.1
 rw [Tg hz] at h
 have hk:G5 q=true:=by
  have:q.length=3∨q.length=4∨q.length=5∨q.length=6∨q.length=7∨q.length=8∨q.length=9:=by omega
  rcases this with e | e | e | e | e | e | e <;> rw [e] at h
  ·exact Gt AOJ e h
  ·exact Gt AI1 e h
  ·exact Gt AL4 e h
  ·exact Gt AG0 e h
  ·exact Gt AN2 e h
  ·exact Gt AGW e h
  ·exact Gt AI3 e h
 simp only [G5,Ts,AC6,Ac,Aj] at hk
 exact hk
def GL (n:Nat) (d:List (List Int)):Bool:=JW (qcK n d) fun q=>C5 (BZ q)
theorem AQF:C1 (GL 3) 40 0 [] (C0 3)=true:=by kernel_rfl
theorem ANR:C1 (GL 4) 40 1 [] (C0 4)=true:=by kernel_rfl
theorem AQD:C1 (GL 5) 40 2 [] (C0 5)=true:=by kernel_rfl
theorem ARU:C1 (GL 6) 40 3 [] (C0 6)=true:=by kernel_rfl
theorem AI0:C1 (GL 7) 40 4 [] (C0 7)=true:=by kernel_rfl
theorem AKW:C1 (GL 8) 40 5 [] (C0 8)=true:=by kernel_rfl
theorem ASP:C1 (GL 9) 40 6 [] (C0 9)=true:=by kernel_rfl
theorem AHK {n:Nat} {d:List (List Int)} (h:Bh n d=true) (h3:3≤n) (h8:n≤9):C5 (BZ (Cb n fun v=>cS v (oA n d n n)))=true:=by
 have hk:GL n d=true:=by
  have:n=3∨n=4∨n=5∨n=6∨n=7∨n=8∨n=9:=by omega
  rcases this with rfl | rfl | rfl | rfl | rfl | rfl | rfl
  ·exact ET h h3 AQF
  ·exact ET h h3 ANR
  ·exact ET h h3 AQD
  ·exact ET h h3 ARU
  ·exact ET h h3 AI0
  ·exact ET h h3 AKW
  ·exact ET h h3 ASP
 simpa only [GL,Pe,AC6] using hk
end Go.Cat
namespace Go.Cat
variable {K:Nat→List D→List D→Prop}
theorem Pj {x:List Int}:BH 1 (LI x,1)=true:=by simp [BH,LI,D.one,Be,D.flat]
theorem P2:BH 1 (.l [],1)=true:=by simp [BH,D.one,Be,D.flat]
theorem APG {p:List Int} (h:p.length≤1048576):DQ true (.l []) (LI p)=some (LI p):=I6 (zs:=[]) (by simp; omega)
theorem Wf {a b:List Int}:∀ {ms:List (List Int)},EM a ms=some b→b∈ms
 | [],h=>by cases h
 | c::l,h=>by
  unfold EM at h
  split at h
  ·injection h with h; subst h; exact List.mem_cons_self ..
  ·exact BC _ (Wf h)
theorem AL9 {ws ms} (h:FM ws ms) {m:List Int} (hm:m∈ms):∃ w∈ws,PP w m:=by
 induction h with
 | nil=>cases hm
 | snoc _ h2 ih=>
  rcases A8.1 hm with q | q
  ·obtain ⟨w,a1,a2⟩:=ih q
   exact ⟨w,Ay _ a1,a2⟩
  ·obtain rfl:=List.mem_singleton.1 q
   exact ⟨_,Ak _ (List.mem_singleton.2 rfl),h2⟩
abbrev cmC (a:List Int) (r:Option (List Int)):D:=CL (if r.isSome then 6 else 0) [] [] [] (if r.isSome then a else []) (r.getD []) []
end Go.Cat
namespace Go.Cat
variable {K:Nat→List D→List D→Prop}
set_option maxRecDepth 100000
def Tw (p:List Int) (x:Int):Bool:=p.any fun y=>decide (y=x)
def lA (n:Nat):Nat→List Int→List (List Int)
 | 0,p=>[p]
 | f+1,p=>(List.range n).flatMap fun (x:Nat)=>if Tw p x=true then [] else lA n f (p++[(x:Int)])
end Go.Cat
namespace Go.Cat
set_option maxRecDepth 100000
def I8:List Int→Int→Bool
 | [],_=>true
 | x::l,n=>decide (x=n)&&I8 l (n+1)
theorem AFK:∀ {l:List Int} {n:Int},I8 l n=true→∀ j:Nat,j<l.length→AD l j=n+j
 | [],_,_,j,hj=>by simp at hj
 | x::l,n,h,j,hj=>by
  simp only [I8,Ac,Aj] at h
  cases j with
  | zero=>rw [Hv]; omega
  | succ j=>
   rw [EU,AFK h.2 j (by simpa using hj)]; omega
theorem XZ:∀ {l:List Int} {n:Int},(∀ j:Nat,j<l.length→AD l j=n+j)→I8 l n=true
 | [],_,_=>rfl
 | x::l,n,h=>by
  have h0:=h 0 (by simp)
  rw [Hv] at h0
  simp only [I8,Ac,Aj]
  refine ⟨by omega,XZ fun j hj=>?_⟩
  have:=h (j+1) (by simpa using hj)
  rw [EU] at this
  omega
theorem ARH {p:List Int}:Fi p=I8 p 0:=by
 rw [Bool.eq_iff_iff]
 simp only [Fi,Aj]
 constructor
 ·intro h
  exact XZ fun j hj=>by rw [h j hj]; omega
 ·intro h j hj
  have:=AFK h j hj
  omega
def YC (w:List Nat):Bool:=match Az w 0 with
 | some h=>decide (h=0)
 | none=>false
end Go.Cat
namespace Go.Cat
variable {K:Nat→List D→List D→Prop}
set_option maxRecDepth 100000
theorem AAT {n:Nat}:∀ (r q:List Int),(∀ x∈r,0≤x∧x<n)→(q++r).Nodup→q++r∈lA n r.length q
 | [],q,_,_=>by simp [lA]
 | x::r,q,h1,h2=>by
  have hx:=h1 x (List.mem_cons_self ..)
  have hq:Tw q x=false:=by
   rw [← Bool.not_eq_true]
   simp only [Tw,List.any_eq_true,Aj]
   rintro ⟨y,hy,rfl⟩
   exact (List.nodup_append.1 h2).2.2 y hy y (List.mem_cons_self ..) rfl
  obtain ⟨m,rfl⟩:=Fa hx.1
  simp only [A6,lA,List.mem_flatMap,List.mem_range]
  refine ⟨m,by omega,?_⟩
  rw [if_neg (by simp [hq])]
  have:=AAT r (q++[(m:Int)]) (fun y hy=>h1 y (BC _ hy)) (by simpa using h2)
  simpa using this
theorem AQX {p:List Int} (h:BF p=true):p∈lA p.length p.length []:=by
 obtain ⟨_,hP⟩:=IT h
 have:=AAT (n:=p.length) p [] (fun x hx=>by
  obtain ⟨j,hj,rfl⟩:=List.mem_iff_getElem.1 hx
  have:=BG.1 (hP j hj).1
  have e:AD p j=p[j]:=by simp [AD,hj]
  omega) (by
  rw [List.nil_append,List.nodup_iff_pairwise_ne,List.pairwise_iff_getElem]
  intro i j hi hj hij
  have:=(hP j hj).2 i hij
  simpa [AD,hi,hj] using this)
 simpa using this
theorem ALW {n f:Nat} {p q:List Int} (h:q∈lA n (f+1) p):∃ x:Nat,x<n∧q∈lA n f (p++[(x:Int)]):=by
 simp only [lA,List.mem_flatMap,List.mem_range] at h
 obtain ⟨x,hx,h⟩:=h
 refine ⟨x,hx,?_⟩
 split at h
 ·simp at h
 ·exact h
end Go.Cat
