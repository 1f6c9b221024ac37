/-
 Friezes of rows of numbers: ears cut off, and the rows.
-/
import Derived.Test.YtnjjceodpbhlmaaGreatPfFrzM
import Derived.Test.YtnjjceodpbhlmaaGreatPfPath
import Derived.Test.YtnjjceodpbhlmaaGreatIrHas
import Derived.Test.YtnjjceodpbhlmaaGreatPfStat
import Derived.Test.YtnjjceodpbhlmaaGreatPfRankA
set_option linter.unusedSimpArgs false
set_option linter.unusedVariables false
namespace Go.Cat
def BM (n j:Nat):Nat:=(j+n-1) % n
def Ax (n j:Nat):Nat:=(j+1) % n
def EB (q:List Int) (j:Nat):List Int:=Aw (Aw q (BM q.length j:Nat) (AD q (BM q.length j:Nat)-1)) (Ax q.length j:Nat) (AD (Aw q (BM q.length j:Nat) (AD q (BM q.length j:Nat)-1)) (Ax q.length j:Nat)-1)
def Dy {α:Type} (l:List α) (j:Nat):List α:=l.take j++l.drop (j+1)
def Cl (q:List Int) (j:Nat):List Int:=Dy (EB q j) j
theorem Eu {l:List Int} {i x:Int}:(Aw l i x).length=l.length:=by simp [Aw]
theorem Iz {q:List Int} {j:Nat}:(EB q j).length=q.length:=by simp [EB,Aw]
theorem Rv {α:Type} {l:List α} {j:Nat} (h:j<l.length):(Dy l j).length=l.length-1:=by simp [Dy]; omega
theorem Pu {q:List Int} {j:Nat} (h:j<q.length):(Cl q j).length=q.length-1:=by rw [Cl,Rv (by rw [Iz]; exact h),Iz]
theorem Hk {l:List Int} {i k:Nat} {x:Int} (h:i<l.length):AD (Aw l (i:Int) x) (k:Int)=if k=i then x else AD l (k:Int):=by
 simp only [AD,Aw,CB,BP,List.getElem?_set]
 by_cases q:i=k
 ·subst q; simp [h]
 ·simp [q,Ne.symm q]
theorem JY {q:List Int} {j k:Nat} (hq:3≤q.length) (hj:j<q.length):AD (EB q j) (k:Int)=AD q (k:Int)-(if k=BM q.length j then 1 else 0)-(if k=Ax q.length j then 1 else 0):=by
 have a:BM q.length j<q.length:=Nat.mod_lt _ (by omega)
 have b:Ax q.length j<q.length:=Nat.mod_lt _ (by omega)
 have c:BM q.length j≠Ax q.length j:=by
  unfold BM Ax
  generalize q.length=n at*
  rcases CC (j+1) n with h | h
  ·rw [Nat.mod_eq_of_lt h]
   cases j with
   | zero=>rw [Nat.mod_eq_of_lt (by omega)]; omega
   | succ j=>rw [show j+1+n-1=j+n by omega,Nat.add_mod_right,Nat.mod_eq_of_lt (by omega)]; omega
  ·obtain rfl:n=j+1:=by omega
   rw [Nat.mod_self,show j+(j+1)-1=j-1+(j+1) by omega,Nat.add_mod_right,Nat.mod_eq_of_lt (by omega)]; omega
 rw [EB,Hk (by rw [Eu]; exact b),Hk a,Hk a]
 split
 ·rename_i h; subst h
  rw [if_neg (Ne.symm c),if_neg (Ne.symm c)]; omega
 ·split
  ·rename_i h; subst h; omega
  ·omega
def AM (q:List Int):Nat:=q.findIdx (fun x=>x == 1)
def Dk:Nat→List Int→Bool
 | 0,q=>q == [1,1,1]
 | f+1,q=>decide (AM q<q.length)&&Dk f (Cl q (AM q))
theorem Qb {q:List Int} (h:AM q<q.length):AD q (AM q:Nat)=1:=by
 have:=List.findIdx_getElem (w:=h)
 simp only [beq_iff_eq] at this
 simp only [AD,CB,BP]
 rw [GC h]
 exact this
end Go.Cat
namespace Go.Cat
variable {K:Nat→List D→List D→Prop}
theorem AIA {rs qs:List (List Int)} (h:rs.length+qs.length≤1099511627776):DQ false (LL rs) (LL qs)=some (LL (rs++qs)):=Kk ⟨h,rfl⟩
theorem U9 {p:List Int} (h:p.length≤1048576):DQ true (.l []) (LI p)=some (LI p):=I6 (zs:=[]) (by simp; omega)
theorem Y3 {α:Type} {f:Nat→α} {n:Nat}:(List.range (n+1)).map f=(List.range n).map f++[f n]:=by simp [List.range_succ]
def D9 (q:List Int):Bool:=q.all (Ar 1 100)&&Ar 3 10 q.length
theorem AOV [HA K] {q:List Int} (h:q.length≤1048576):K 180 [LI q] [.b (D9 q)]:=by
 refine AG (f:=ML) rfl ?_; simp only [ML,zu]
 simp (disch:=first|omega|simp only[vl];omega) only [AA]
 refine Ag (fun i=>∀ j:Nat,j<i→Ar 1 100 (AD q j)=true) (fun i=>[LI q,.u,.n i,.u,.u]) q.length (by simp) rfl (fun i hi hP=>?_) (fun hP=>?_)
 ·cases hx:Ar 1 100 (AD q i)
  ·simp (disch:=first|omega|simp only[vl];omega) only [AA]
   repeat (first | (refine AE (Cs (K:=K)) rfl ?_; try simp (disch:=first|omega|simp only[vl];omega) only [AA,hx]))
   simp [D9,Ui hi hx]
  ·simp (disch:=first|omega|simp only[vl];omega) only [AA]
   repeat (first | (refine AE (Cs (K:=K)) rfl ?_; try simp (disch:=first|omega|simp only[vl];omega) only [AA,hx]))
   exact CH hP hx
 ·simp (disch:=first|omega|simp only[vl];omega) only [AA]
  refine AE (Cs (K:=K)) rfl ?_
  simp (disch:=first|omega|simp only[vl];omega) only [AA]
  simp [D9,Ub hP]
theorem JZ {q:List Int}:D9 q=true↔(∀ x∈q,1≤x∧x≤100)∧3≤q.length∧q.length≤10:=by
 simp only [D9,Ac,BD,BG]
 constructor
 ·rintro ⟨a,b⟩; exact ⟨a,by omega,by omega⟩
 ·rintro ⟨a,b,c⟩; exact ⟨a,by omega⟩
theorem Jg {m:List Int} {i:Nat} (h:i<m.length):AD m i∈m:=by simp [AD,h]
end Go.Cat
namespace Go.Cat
variable {K:Nat→List D→List D→Prop}
end Go.Cat
namespace Go.Cat
variable {K:Nat→List D→List D→Prop}
theorem AR6 [HA K] {a b:List Int} (h:a.length≤1099511627776):K 72 [LI a,LI b] [.b (decide (a=b))]:=by
 refine AG (f:=Hd) rfl ?_; simp only [Hd,zu]
 simp (disch:=first|omega|simp only[vl];omega) only [AA]
 by_cases hl:a.length=b.length
 ·simp (disch:=first|omega|simp only[vl];omega) only [AA]
  refine Ag (fun i=>∀ j:Nat,j<i→AD a j=AD b j) (fun i=>[LI a,LI b,.u,.u,.u,.n a.length,.n i,.u,.u]) a.length (by simp) rfl (fun i hi hP=>?_) (fun hP=>?_)
  ·by_cases he:AD a i=AD b i
   ·simp (disch:=first|omega|simp only[vl];omega) only [AA]
    exact CH hP he
   ·simp (disch:=first|omega|simp only[vl];omega) only [AA]
    have:a≠b:=by rintro rfl; exact he rfl
    simp [this]
  ·simp (disch:=first|omega|simp only[vl];omega) only [AA]
   have:a=b:=Oj hl hP
   simp [this]
 ·have:a≠b:=by rintro rfl; exact hl rfl
  simp (disch:=first|omega|simp only[vl];omega) only [AA]
  simp [this]
end Go.Cat
namespace Go.Cat
variable {K:Nat→List D→List D→Prop}
class HH (K:Nat→List D→List D→Prop):Prop where
 del:∀ (l:List Int) (i:Nat),i<l.length→l.length≤1000→K 212 [LI l,.n i,.n ((i:Int)+1)] [LI (Dy l i)]
theorem Ty {l:List Int} {i:Nat} (h:∀ j:Nat,j<i→AD l j≠1) (hi:i≤l.length):i≤AM l:=by
 rcases CC (AM l) i with q | q
 ·exact absurd (Qb (q:=l) (by omega)) (h _ q)
 ·exact q
theorem V4 {l:List Int} {i:Nat} (h:∀ j:Nat,j<i→AD l j≠1) (hi:i<l.length) (h1:AD l i=1):AM l=i:=by
 have:=Ty h (by omega)
 have h2:AM l≤i:=by
  refine Nat.le_of_not_lt fun q=>?_
  have:=List.not_of_lt_findIdx q
  have e:l[i]'(by omega)=AD l i:=by simp [AD,hi]
  rw [e,h1] at this
  cases this
 omega
theorem AR3 [HA K] {l:List Int} (h:l.length≤1000000):K 179 [LI l,.n 1] [.n (if AM l<l.length then (AM l:Int) else -1)]:=by
 refine AG (f:=Nk) rfl ?_; simp only [Nk,zu]
 simp (disch:=omega) only [AA]
 refine Ag (fun i=>∀ j:Nat,j<i→AD l j≠1) (fun i=>[LI l,.n 1,.u,.u,.n l.length,.n i,.u,.u]) l.length (by omega) rfl (fun i hi hP=>?_) (fun hP=>?_)
 ·by_cases hx:AD l i=1
  ·have e:=V4 hP hi hx
   simp (disch:=omega) only [AA]
   rw [e,if_pos hi]
  ·simp (disch:=omega) only [AA]
   exact CH hP hx
 ·have e:=Ty hP (Nat.le_refl _)
  simp (disch:=omega) only [AA]
  rw [if_neg (by omega)]
def GZ (n:Nat) (c:List Int) (j:Nat):List Int:=[min (AD c (BM n j:Nat)) (AD c (Ax n j:Nat)),max (AD c (BM n j:Nat)) (AD c (Ax n j:Nat))]
def DB:Nat→List Int→List Int→List (List Int)→Option (List (List Int)×List Int)
 | 0,l,_,o=>some (o,l)
 | f+1,l,c,o=>if AM l<l.length then DB f (Cl l (AM l)) (Dy c (AM l)) (o++[GZ l.length c (AM l)]) else none
def Dz (n:Nat):List Int:=(List.range n).map fun i:Nat=>(i:Int)
def BZ (q:List Int):Option (List (List Int)×List Int):=if D9 q=true then DB (q.length-3) q (Dz q.length) [] else none
def C5 (x:Option (List (List Int)×List Int)):Bool:=match x with
 | some x=>decide (x.2=[1,1,1])
 | none=>false
def Ex (x:Option (List (List Int)×List Int)):List (List Int):=match x with
 | some x=>x.1
 | none=>[]
theorem ZI:∀ f (l c:List Int) (o:List (List Int)),C5 (DB f l c o)=Dk f l
 | 0,l,c,o=>by
  simp only [DB,C5,Dk]
  by_cases h:l=[1,1,1] <;> simp [h]
 | f+1,l,c,o=>by
  simp only [DB,Dk]
  by_cases h:AM l<l.length
  ·rw [if_pos h,ZI f,decide_eq_true h,Bool.true_and]
  ·rw [if_neg h,decide_eq_false h]; rfl
theorem AJ8 {α:Type} {l:List α} {j:Nat} {x:α} (h:x∈Dy l j):x∈l:=by
 rcases A8.1 h with h | h
 ·exact List.mem_of_mem_take h
 ·exact List.mem_of_mem_drop h
theorem Rn {l:List Int} {i x y:Int} (h:y∈Aw l i x):y=x∨y∈l:=by
 rcases List.mem_or_eq_of_mem_set h with h | h
 ·exact .inr h
 ·exact .inl h
theorem QY {l:List Int} {j:Nat} {a b:Int} (hl:3≤l.length) (hj:j<l.length) (h:∀ x∈l,a+1≤x∧x≤b):∀ x∈Cl l j,a≤x∧x≤b:=by
 intro x hx
 obtain ⟨k,hk,e⟩:=List.mem_iff_getElem.1 (AJ8 hx)
 rw [Iz] at hk
 have e2:AD (EB l j) (k:Int)=x:=by rw [← e]; simp [AD,Iz,hk]
 rw [JY hl hj] at e2
 have hm:=h (AD l k) (by simp [AD,hk])
 have hne:¬ (k=BM l.length j∧k=Ax l.length j):=by
  rintro ⟨q1,q2⟩
  rw [q1] at q2
  have:=JY (q:=l) (j:=j) (k:=BM l.length j) hl hj
  revert q2
  unfold BM Ax
  generalize l.length=n at*
  rcases CC (j+1) n with h | h
  ·rw [Nat.mod_eq_of_lt h]
   cases j with
   | zero=>rw [Nat.mod_eq_of_lt (by omega)]; omega
   | succ j=>rw [show j+1+n-1=j+n by omega,Nat.add_mod_right,Nat.mod_eq_of_lt (by omega)]; omega
  ·obtain rfl:n=j+1:=by omega
   rw [Nat.mod_self,show j+(j+1)-1=j-1+(j+1) by omega,Nat.add_mod_right,Nat.mod_eq_of_lt (by omega)]; omega
 split at e2 <;> split at e2 <;> omega
theorem AKP [HA K] [HH K] {q:List Int} (h:q.length≤1048576):K 204 [LI q] [LL (Ex (BZ q)),.b (C5 (BZ q))]:=by
 refine AG (f:=LQ) rfl ?_; simp only [LQ,zu]
 simp (disch:=first|omega|simp only[vl];omega) only [AA]
 refine AE (DW (K:=K)) rfl ?_
 cases hn:Ar 3 10 q.length
 ·have e:BZ q=none:=by rw [BZ,if_neg (by simp [D9,hn])]
  simp (disch:=first|omega|simp only[vl];omega) only [AA]
  simp [e,Ex,C5,LL]
 have hn2:=BG.1 hn
 simp (disch:=first|omega|simp only[vl];omega) only [AA]
 refine Ag (fun i=>∀ j:Nat,j<i→Ar 1 100 (AD q j)=true) (fun i=>[LI q,.u,.u,.u,.u,.u,.u,.u,.u,.u,.u,.u,.u,LI q,.n q.length,.n i,.u,.u,.u,.u,.u,.u,.u]) q.length (by omega) rfl (fun i hi hP=>?_) (fun hP=>?_)
 ·cases hx:Ar 1 100 (AD q i)
  ·have e:BZ q=none:=by rw [BZ,if_neg (by simp [D9,Ui hi hx])]
   simp (disch:=first|omega|simp only[vl];omega) only [AA]
   repeat (first | (refine AE (DW (K:=K)) rfl ?_; try simp (disch:=first|omega|simp only[vl];omega) only [AA,hx]))
   simp [e,Ex,C5,LL]
  ·simp (disch:=first|omega|simp only[vl];omega) only [AA]
   repeat (first | (refine AE (DW (K:=K)) rfl ?_; try simp (disch:=first|omega|simp only[vl];omega) only [AA,hx]))
   exact CH hP hx
 ·have hz:D9 q=true:=by simp [D9,hn,Ub hP]
  obtain ⟨z1,z2,z3⟩:=JZ.1 hz
  have eR:BZ q=DB (q.length-3) q (Dz q.length) []:=by rw [BZ,if_pos hz]
  simp (disch:=first|omega|simp only[vl];omega) only [AA]
  refine AE (K6 (K:=K) (p:=q) (by omega)) rfl ?_
  simp (disch:=first|omega|simp only[vl];omega) only [AA]
  refine CK (fun i (r:List Int)=>r=Dz i) (fun i r=>[.u,.u,.u,.u,LI q,LI r,.u,.u,.u,.u,.u,.u,.u,.u,.u,.u,.u,.u,.n q.length,.n i,.u,.u,.u]) q.length [] rfl rfl (fun i r hi hP=>?_) (fun r hP=>?_)
  ·have hr:r.length=i:=by rw [hP]; simp [Dz]
   simp (disch:=first|omega|simp only[vl];omega) only [AA]
   refine ⟨_,?_,rfl⟩
   rw [hP,Dz,Dz,Y3]
  ·subst hP
   simp (disch:=first|omega|simp only[vl];omega) only [AA]
   refine B9 (fun (x:Nat×List Int×List Int×List (List Int))=>x.2.1.length=x.1+3∧x.2.2.1.length=x.1+3∧x.1≤7∧(∀ y∈x.2.1,(x.1:Int)-10≤y∧y≤100)∧x.2.2.2.length+x.1≤7∧DB x.1 x.2.1 x.2.2.1 x.2.2.2=BZ q)
    (fun x=>[.u,.u,.u,.u,LI x.2.1,LI x.2.2.1,.u,LL x.2.2.2,.u,.u,.u,.u,.u,.u,.u,.u,.u,.u,.u,.u,.u,.u,.u]) (fun x=>x.1) (q.length-3,q,Dz q.length,[]) ⟨by simp only; omega,by simp [Dz]; omega,by simp only; omega,fun y hy=>by have:=z1 y hy; simp only; omega,by simp only [Aq]; omega,eR.symm⟩ rfl ?_
   rintro ⟨f,l,c,o⟩ ⟨g1,g2,g3,g4,g5,g6⟩
   simp only at g1 g2 g3 g4 g5 g6 ⊢
   cases f with
   | zero=>
    simp only [DB] at g6
    simp (disch:=first|omega|simp only[vl];omega) only [AA]
    refine AE (AR6 (K:=K) (a:=l) (b:=[1,1,1]) (by omega)) rfl ?_
    simp (disch:=first|omega|simp only[vl];omega) only [AA]
    rw [← g6]
    rfl
   | succ f=>
    simp (disch:=first|omega|simp only[vl];omega) only [AA]
    refine AE (AR3 (K:=K) (l:=l) (by omega)) rfl ?_
    by_cases hj:AM l<l.length
    ·rw [if_pos hj]
     have e1:((AM l:Int)+l.length-1) % (l.length:Int)=(BM l.length (AM l):Nat):=by
      rw [show (AM l:Int)+l.length-1=((AM l+l.length-1:Nat):Int) by omega]; simp [BM,Int.natCast_emod]
     have e2:((AM l:Int)+1) % (l.length:Int)=(Ax l.length (AM l):Nat):=by simp [Ax,Int.natCast_emod]
     have p1:BM l.length (AM l)<l.length:=Nat.mod_lt _ (by omega)
     have p2:Ax l.length (AM l)<l.length:=Nat.mod_lt _ (by omega)
     have m1:=g4 _ (Jg p1)
     have p3:Ax l.length (AM l)<(Aw l (BM l.length (AM l):Nat) (AD l (BM l.length (AM l):Nat)-1)).length:=by rw [Eu]; exact p2
     have m2:(f:Int)-10≤AD (Aw l (BM l.length (AM l):Nat) (AD l (BM l.length (AM l):Nat)-1)) (Ax l.length (AM l):Nat)∧AD (Aw l (BM l.length (AM l):Nat) (AD l (BM l.length (AM l):Nat)-1)) (Ax l.length (AM l):Nat)≤100:=by
      rcases Rn (Jg p3) with q | q
      ·rw [q]; omega
      ·have:=g4 _ q; omega
     simp (disch:=first|omega|simp only[vl];omega) only [AA,e1,e2,Eu,AIA]
     have dl1:=HH.del (K:=K) (EB l (AM l)) (AM l) (by rw [Iz]; exact hj) (by rw [Iz]; omega)
     have dl2:=HH.del (K:=K) c (AM l) (by omega) (by omega)
     refine AE (dl1) rfl ?_
     simp (disch:=first|omega|simp only[vl];omega) only [AA]
     refine AE (dl2) rfl ?_
     simp (disch:=first|omega|simp only[vl];omega) only [AA]
     have k1:(Cl l (AM l)).length=f+3:=by rw [Pu hj]; omega
     have k2:(Dy c (AM l)).length=f+3:=by rw [Rv (by omega)]; omega
     have k3:DB f (Cl l (AM l)) (Dy c (AM l)) (o++[GZ l.length c (AM l)])=BZ q:=by
      rw [← g6,DB,if_pos hj]
     refine ⟨(f,Cl l (AM l),Dy c (AM l),o++[GZ l.length c (AM l)]),by simp,⟨k1,k2,by simp only; omega,?_,by simp only [Ad,A6,Aq]; omega,k3⟩,rfl⟩
     exact QY (by omega) hj fun x hx=>by have:=g4 x hx; omega
    ·rw [if_neg hj]
     simp only [DB,if_neg hj] at g6
     simp (disch:=first|omega|simp only[vl];omega) only [AA]
     rw [← g6]
     rfl
end Go.Cat
