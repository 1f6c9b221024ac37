/-
 Ways of rotations and loops of any lists.
-/
import Derived.Test.YtnjjceodpbhlmaaGreatPfCkT
import Derived.Test.YtnjjceodpbhlmaaGreatPfWayD
import Derived.Test.YtnjjceodpbhlmaaGreatPfOrdC
import Derived.Test.YtnjjceodpbhlmaaGreatPfMatP
import Derived.Test.YtnjjceodpbhlmaaGreatIrHas
import Derived.Test.YtnjjceodpbhlmaaGreatPfStat
set_option linter.unusedSimpArgs false
set_option linter.unusedVariables false
namespace Go.Cat
variable {K:Nat→List D→List D→Prop}
def Ea (a b:List Int):Int:=if Bt a=true∧Bt b=true∧b.length=a.length then Fx a b else -1
theorem ALL [HA K] {a b:List Int} (ha:a.length≤1099511627776) (hb:b.length≤1099511627776):K 648 [LI a,LI b] [.n (Ea a b)]:=by
 have k1:=Ri (K:=K) ha
 have k2:=Ri (K:=K) hb
 refine AG (f:=Nq) rfl ?_; simp only [Nq,zu]
 simp (disch:=omega) only [AA]
 cases q1:Bt a
 ·rw [q1] at k1
  refine AE (k1) rfl ?_
  simp (disch:=omega) only [AA]
  simp [Ea,q1]
 rw [q1] at k1
 refine AE (k1) rfl ?_
 simp (disch:=omega) only [AA]
 cases q2:Bt b
 ·rw [q2] at k2
  refine AE (k2) rfl ?_
  simp (disch:=omega) only [AA]
  simp [Ea,q2]
 rw [q2] at k2
 refine AE (k2) rfl ?_
 by_cases q3:b.length=a.length
 ·have ha1:CS a=true:=by simp [Bt] at q1; exact q1.1
  have hb1:CS b=true:=by simp [Bt] at q2; exact q2.1
  have hl:=(JN ha1).1
  simp (disch:=omega) only [AA]
  refine AE (AAQ (K:=K) (a:=a) (b:=b) (by omega) q3 (I4 ha1) (I4 hb1)) rfl ?_
  simp (disch:=omega) only [AA]
  simp [Ea,q1,q2,q3]
 ·simp (disch:=omega) only [AA]
  simp [Ea,q1,q2,q3]
theorem AD6 [HA K] {a b:List Int} (ha:a.length≤1099511627776) (hb:b.length≤1099511627776):K 371 [LI a,LI b] [.n (Ea a b)]:=by
 by_cases q:Bt a=true∧Bt b=true∧b.length=a.length
 ·have:=ZU (K:=K) q.1 q.2.1 q.2.2
  simp only [Ea,if_pos q]
  exact this
 have k1:=KI (K:=K) ha
 have k2:=KI (K:=K) hb
 have e:Ea a b=-1:=if_neg q
 rw [e]
 refine AG (f:=IC) rfl ?_; simp only [IC,zu]
 simp (disch:=omega) only [AA]
 cases q1:Bt a
 ·rw [q1] at k1
  refine AE (k1) rfl ?_
  simp (disch:=omega) only [AA]
 rw [q1] at k1
 refine AE (k1) rfl ?_
 simp (disch:=omega) only [AA]
 cases q2:Bt b
 ·rw [q2] at k2
  refine AE (k2) rfl ?_
  simp (disch:=omega) only [AA]
 rw [q2] at k2
 refine AE (k2) rfl ?_
 have q3:¬ b.length=a.length:=fun q3=>q ⟨q1,q2,q3⟩
 simp (disch:=omega) only [AA]
theorem AGO [HA K] {a b:List Int} (ha:a.length≤1099511627776) (hb:b.length≤1099511627776):K 639 [LI a,LI b] [.b (decide (Ea a b=1))]:=by
 refine AG (f:=LR) rfl ?_; simp only [LR,zu]
 simp (disch:=omega) only [AA]
 refine AE (ALL (K:=K) ha hb) rfl ?_
 simp (disch:=omega) only [AA]
theorem AHQ [HA K] {a b:List Int} (ha:a.length≤1099511627776) (hb:b.length≤1099511627776):K 357 [LI a,LI b] [.b (decide (Ea a b=1))]:=by
 refine AG (f:=IM) rfl ?_; simp only [IM,zu]
 simp (disch:=omega) only [AA]
 refine AE (AD6 (K:=K) ha hb) rfl ?_
 simp (disch:=omega) only [AA]
theorem AMG [HA K] {p:List (List Nat)} {x:List Nat} (h:p.length≤1000000):∃ rs,(∃ j:Int,rs=[.n j]∧decide (j≥0)=decide (x∈p)∧j≤1000000)∧K 654 [LS p,.s x] rs:=by
 refine Bg (f:=K2) rfl ?_; simp only [K2,zu]
 simp (disch:=omega) only [AA]
 refine Ag (fun i=>x∉p.take i) (fun i=>[LS p,.s x,.u,.u,.n p.length,.n i,.u,.u]) p.length (by simp) rfl (fun i hi hP=>?_) (fun hP=>?_)
 ·have et:p.take (i+1)=p.take i++[AL p i]:=by
   rw [ED hi]; simp [AL,hi]
  have hm:AL p i∈p:=by simp [AL,hi]
  cases hc:(x == AL p i)
  ·simp (disch:=omega) only [AA,hc]
   rw [et]
   intro q
   rcases A8.1 q with q | q
   ·exact hP q
   ·simp only [List.mem_singleton] at q
    rw [q] at hc
    simp at hc
  ·have e:x=AL p i:=by simpa using hc
   simp (disch:=omega) only [AA,hc]
   exact ⟨_,rfl,by rw [e]; simp [hm],by omega⟩
 ·rw [List.take_length] at hP
  simp (disch:=omega) only [AA]
  exact ⟨_,rfl,by simp [hP],by omega⟩
theorem AGT [HA K] {p:List (List Nat)} {x:List Nat} (h:p.length≤1000000):K 651 [LS p,.s x] [.b (decide (x∈p))]:=by
 refine AG (f:=MV) rfl ?_; simp only [MV,zu]
 obtain ⟨_,⟨j,rfl,hj,hj2⟩,k1⟩:=AMG (K:=K) (x:=x) h
 simp (disch:=omega) only [AA]
 refine AE (k1) rfl ?_
 simp (disch:=omega) only [AA]
 exact Db (by rw [← hj])
def okW (s u:List Nat):Prop:=∃ x y:BT,s=x.t∧x.n≤8∧y∈Bu x∧u=y.t
theorem Uv {x:BT} {u:List Nat} (hx:x.n≤8):okW x.t u↔u∈(Bu x).map BT.t:=by
 constructor
 ·rintro ⟨x',y,h1,_,h3,rfl⟩
  have:=Jq h1
  subst this
  exact List.mem_map_of_mem h3
 ·intro h
  obtain ⟨y,hy,rfl⟩:=List.mem_map.1 h
  exact ⟨x,y,rfl,hx,hy,rfl⟩
def wyP (l:List (List Nat)):Prop:=(1≤l.length∧l.length≤40)∧BU (AL l 0)=true∧∀ i:Nat,i+1<l.length→okW (AL l i) (AL l ((i+1:Nat):Int))
open Classical in
noncomputable def Cr (l:List (List Nat)):Bool:=decide (wyP l)
theorem Jp {l:List (List Nat)}:Cr l=true↔wyP l:=by
 unfold Cr
 exact @decide_eq_true_iff _ (Classical.propDecidable _)
theorem Sk {l:List (List Nat)} (h:Cr l=true):1≤l.length∧l.length≤40:=(Jp.1 h).1
theorem HI {l:List (List Nat)} (h:¬ wyP l):Cr l=false:=by
 rw [Bool.eq_false_iff]
 exact fun q=>h (Jp.1 q)
theorem Rt {l:List (List Nat)} {i:Nat} (h0:BU (AL l 0)=true) (h:∀ j:Nat,j+1<i+1→okW (AL l j) (AL l ((j+1:Nat):Int))):∃ x:BT,AL l i=x.t∧x.n≤8:=by
 cases i with
 | zero=>exact Ek h0
 | succ i=>
  obtain ⟨x,y,_,h2,h3,h4⟩:=h i (by omega)
  exact ⟨y,h4,by have:=KM h3; omega⟩
theorem AIU {x:BT} (h:x.n≤8):BU x.t=true:=F1 h
theorem rw_i [HA K] [Cm K 201 C7] [HA K] [CZ K] {l:List (List Nat)} (h:l.length≤1099511627776):K 646 [LS l] [.b (Cr l)]:=by
 refine AG (f:=LU) rfl ?_; simp only [LU,zu]
 simp (disch:=omega) only [AA]
 refine AE (DW (K:=K)) rfl ?_
 by_cases hl:1≤l.length∧l.length≤40
 ·have hi:Ar 1 40 (l.length:Int)=true:=BG.2 (by omega)
  simp (disch:=omega) only [AA,hi]
  refine AE (XE (K:=K) (s:=AL l 0)) rfl ?_
  cases hb:BU (AL l 0)
  ·have e:Cr l=false:=HI fun q=>by have:=q.2.1; rw [hb] at this; cases this
   rw [e]
   simp (disch:=omega) only [AA]
  ·simp (disch:=omega) only [AA]
   refine Ag (fun i=>∀ j:Nat,j+1<i+1→okW (AL l j) (AL l ((j+1:Nat):Int))) (fun i=>[LS l,.u,.n ((i:Int)+1),.u,.u,.u]) (l.length-1) (fun j hj=>by omega) rfl (fun i hi hP=>?_) (fun hP=>?_)
   ·obtain ⟨x,hx,hx8⟩:=Rt hb hP
    have hnl:=PF (x:=x)
    have kn:=AEE (K:=K) hx8
    rw [← hx] at kn
    have kc:=AGT (K:=K) (p:=(Bu x).map BT.t) (x:=AL l ((i:Int)+1)) (by rw [List.length_map]; omega)
    have ei:(i:Int)+1-1=i:=by omega
    have ho:=Uv (u:=AL l ((i:Int)+1)) hx8
    rw [← hx] at ho
    simp (disch:=omega) only [AA,ei]
    refine AE (kn) rfl ?_
    simp (disch:=omega) only [AA]
    refine AE (kc) rfl ?_
    by_cases q:AL l ((i:Int)+1)∈(Bu x).map BT.t
    ·have q':decide (AL l ((i:Int)+1)∈(Bu x).map BT.t)=true:=decide_eq_true q
     simp (disch:=omega) only [AA,q']
     intro j hj
     by_cases e:j=i
     ·subst e
      exact ho.2 q
     ·exact hP j (by omega)
    ·have q':decide (AL l ((i:Int)+1)∈(Bu x).map BT.t)=false:=decide_eq_false q
     have e:Cr l=false:=HI fun w=>q (ho.1 (w.2.2 i (by omega)))
     rw [e]
     simp (disch:=omega) only [AA,q']
   ·have e:Cr l=true:=Jp.2 ⟨hl,hb,fun i hi=>hP i (by omega)⟩
    rw [e]
    simp (disch:=omega) only [AA]
 ·have hi:Ar 1 40 (l.length:Int)=false:=by
   rw [Bool.eq_false_iff]
   intro q
   have:=BG.1 q
   omega
  have e:Cr l=false:=HI fun q=>hl q.1
  rw [e]
  simp (disch:=omega) only [AA,hi]
theorem rw_s [HA K] {l:List (List Nat)} (h:l.length≤1099511627776):K 644 [LS l] [.b (Cr l)]:=by
 refine AG (f:=Ls) rfl ?_; simp only [Ls,zu]
 by_cases h0:l.length=0
 ·have e:Cr l=false:=HI fun q=>by have:=q.1.1; omega
  rw [e]
  simp (disch:=omega) only [AA]
  refine Ag (fun _=>True) (fun _=>[LS l,.u,.n 0,.u,.u]) 0 trivial rfl (fun i hi _=>by omega) (fun _=>?_)
  simp (disch:=omega) only [AA]
 simp (disch:=omega) only [AA]
 by_cases hl:40<l.length
 ·have e:Cr l=false:=HI fun q=>by have:=q.1.2; omega
  rw [e]
  refine B9 (fun (_:Unit)=>True) (fun _=>[LS l,.u,.n 0,.u,.u]) (fun _=>0) () trivial rfl (fun _ _=>?_)
  simp (disch:=omega) only [AA]
 refine Ag (fun i=>(0<i→BU (AL l 0)=true)∧∀ j:Nat,j+1<i→okW (AL l j) (AL l ((j+1:Nat):Int))) (fun i=>[LS l,.u,.n i,.u,.u]) l.length ⟨fun q=>by omega,fun j hj=>by omega⟩ rfl (fun i hi hP=>?_) (fun hP=>?_)
 ·obtain ⟨hb,hP⟩:=hP
  have kb:=G6 (K:=K) (s:=AL l i)
  by_cases i0:i=0
  ·subst i0
   cases hc:BU (AL l 0)
   ·have e:Cr l=false:=HI fun q=>by have:=q.2.1; rw [hc] at this; cases this
    have kb:K 160 [.s (AL l 0)] [.b (BU (AL l 0))]:=kb
    rw [hc] at kb
    rw [e]
    simp (disch:=omega) only [AA]
    refine AE (kb) rfl ?_
    simp (disch:=omega) only [AA]
   ·have kb:K 160 [.s (AL l 0)] [.b (BU (AL l 0))]:=kb
    rw [hc] at kb
    simp (disch:=omega) only [AA]
    refine AE (kb) rfl ?_
    simp (disch:=omega) only [AA]
    exact ⟨fun _=>(by first | exact hc | trivial),fun j hj=>by omega⟩
  ·obtain ⟨k,rfl⟩:∃ k,i=k+1:=⟨i-1,by omega⟩
   have hb0:=hb (by omega)
   obtain ⟨x,hx,hx8⟩:=Rt (i:=k) hb0 hP
   simp only [Int.natCast_add,Int.cast_ofNat_Int] at kb ⊢
   have ho:=Uv (u:=AL l ((k:Int)+1)) hx8
   rw [← hx] at ho
   have hnl:=PF (x:=x)
   have kn:=ACF (K:=K) hx8
   rw [← hx] at kn
   have kc:=UO (K:=K) (ws:=(Bu x).map BT.t) (k:=AL l ((k:Int)+1)) (by rw [List.length_map]; omega)
   have ei:(k:Int)+1-1=k:=by omega
   cases hc:BU (AL l ((k:Int)+1))
   ·have e:Cr l=false:=HI fun q=>by
     obtain ⟨x',y,_,h2,h3,h4⟩:=q.2.2 k (by omega)
     have h4:AL l ((k:Int)+1)=y.t:=h4
     rw [h4,AIU (by have:=KM h3; omega)] at hc
     cases hc
    rw [hc] at kb
    rw [e]
    simp (disch:=omega) only [AA]
    refine AE (kb) rfl ?_
    simp (disch:=omega) only [AA]
   ·rw [hc] at kb
    by_cases q:AL l ((k:Int)+1)∈(Bu x).map BT.t
    ·have q':decide (AL l ((k:Int)+1)∈(Bu x).map BT.t)=true:=decide_eq_true q
     rw [q'] at kc
     have fin:∀ j:Nat,j+1<k+1+1→okW (AL l j) (AL l ((j+1:Nat):Int)):=fun j hj=>by
      by_cases e:j=k
      ·subst e
       exact ho.2 q
      ·exact hP j (by omega)
     simp (disch:=omega) only [AA]
     refine AE (kb) rfl ?_
     simp (disch:=omega) only [AA,ei]
     refine AE (kn) rfl ?_
     simp (disch:=omega) only [AA]
     refine AE (kc) rfl ?_
     simp (disch:=omega) only [AA]
     exact ⟨fun _=>hb0,fin⟩
    ·have q':decide (AL l ((k:Int)+1)∈(Bu x).map BT.t)=false:=decide_eq_false q
     rw [q'] at kc
     have e:Cr l=false:=HI fun w=>q (ho.1 (w.2.2 k (by omega)))
     rw [e]
     simp (disch:=omega) only [AA]
     refine AE (kb) rfl ?_
     simp (disch:=omega) only [AA,ei]
     refine AE (kn) rfl ?_
     simp (disch:=omega) only [AA]
     refine AE (kc) rfl ?_
     simp (disch:=omega) only [AA]
 ·have e:Cr l=true:=Jp.2 ⟨by omega,hP.1 (by omega),fun i hi=>hP.2 i (by omega)⟩
  rw [e]
  simp (disch:=omega) only [AA]
end Go.Cat
namespace Go.Cat
variable {K:Nat→List D→List D→Prop}
def Gh (p:List Int):Bool:=decide (∀ j:Nat,j<p.length-1→AD p j≤AD p (j+1:Nat))
def Fi (p:List Int):Bool:=decide (∀ j:Nat,j<p.length→AD p j=j)
theorem AIX [HA K] {x:Int}:K 211 [.n x] [.b false]:=by
 refine AG (f:=JG) rfl ?_; simp only [JG,zu]
 simp (disch:=omega) only [AA]
theorem AQM [HA K] {x y:Int}:K 203 [.n x,.n y] [.b (decide (x<y))]:=by
 refine AG (f:=L4) rfl ?_; simp only [L4,zu]
 simp (disch:=omega) only [AA]
 repeat (first | (refine AE (AIX (K:=K)) rfl ?_; try simp (disch:=omega) only [AA]))
theorem ASN [HA K] {p:List Int} (h:p.length≤1000000000):K 178 [LI p] [.b (Gh p)]:=by
 refine AG (f:=MA) rfl ?_; simp only [MA,zu]
 simp (disch:=omega) only [AA]
 by_cases h0:p.length=0
 ·refine B9 (fun (_:Unit)=>True) (fun _=>[LI p,.u,.n (-1),.u,.u]) (fun _=>0) () trivial (by simp [h0]) ?_
  intro _ _
  simp (disch:=omega) only [AA]
  simp [Gh,h0]
 refine B9 (fun (i:Nat)=>i<p.length∧∀ j:Nat,i≤j→j<p.length-1→AD p j≤AD p (j+1:Nat)) (fun i=>[LI p,.u,.n i,.u,.u]) (fun i=>i) (p.length-1) ⟨by omega,fun j h1 h2=>by omega⟩ (by rw [show ((p.length-1:Nat):Int)=(p.length:Int)-1 by omega]) ?_
 rintro i ⟨h1,h2⟩
 cases i with
 | zero=>
  simp (disch:=omega) only [AA]
  simp [Gh]
  exact fun j hj=>by have:=h2 j (by omega) hj; exact_mod_cast this
 | succ i=>
  simp (disch:=omega) only [AA]
  refine AE (AQM (K:=K)) rfl ?_
  by_cases hc:AD p (i+1)<AD p i
  ·simp (disch:=omega) only [AA,Dv,hc]
   simp only [Gh]
   refine Db (decide_eq_false fun q=>?_)
   have:=q i (by omega)
   have e:((i+1:Nat):Int)=(i:Int)+1:=rfl
   rw [e] at this; omega
  ·simp (disch:=omega) only [AA,Dv,hc]
   refine ⟨i,by omega,⟨by omega,fun j hj hj2=>?_⟩,rfl⟩
   rcases CC i j with q | q
   ·exact h2 j (by omega) hj2
   ·obtain rfl:j=i:=by omega
    show AD p j≤AD p ((j:Int)+1)
    omega
theorem AEH [HA K] {p:List Int} (h:p.length≤1000000000):K 131 [LI p] [.b (Gh p)]:=by
 refine AG (f:=MK) rfl ?_; simp only [MK,zu]
 simp (disch:=omega) only [AA]
 repeat (first | (refine AE (ASN (K:=K) h) rfl ?_; try simp (disch:=omega) only [AA]))
theorem AJE [HA K] {p:List Int} (h:p.length≤1000000000):K 130 [LI p] [.b (Fi p)]:=by
 refine AG (f:=Nc) rfl ?_; simp only [Nc,zu]
 simp (disch:=omega) only [AA]
 refine Ag (fun i=>∀ j:Nat,j<i→AD p j=j) (fun i=>[LI p,.u,.n i,.u,.u]) p.length (by simp) rfl (fun i hi hP=>?_) (fun hP=>?_)
 ·by_cases hc:AD p i=i
  ·simp (disch:=omega) only [AA,hc]
   exact CH hP hc
  ·simp (disch:=omega) only [AA,hc]
   exact Db (decide_eq_false fun q=>hc (q i hi))
 ·simp (disch:=omega) only [AA]
  exact Db (decide_eq_true hP)
theorem AFP {p:List Int}:GF p p.length↔(∀ x∈p,0≤x∧x≤(p.length:Int)-1)∧p.Nodup:=by
 constructor
 ·intro h
  refine ⟨fun x hx=>?_,?_⟩
  ·obtain ⟨j,hj,rfl⟩:=List.mem_iff_getElem.1 hx
   have:=BG.1 (h j hj).1
   simpa [AD,hj] using this
  ·rw [List.Nodup,List.pairwise_iff_getElem]
   intro i j hi hj hij
   have:=(h j hj).2 i hij
   simpa [AD,hi,hj] using this
 ·rintro ⟨h1,h2⟩ j hj
  refine ⟨BG.2 ?_,fun k hk=>?_⟩
  ·have:=h1 p[j] (List.getElem_mem hj)
   simpa [AD,hj] using this
  ·rw [List.Nodup,List.pairwise_iff_getElem] at h2
   have:=h2 k j (by omega) hj hk
   simpa [AD,hj,show k<p.length by omega] using this
theorem AGZ {p q:List Int} (h:q.Perm p):BF q=BF p:=by
 have hl:=h.length_eq
 simp only [BF]
 congr 1
 ·rw [hl]
 ·congr 1
  rw [AFP,AFP,hl,h.nodup_iff]
  apply propext
  exact ⟨fun ⟨a,b⟩=>⟨fun x hx=>a x (h.mem_iff.2 hx),b⟩,fun ⟨a,b⟩=>⟨fun x hx=>a x (h.mem_iff.1 hx),b⟩⟩
theorem AQV {p:List Int} (hp:BF p=true):Gh p=Fi p:=by
 obtain ⟨hl,hP⟩:=IT hp
 rw [Bool.eq_iff_iff]
 simp only [Gh,Fi,Aj]
 constructor
 ·intro ha
  have hs:∀ j:Nat,j<p.length-1→AD p j+1≤AD p (j+1:Nat):=by
   intro j hj
   have h1:=ha j hj
   have h2:=(hP (j+1) (by omega)).2 j (by omega)
   omega
  have lo:∀ j:Nat,j<p.length→(j:Int)≤AD p j:=by
   intro j
   induction j with
   | zero=>intro h0; exact (BG.1 (hP 0 h0).1).1
   | succ j ih=>
    intro h1
    have:=ih (by omega)
    have:=hs j (by omega)
    omega
  have up:∀ d j:Nat,j+d+1=p.length→AD p j≤j:=by
   intro d
   induction d with
   | zero=>intro j hj; have:=(BG.1 (hP j (by omega)).1).2; omega
   | succ d ih=>
    intro j hj
    have h1:=ih (j+1) (by omega)
    have:=hs j (by omega)
    omega
  intro j hj
  have:=lo j hj
  have:=up (p.length-1-j) j (by omega)
  omega
 ·intro hi j hj
  rw [hi j (by omega),hi (j+1) (by omega)]
  omega
end Go.Cat
