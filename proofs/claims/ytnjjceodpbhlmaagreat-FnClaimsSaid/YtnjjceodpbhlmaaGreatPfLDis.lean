/-
 ClaimOfDistance answers as the reference does.
-/
import Derived.Test.YtnjjceodpbhlmaaGreatPfWayD
import Derived.Test.YtnjjceodpbhlmaaGreatIrHas
import Derived.Test.YtnjjceodpbhlmaaGreatPfCkM
import Derived.Test.YtnjjceodpbhlmaaGreatPfOrdC
set_option linter.unusedSimpArgs false
set_option linter.unusedVariables false
namespace Go.Cat
variable {K:Nat→List D→List D→Prop}
theorem PQ {x:List (List Nat)}:BH 1 (LS x,1)=true:=by simp [BH,LS,D.one,Be,D.flat]
theorem Pv:BH 1 (.l [],1)=true:=by simp [BH,D.one,Be,D.flat]
end Go.Cat
namespace Go.Cat
variable {K:Nat→List D→List D→Prop}
set_option maxRecDepth 100000
theorem IQ {l:List BT} {i:Nat} (h:i<l.length):AL (l.map BT.t) (i:Nat)=(AX l i).t:=by simp [AL,AX,h]
theorem Ul {l:List BT} (h1:1≤l.length∧l.length≤40) (h8:∀ z∈l,z.n≤8) (hs:∀ i:Nat,i+1<l.length→AX l (i+1)∈Bu (AX l i)):Ci (AX l 0).t (AX l (l.length-1)).t (l.map BT.t)=true:=by
 have hm:∀ i:Nat,i<l.length→(AX l i).n≤8:=fun i hi=>h8 _ (FO hi)
 have hw:Cr (l.map BT.t)=true:=Jp.2 ⟨by simpa using h1,by
  have:=IQ (l:=l) (i:=0) (by omega)
  have e:AL (l.map BT.t) 0=(AX l 0).t:=this
  rw [e]
  exact F1 (hm 0 (by omega)),fun i hi=>by
  rw [List.length_map] at hi
  rw [IQ (by omega),IQ hi]
  exact ⟨_,_,rfl,hm i (by omega),hs i hi,rfl⟩⟩
 have e0:AL (l.map BT.t) 0=(AX l 0).t:=IQ (l:=l) (i:=0) (by omega)
 have e1:AL (l.map BT.t) (((l.map BT.t).length:Int)-1)=(AX l (l.length-1)).t:=by
  rw [List.length_map,show (l.length:Int)-1=((l.length-1:Nat):Int) by omega]
  exact IQ (by omega)
 have e2:AL (l.map BT.t) ((l.length:Int)-1)=(AX l (l.length-1)).t:=by rw [← e1,List.length_map]
 simp [Ci,hw,e0,e2]
theorem ALS {l:List BT} {g:List Nat→List Nat→Bool} (hg:∀ u v:BT,u.n≤8→v.n≤8→C9 u v→g u.t v.t=true) (h8:∀ z∈l,z.n≤8) (hs:∀ i:Nat,i+1<l.length→C9 (AX l i) (AX l (i+1))):Fy g (l.map BT.t)=true:=by
 refine decide_eq_true fun i hi=>?_
 rw [List.length_map] at hi
 have e:(i:Int)+1=((i+1:Nat):Int):=by omega
 rw [e,IQ (by omega),IQ (by omega)]
 exact hg _ _ (h8 _ (FO (by omega))) (h8 _ (FO (by omega))) (hs i (by omega))
theorem ALZ {x z:BT} {v:Nat} (hv:v<x.n) (h:BB x (v:Nat)=some z):C9 x z:=by
 refine ⟨(Dx h).symm,fun i hi=>?_⟩
 obtain ⟨a,c,hab⟩:=IG (x:=x) (v:=(v:Nat)) (by omega) (by omega)
 cases a with
 | lf=>rw [NR (by omega) (by omega) hab] at h; cases h
 | nd a b=>
  rw [IU (by omega) (by omega) hab] at h
  injection h with h
  subst h
  rw [Lw hv hab]
  have e:=CP (x:=x) (v:=v-b.n-1) (by omega)
  rw [NY hv hab] at e
  simp only [Fl] at e
  by_cases q:i=v-b.n-1
  ·subst q
   have hl:v-b.n-1<x.w.length:=by rw [CJ]; omega
   rw [e]
   simp [AD,List.getElem?_set,hl]
   omega
  ·have q2:¬ v-b.n-1=i:=fun z=>q z.symm
   simp [AD,List.getElem?_set,q2]
def Kz:Nat→Nat→Nat
 | 0,_=>0
 | k+1,m=>m+Kz k (m-1)
theorem ABL:∀ (l:List Int) (m:Nat),l.length≤m+1→(∀ i:Nat,i<l.length→AD l (i:Nat)+i≤m)→l.sum≤Kz l.length m
 | [],m,_,_=>by simp [Kz]
 | a::l,m,hl,h=>by
  have h0:=h 0 (by simp)
  have ih:=ABL l (m-1) (by simp at hl; omega) (fun i hi=>by
   have:=h (i+1) (by simp; omega)
   have e:AD (a::l) ((i+1:Nat):Int)=AD l (i:Nat):=by simp [AD]
   rw [e] at this
   cases l with
   | nil=>simp at hi
   | cons b l=>simp at hl; omega)
  have e0:AD (a::l) ((0:Nat):Int)=a:=rfl
  rw [e0] at h0
  simp only [List.sum_cons,A6,Kz]
  omega
theorem ARL:∀ n,n<9→Kz n (n-1)≤28:=by decide
theorem Xs {x:BT} (h:x.n≤8):x.w.sum≤28:=by
 have hl:=CJ (x:=x)
 have:=ABL x.w (x.n-1) (by omega) (fun i hi=>by
  have:=(FK (x:=x) (i:=i) (by omega)).1
  omega)
 rw [hl] at this
 have:=ARL x.n (by omega)
 omega
theorem Wv {y:BT}:∀ (k:Nat) (x:BT),C9 x y→y.w.sum-x.w.sum≤k→(((x::Bb y k x).length:Nat):Int)≤y.w.sum-x.w.sum+1∧(∀ z∈x::Bb y k x,z.n=x.n)∧AX (x::Bb y k x) ((x::Bb y k x).length-1)=y∧
  ∀ i:Nat,i+1<(x::Bb y k x).length→AX (x::Bb y k x) (i+1)∈Bu (AX (x::Bb y k x) i)∧C9 (AX (x::Bb y k x) i) (AX (x::Bb y k x) (i+1))
 | k,x,h,hk=>by
  have hs:=Mf h
  by_cases e:x=y
  ·have:Bb y k x=[]:=S9 (by rw [e])
   rw [this]
   refine ⟨by simp; omega,by simp,by simpa [AX] using e,fun i hi=>by simp at hi⟩
  ·obtain ⟨z,hz,h1,h2,h3⟩:=SZ h e
   have h4:=Mf h1
   cases k with
   | zero=>omega
   | succ k=>
    have et:¬ x.t=y.t:=fun q=>e (Jq q)
    have ec:Bb y (k+1) x=z::Bb y k z:=by rw [Bb,if_neg et,hz]
    obtain ⟨i1,i2,i3,i4⟩:=Wv k z h1 (by omega)
    have hm:=S6 (List.mem_of_find?_eq_some hz)
    obtain ⟨v,hv,hv2⟩:=hm
    rw [ec]
    refine ⟨by simp only [A6] at i1 ⊢; omega,fun u hu=>?_,?_,fun i hi=>?_⟩
    ·rcases A5.1 hu with q | q
     ·rw [q]
     ·rw [i2 u q,h3]
    ·have:AX (x::z::Bb y k z) ((x::z::Bb y k z).length-1)=AX (z::Bb y k z) ((z::Bb y k z).length-1):=by simp [AX]
     rw [this,i3]
    ·cases i with
     | zero=>exact ⟨ACR hv hv2,ALZ hv hv2⟩
     | succ i=>
      have:=i4 i (by simp at hi ⊢; omega)
      exact this
theorem AKG {x y:BT} (hx:x.n≤8) (h:C9 x y) {g:List Nat→List Nat→Bool} (hg:∀ u v:BT,u.n≤8→v.n≤8→C9 u v→g u.t v.t=true):
  Ci x.t y.t (x.t::(Bb y 64 x).map BT.t)=true∧Fy g (x.t::(Bb y 64 x).map BT.t)=true:=by
 have hy:y.n≤8:=by have:=h.1; omega
 have a1:=Xs hx
 have a2:=Xs hy
 have a3:=(Ml hx).1
 obtain ⟨i1,i2,i3,i4⟩:=Wv 64 x h (by omega)
 have e:x.t::(Bb y 64 x).map BT.t=(x::Bb y 64 x).map BT.t:=rfl
 rw [e]
 have h8:∀ z∈x::Bb y 64 x,z.n≤8:=fun z hz=>by rw [i2 z hz]; exact hx
 refine ⟨?_,ALS hg h8 fun i hi=>(i4 i hi).2⟩
 have:=Ul (l:=x::Bb y 64 x) ⟨by simp,by omega⟩ h8 fun i hi=>(i4 i hi).1
 rw [i3] at this
 exact this
def NB (S:List BT×List Int):Prop:=∀ k:Nat,0<k→k<S.1.length→AX S.1 k∈Bu (AX S.1 (AD S.2 (k:Nat)).toNat)
theorem NB.fold {a:BT} {i:Nat}:∀ {l:List BT} {S:List BT×List Int},BI a S→NB S→i<S.1.length→(∀ u∈l,u∈Bu (AX S.1 i))→(∀ u∈l,u.n=a.n)→NB (l.foldl (Bv i) S)
 | [],S,_,h,_,_,_=>h
 | u::l,S,hb,h,hi,hl,hn=>by
  have hb2:BI a (Bv i S u):=hb.add (hn u (by simp)) hi
  have hu:=hl u (by simp)
  have hlen:=hb.len
  refine NB.fold (l:=l) hb2 ?_ ?_ ?_ (fun v hv=>hn v (by simp [hv]))
  ·unfold Bv
   split
   ·exact h
   ·intro k k0 hk
    simp only [Ad,A6,Aq] at hk
    by_cases e:k=S.1.length
    ·subst e
     have e1:AX (S.1++[u]) S.1.length=u:=by simp [AX]
     have e2:AD (S.2++[(i:Int)]) (S.1.length:Nat)=i:=by rw [← hlen]; simp [AD]
     rw [e1,e2,CB,EL hi]
     exact hu
    ·have hk2:k<S.1.length:=by omega
     have hp:=hb.par k k0 hk2
     rw [EL hk2,IJ (by rw [hlen]; exact hk2),EL (by omega)]
     exact h k k0 hk2
  ·unfold Bv
   split
   ·exact hi
   ·simp; omega
  ·intro v hv
   have e:AX (Bv i S u).1 i=AX S.1 i:=by
    unfold Bv
    split
    ·rfl
    ·exact EL hi
   rw [e]
   exact hl v (by simp [hv])
theorem AB5 {a:BT}:∀ i,(∀ j,j<i→j<(AO a j).1.length)→NB (AO a i)
 | 0,_=>fun k k0 hk=>by simp [AO] at hk; omega
 | i+1,h=>NB.fold (E5 i) (AB5 i fun j hj=>h j (by omega)) (h i (by omega)) (fun u hu=>hu) (fun u hu=>by
  have:=(E5 (a:=a) i).ns _ (FO (h i (by omega)))
  exact (KM hu).trans this)
theorem VW {a:BT} {S:List BT×List Int} (hb:BI a S) (hN:NB S):∀ (f k:Nat),k<f→k<S.1.length→∃ l:List BT,CM S f k=l.map BT.t∧1≤l.length∧AX l 0=a∧AX l (l.length-1)=AX S.1 k∧(∀ z∈l,z.n=a.n)∧
  ∀ i:Nat,i+1<l.length→AX l (i+1)∈Bu (AX l i)
 | 0,k,h,_=>by omega
 | f+1,k,h,hk=>by
  simp only [CM]
  have hzn:=hb.ns _ (FO hk)
  by_cases k0:k=0
  ·subst k0
   have hp:AD S.2 ((0:Nat):Int)<0:=by have:=hb.hd.2.1; simpa using (by rw [this]; decide:AD S.2 0<0)
   rw [if_pos hp]
   exact ⟨[AX S.1 0],rfl,by simp,by simpa [AX] using hb.hd.1,by simp [AX],by simpa using hzn,fun i hi=>by simp at hi⟩
  ·obtain ⟨p0,p1⟩:=hb.par k (by omega) hk
   rw [if_neg (by omega)]
   obtain ⟨l,q1,q2,q3,q4,q5,q6⟩:=VW hb hN f (AD S.2 (k:Nat)).toNat (by omega) (by omega)
   refine ⟨l++[AX S.1 k],by rw [q1]; simp,by simp,?_,?_,fun z hz=>?_,fun i hi=>?_⟩
   ·rw [EL (by omega)]; exact q3
   ·simp [AX]
   ·rcases A8.1 hz with q | q
    ·exact q5 z q
    ·rw [List.mem_singleton.1 q]; exact hzn
   ·simp only [Ad,A6,Aq] at hi
    by_cases e:i+1=l.length
    ·have e1:AX (l++[AX S.1 k]) (i+1)=AX S.1 k:=by rw [e]; simp [AX]
     rw [e1,EL (by omega),show i=l.length-1 by omega,q4]
     exact hN k (by omega) hk
    ·rw [EL (by omega),EL (by omega)]
     exact q6 i (by omega)
end Go.Cat
