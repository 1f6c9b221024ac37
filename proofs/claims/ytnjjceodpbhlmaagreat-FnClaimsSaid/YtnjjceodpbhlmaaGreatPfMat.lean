/-
 Matchings: partners of points, crossings, loops.
-/
import Derived.Test.YtnjjceodpbhlmaaGreatPfPath
import Derived.Test.YtnjjceodpbhlmaaGreatIrHas
set_option linter.unusedSimpArgs false
set_option linter.unusedVariables false
namespace Go.Cat
variable {K:Nat→List D→List D→Prop}
def GJ (m:List Int) (i:Nat):Prop:=∀ j:Nat,j<i→Ar 0 ((m.length:Int)-1) (AD m j)=true∧AD m j≠j∧AD m (AD m j)=j
instance {m:List Int} {i:Nat}:Decidable (GJ m i):=by unfold GJ; infer_instance
def CS (m:List Int):Bool:=decide (m.length≤16)&&decide (GJ m m.length)
theorem J1 {m:List Int} (h:¬ GJ m m.length):CS m=false:=by simp [CS,h]
theorem JN {m:List Int} (h:CS m=true):m.length≤16∧GJ m m.length:=by simpa [CS] using h
theorem ALC [HA K] {m:List Int} (h:m.length≤1099511627776):K 380 [LI m] [.b (CS m)]:=by
 refine AG (f:=NO) rfl ?_; simp only [NO,zu]
 by_cases hl:m.length≤16
 ·simp (disch:=omega) only [AA]
  refine Ag (fun i=>GJ m i) (fun i=>[LI m,.u,.u,.u,.u,LI m,.n m.length,.n i,.u,.u]) m.length (by simp [GJ]) rfl (fun i hi hP=>?_) (fun hP=>?_)
  ·simp (disch:=omega) only [AA]
   cases hr:Ar 0 ((m.length:Int)-1) (AD m i)
   ·repeat (first | (refine AE (DW (K:=K)) rfl ?_; try simp (disch:=omega) only [AA,hr]))
    rw [J1 fun q=>by have:=(q i hi).1; rw [hr] at this; cases this]
   ·have hb:=BG.1 hr
    repeat (first | (refine AE (DW (K:=K)) rfl ?_; try simp (disch:=omega) only [AA,hr]))
    by_cases h1:AD m i=i
    ·simp (disch:=omega) only [AA,h1]
     rw [J1 fun q=>(q i hi).2.1 h1]
    ·simp (disch:=omega) only [AA]
     by_cases h2:AD m (AD m i)=i
     ·simp (disch:=omega) only [AA]
      exact CH hP ⟨hr,h1,h2⟩
     ·simp (disch:=omega) only [AA]
      rw [J1 fun q=>h2 (q i hi).2.2]
  ·simp (disch:=omega) only [AA]
   simp [CS,hl,hP]
 ·simp (disch:=omega) only [AA]
  simp [CS,hl]
theorem AHB [HA K] {m:List Int} (h:m.length≤1099511627776):K 379 [LI m] [.b (CS m)]:=by
 refine AG (f:=MC) rfl ?_; simp only [MC,zu]
 simp (disch:=omega) only [AA]
 refine Ag (fun i=>GJ m i) (fun i=>[LI m,.u,.n i,.u,.u]) m.length (by simp [GJ]) rfl (fun i hi hP=>?_) (fun hP=>?_)
 ·simp (disch:=omega) only [AA]
  cases hr:Ar 0 ((m.length:Int)-1) (AD m i)
  ·repeat (first | (refine AE (Cs (K:=K)) rfl ?_; try simp (disch:=omega) only [AA,hr]))
   rw [J1 fun q=>by have:=(q i hi).1; rw [hr] at this; cases this]
  ·have hb:=BG.1 hr
   repeat (first | (refine AE (Cs (K:=K)) rfl ?_; try simp (disch:=omega) only [AA,hr]))
   by_cases h1:AD m i=i
   ·simp (disch:=omega) only [AA,h1]
    rw [J1 fun q=>(q i hi).2.1 h1]
   ·simp (disch:=omega) only [AA]
    by_cases h2:AD m (AD m i)=i
    ·simp (disch:=omega) only [AA]
     exact CH hP ⟨hr,h1,h2⟩
    ·simp (disch:=omega) only [AA]
     rw [J1 fun q=>h2 (q i hi).2.2]
 ·simp (disch:=omega) only [AA]
  simp [CS,hP]
  omega
def Ao (g:Nat→Nat):Nat→Nat
 | 0=>0
 | n+1=>Ao g n+g n
theorem Fp {g:Nat→Nat} {b:Nat} (h:∀ i,g i≤b):∀ n,Ao g n≤n*b
 | 0=>by simp [Ao]
 | n+1=>by
  have:=Fp h n
  have:=h n
  simp only [Ao,Nat.succ_mul]; omega
theorem KK {g g':Nat→Nat}:∀ {n},(∀ i,i<n→g i=g' i)→Ao g n=Ao g' n
 | 0,_=>rfl
 | n+1,h=>by
  simp only [Ao]
  rw [KK fun i hi=>h i (by omega),h n (by omega)]
theorem KF {g:Nat→Nat}:∀ {n},(∀ i,i<n→g i=0)→Ao g n=0
 | 0,_=>rfl
 | n+1,h=>by
  simp only [Ao]
  rw [KF fun i hi=>h i (by omega),h n (by omega)]
def Bz (m:List Int) (a b:Nat):Nat:=if (a:Int)<b∧(b:Int)<AD m a∧AD m a<AD m b then 1 else 0
def KY (m:List Int):Nat:=Ao (fun a=>Ao (Bz m a) m.length) m.length
theorem O7 {m:List Int} {a b:Nat}:Bz m a b≤1:=by unfold Bz; split <;> omega
def EK (m:List Int) (a b:Nat):Nat:=if (a:Int)<b∧(b:Int)<AD m b∧¬ AD m a<AD m b∧(b:Int)<AD m a then 1 else 0
theorem Y7 {m:List Int} {a b:Nat}:EK m a b≤1:=by unfold EK; split <;> omega
def neF (m:List Int):Nat:=Ao (fun a=>Ao (EK m a) m.length) m.length
theorem AK7 [HA K] {m:List Int} (h:m.length≤1099511627776):K 369 [LI m] [.n (if CS m=true then (KY m:Int) else -1)]:=by
 refine AG (f:=Kc) rfl ?_; simp only [Kc,zu]
 simp (disch:=omega) only [AA]
 refine AE (AHB (K:=K) h) rfl ?_
 cases hm:CS m
 ·simp (disch:=omega) only [AA]
  simp
 ·have hl:=(JN hm).1
  rw [if_pos rfl]
  simp (disch:=omega) only [AA]
  refine CK (fun i (c:Nat)=>c=Ao (fun a=>Ao (Bz m a) m.length) i) (fun i c=>[LI m,.u,.n c,.n i,.u,.u,.u,.u,.u]) m.length 0 rfl rfl (fun i c hi hP=>?_) (fun c hP=>?_)
  ·subst hP
   have hb:=Fp (g:=fun a=>Ao (Bz m a) m.length) (b:=16) (fun a=>by have:=Fp (g:=Bz m a) (b:=1) (fun _=>O7) m.length; omega) i
   have h0:Ao (Bz m i) (i+1)=0:=KF fun b hb=>by unfold Bz; rw [if_neg (by omega)]
   simp (disch:=omega) only [AA]
   refine B9 (fun (x:Nat×Nat)=>(i+1≤x.1∧x.1≤m.length)∧x.2=Ao (Bz m i) x.1) (fun x=>[LI m,.u,.n (Ao (fun a=>Ao (Bz m a) m.length) i+x.2:Nat),.n i,.n x.1,.u,.u,.u,.u]) (fun x=>m.length-x.1) (i+1,0) ⟨by omega,h0.symm⟩ rfl ?_
   rintro ⟨k,c⟩ ⟨hk,hc0⟩
   simp only at hk hc0 ⊢
   subst hc0
   have hc:=Fp (g:=Bz m i) (b:=1) (fun _=>O7) k
   by_cases hkl:k<m.length
   ·have e1:Ao (Bz m i) (k+1)=Ao (Bz m i) k+Bz m i k:=rfl
    by_cases q1:(k:Int)<AD m i
    ·by_cases q2:AD m i<AD m k
     ·have e2:Bz m i k=1:=if_pos (by omega)
      simp (disch:=omega) only [AA]
      exact ⟨(k+1,Ao (Bz m i) (k+1)),by show m.length-(k+1)<m.length-k; omega,⟨by show i+1≤k+1∧k+1≤m.length; omega,rfl⟩,by rw [e1,e2]; simp; omega⟩
     ·have e2:Bz m i k=0:=if_neg (by omega)
      simp (disch:=omega) only [AA]
      exact ⟨(k+1,Ao (Bz m i) (k+1)),by show m.length-(k+1)<m.length-k; omega,⟨by show i+1≤k+1∧k+1≤m.length; omega,rfl⟩,by rw [e1,e2]; simp⟩
    ·have e2:Bz m i k=0:=if_neg (by omega)
     simp (disch:=omega) only [AA]
     exact ⟨(k+1,Ao (Bz m i) (k+1)),by show m.length-(k+1)<m.length-k; omega,⟨by show i+1≤k+1∧k+1≤m.length; omega,rfl⟩,by rw [e1,e2]; simp⟩
   ·obtain rfl:k=m.length:=by omega
    simp (disch:=omega) only [AA]
    exact ⟨_,rfl,rfl⟩
  ·subst hP
   simp (disch:=omega) only [AA]
   rfl
theorem AKJ [HA K] {m:List Int} (hl:m.length≤16):K 381 [LI m] [.n (KY m),.n (neF m)]:=by
 refine AG (f:=MR) rfl ?_; simp only [MR,zu]
 simp (disch:=omega) only [AA]
 refine CK (fun i (c:Nat×Nat)=>c.1=Ao (fun a=>Ao (Bz m a) m.length) i∧c.2=Ao (fun a=>Ao (EK m a) m.length) i) (fun i c=>[LI m,.u,.u,.n c.1,.n c.2,.u,.u,.u,.u,LI m,.n m.length,.n i,.u,.u,.u,.u,.u,.u,.u]) m.length (0,0) ⟨rfl,rfl⟩ rfl (fun i c hi hP=>?_) (fun c hP=>?_)
 ·obtain ⟨c1,c2⟩:=c
  obtain ⟨hc1,hc2⟩:=hP
  simp only at hc1 hc2
  have hb:=Fp (g:=fun a=>Ao (Bz m a) m.length) (b:=16) (fun a=>by have:=Fp (g:=Bz m a) (b:=1) (fun _=>O7) m.length; omega) i
  have hb2:=Fp (g:=fun a=>Ao (EK m a) m.length) (b:=16) (fun a=>by have:=Fp (g:=EK m a) (b:=1) (fun _=>Y7) m.length; omega) i
  rw [← hc1] at hb
  rw [← hc2] at hb2
  simp (disch:=omega) only [AA]
  refine CK (fun k (c:Nat×Nat)=>c.1=c1+Ao (Bz m i) k∧c.2=c2+Ao (EK m i) k) (fun k c=>[LI m,.u,.u,.n c.1,.n c.2,.n i,.n (AD m i),.u,.u,LI m,.n m.length,.n i,.u,LI m,.n m.length,.n k,.u,.u,.u]) m.length (c1,c2) ⟨rfl,rfl⟩ rfl (fun k c hk hP=>?_) (fun c hP=>?_)
  ·obtain ⟨d1,d2⟩:=c
   obtain ⟨hd1,hd2⟩:=hP
   simp only at hd1 hd2
   have e1:=Fp (g:=Bz m i) (b:=1) (fun _=>O7) k
   have e2:=Fp (g:=EK m i) (b:=1) (fun _=>Y7) k
   have f1:Ao (Bz m i) (k+1)=Ao (Bz m i) k+Bz m i k:=rfl
   have f2:Ao (EK m i) (k+1)=Ao (EK m i) k+EK m i k:=rfl
   have none_:¬ ((i:Int)<k∧(k:Int)<AD m i∧(k:Int)<AD m k)→c1+Ao (Bz m i) (k+1)=d1∧c2+Ao (EK m i) (k+1)=d2:=by
    intro q
    have g1:Bz m i k=0:=if_neg (by omega)
    have g2:EK m i k=0:=if_neg (by omega)
    rw [f1,f2,g1,g2]; omega
   by_cases p1:(i:Int)<AD m i
   ·by_cases p2:(k:Int)<AD m k
    ·by_cases p3:i<k
     ·by_cases p4:(k:Int)<AD m i
      ·by_cases p5:AD m i<AD m k
       ·have g1:Bz m i k=1:=if_pos (by omega)
        have g2:EK m i k=0:=if_neg (by omega)
        simp (disch:=omega) only [AA]
        exact ⟨(d1+1,d2),⟨by rw [f1,g1]; show d1+1=_; omega,by rw [f2,g2]; show d2=_; omega⟩,rfl⟩
       ·have g1:Bz m i k=0:=if_neg (by omega)
        have g2:EK m i k=1:=if_pos (by omega)
        simp (disch:=omega) only [AA]
        exact ⟨(d1,d2+1),⟨by rw [f1,g1]; show d1=_; omega,by rw [f2,g2]; show d2+1=_; omega⟩,rfl⟩
      ·simp (disch:=omega) only [AA]
       obtain ⟨g1,g2⟩:=none_ (by omega)
       exact ⟨(d1,d2),⟨g1.symm,g2.symm⟩,rfl⟩
     ·simp (disch:=omega) only [AA]
      obtain ⟨g1,g2⟩:=none_ (by omega)
      exact ⟨(d1,d2),⟨g1.symm,g2.symm⟩,rfl⟩
    ·simp (disch:=omega) only [AA]
     obtain ⟨g1,g2⟩:=none_ (by omega)
     exact ⟨(d1,d2),⟨g1.symm,g2.symm⟩,rfl⟩
   ·simp (disch:=omega) only [AA]
    obtain ⟨g1,g2⟩:=none_ (by omega)
    exact ⟨(d1,d2),⟨g1.symm,g2.symm⟩,rfl⟩
  ·obtain ⟨d1,d2⟩:=c
   obtain ⟨hd1,hd2⟩:=hP
   simp only at hd1 hd2
   simp (disch:=omega) only [AA]
   exact ⟨(d1,d2),⟨by rw [hd1,hc1]; rfl,by rw [hd2,hc2]; rfl⟩,rfl⟩
 ·obtain ⟨c1,c2⟩:=c
  obtain ⟨hc1,hc2⟩:=hP
  simp only at hc1 hc2
  simp (disch:=omega) only [AA]
  rw [hc1,hc2]
  rfl
theorem ARC [HA K] {m:List Int} (h:m.length≤1099511627776):K 372 [LI m] [.n (if CS m=true then (KY m:Int) else -1)]:=by
 refine AG (f:=MU) rfl ?_; simp only [MU,zu]
 simp (disch:=omega) only [AA]
 refine AE (ALC (K:=K) h) rfl ?_
 cases hm:CS m
 ·simp (disch:=omega) only [AA]
  simp
 ·have hl:=(JN hm).1
  rw [if_pos rfl]
  simp (disch:=omega) only [AA]
  refine AE (AKJ (K:=K) hl) rfl ?_
  simp (disch:=omega) only [AA]
def Bt (m:List Int):Bool:=CS m&&decide (KY m=0)
theorem VJ {m:List Int}:decide ((if CS m=true then (KY m:Int) else -1)=0)=Bt m:=by
 unfold Bt
 cases CS m
 ·rfl
 ·simp
theorem Ri [HA K] {m:List Int} (h:m.length≤1099511627776):K 358 [LI m] [.b (Bt m)]:=by
 refine AG (f:=Nl) rfl ?_; simp only [Nl,zu]
 simp (disch:=omega) only [AA]
 refine AE (ARC (K:=K) h) rfl ?_
 simp (disch:=omega) only [AA,VJ]
theorem KI [HA K] {m:List Int} (h:m.length≤1099511627776):K 355 [LI m] [.b (Bt m)]:=by
 refine AG (f:=MT) rfl ?_; simp only [MT,zu]
 simp (disch:=omega) only [AA]
 refine AE (AK7 (K:=K) h) rfl ?_
 simp (disch:=omega) only [AA,VJ]
theorem VQ {w:List Nat} {m:List Int} (hl:w.length≤16) (h:PP w m):CS m=true:=by
 have key:GJ m m.length:=by
  intro j hj
  have hin:=AN1 h hj
  obtain ⟨h1,h2⟩:=h
  obtain ⟨b,e,q⟩:=h2 j (by omega)
  have hb:b<w.length:=by rcases q with q | q <;> have:=q.2.1 <;> have:=q.1 <;> omega
  obtain ⟨c,e2,q2⟩:=h2 b hb
  refine ⟨BG.2 (by omega),?_,?_⟩
  ·rcases q with q | q <;> have:=q.1 <;> omega
  ·rw [e,e2]
   rcases q with q | q <;> rcases q2 with q2 | q2
   ·exact (O0 q q2).elim
   ·rw [XP q q2]
   ·rw [AEO q q2]
   ·exact (O0 q2 q).elim
 have h1:=h.1
 simp only [CS,Ac,Aj]
 exact ⟨by omega,key⟩
theorem ASJ {w:List Nat} {m:List Int} (h:PP w m):KY m=0:=by
 obtain ⟨h1,h2⟩:=h
 refine KF fun a ha=>KF fun b hb=>if_neg ?_
 rintro ⟨p1,p2,p3⟩
 obtain ⟨c,e,q⟩:=h2 a (by omega)
 obtain ⟨d,e2,q2⟩:=h2 b (by omega)
 rcases q with q | q
 ·rcases q2 with q2 | q2
  ·exact ANO q q2 (by omega)
  ·have:=q2.1; omega
 ·have:=q.1; omega
theorem AAO {w:List Nat} {m:List Int} (hl:w.length≤16) (h:PP w m):Bt m=true:=by
 simp [Bt,VQ hl h,ASJ h]
end Go.Cat
