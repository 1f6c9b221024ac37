/-
 Triangulations: any rows.
-/
import Derived.Test.YtnjjceodpbhlmaaGreatPfTri2
set_option linter.unusedSimpArgs false
set_option linter.unusedVariables false
namespace Go.Cat
variable {K:Nat→List D→List D→Prop}
set_option maxRecDepth 100000
def DX (n:Int) (r:List Int):Bool:=decide (r.length=2)&&Dh n r
def DN (n:Int) (d:List (List Int)) (i:Nat):Bool:=DX n (AH d i)&&((decide (i=0) || BL (AH d ((i:Int)-1)) (AH d i))&&(d.take i).all (fun q=>!BY q (AH d i)))
def Bh (n:Int) (d:List (List Int)):Bool:=Ar 2 10 n&&(decide ((d.length:Int)=max 0 (n-3))&&decide (∀ i:Nat,i<d.length→DN n d i=true))
theorem Jx {n:Int} {r:List Int} (hn:2≤n∧n≤10) (h:DX n r=true):Es r:=by
 simp only [DX,Dh,Ac,Aj] at h
 obtain ⟨h1,⟨h2,h3⟩,_⟩:=h
 have a:=BG.1 h2
 have b:=BG.1 h3
 exact ⟨h1,by omega,by omega⟩
theorem FP {n:Int} {d:List (List Int)} (h:Bh n d=true):(2≤n∧n≤10)∧(d.length:Int)=max 0 (n-3)∧∀ i:Nat,i<d.length→DN n d i=true:=by
 simp only [Bh,Ac,Aj] at h
 exact ⟨BG.1 h.1,h.2.1,h.2.2⟩
theorem QZ {n:Int} {d:List (List Int)} (h:Bh n d=true):∀ r∈d,Es r:=by
 obtain ⟨h1,h2,h3⟩:=FP h
 intro r hr
 obtain ⟨i,hi,rfl⟩:=List.mem_iff_getElem.1 hr
 have:=h3 i hi
 simp only [DN,Ac] at this
 have e:AH d i=d[i]:=by simp [AH,hi]
 rw [e] at this
 exact Jx h1 this.1
theorem He {n:Int} {d:List (List Int)} {i:Nat} (hi:i<d.length) (h:DN n d i=false):Bh n d=false:=by
 cases e:Bh n d with
 | false=>rfl
 | true=>
  have:=(FP e).2.2 i hi
  rw [h] at this; cases this
theorem ANK [HA K] {n:Int} {r:List Int} (hn:0≤n∧n≤1000) (hl:r.length≤1099511627776):K 605 [.n n,LI r] [.b (DX n r)]:=by
 by_cases h1:r.length=2
 ·have e0:DX n r=Dh n r:=by simp [DX,h1]
  rw [e0]
  refine AG (f:=Hy) rfl ?_; simp only [Hy,zu]
  simp (disch:=omega) only [AA]
  refine AE (DW (K:=K)) rfl ?_
  cases q1:Ar 0 (n-1) (AD r 0)
  ·simp (disch:=omega) only [AA]
   simp [Dh,q1]
  simp (disch:=omega) only [AA]
  refine AE (DW (K:=K)) rfl ?_
  cases q2:Ar 0 (n-1) (AD r 1)
  ·have e:Dh n r=false:=by
    simp only [Dh,Bool.and_eq_false_iff]
    refine .inl (.inr ?_)
    rw [Bool.eq_false_iff]
    intro q
    have a:=BG.1 q1
    have b:=BG.1 q
    have:Ar 0 (n-1) (AD r 1)=true:=BG.2 (by omega)
    rw [this] at q2; cases q2
   simp (disch:=omega) only [AA]
   rw [e]
  have a1:=BG.1 q1
  have a2:=BG.1 q2
  by_cases q3:AD r 1-AD r 0≥2
  ·have q3':Ar (AD r 0+2) (n-1) (AD r 1)=true:=BG.2 (by omega)
   by_cases q4:AD r 0=0
   ·by_cases q5:AD r 1=n-1
    ·simp (disch:=omega) only [AA]
     simp [Dh,q4,q5]
    ·simp (disch:=omega) only [AA]
     have q6:decide (AD r 1=n-1)=false:=decide_eq_false q5
     simp only [Dh,q1,q3',q6,Bool.and_false]
     rfl
   ·simp (disch:=omega) only [AA]
    simp [Dh,q1,q3',q4]
  ·have q3':Ar (AD r 0+2) (n-1) (AD r 1)=false:=by
    rw [Bool.eq_false_iff]; intro q; have:=BG.1 q; omega
   simp (disch:=omega) only [AA]
   simp [Dh,q3']
 ·have e0:DX n r=false:=by simp [DX,h1]
  rw [e0]
  refine AG (f:=Hy) rfl ?_; simp only [Hy,zu]
  simp (disch:=omega) only [AA]
theorem ARW {d:List (List Int)} {i k:Nat} (hi:i≤d.length) (hk:k<i):AH (d.take i) k=AH d k:=by
 simp [AH,BP,hk]
theorem Kf {d:List (List Int)} {i:Nat} {f:List Int→Bool} (hi:i≤d.length):(d.take i).all f=decide (∀ k:Nat,k<i→f (AH d k)=true):=by
 rw [Bool.eq_iff_iff,BD,Aj]
 constructor
 ·intro h k hk
  refine h _ ?_
  rw [List.mem_iff_getElem]
  exact ⟨k,by simp; omega,by simp [AH,show k<d.length by omega]⟩
 ·intro h x hx
  obtain ⟨k,hk,rfl⟩:=List.mem_iff_getElem.1 hx
  have hk':k<i:=by simp at hk; omega
  have:=h k hk'
  simpa [AH,show k<d.length by omega] using this
theorem P1 [HA K] {n:Int} {d:List (List Int)} (hn:-2000000000000≤n∧n≤2000000000000) (hd:d.length≤1099511627776) (hl:∀ r∈d,r.length≤1099511627776):K 602 [.n n,LL d] [.b (Bh n d)]:=by
 refine AG (f:=ND) rfl ?_; simp only [ND,zu]
 simp (disch:=omega) only [AA]
 refine AE (DW (K:=K)) rfl ?_
 cases h1:Ar 2 10 n
 ·have e:Bh n d=false:=by simp [Bh,h1]
  rw [e]
  simp (disch:=omega) only [AA]
 have hn:=BG.1 h1
 by_cases h2:(d.length:Int)=max 0 (n-3)
 ·have e0:max 0 (n-3)=(d.length:Int):=h2.symm
  simp (disch:=omega) only [AA,e0]
  refine Ag (fun i=>∀ j:Nat,j<i→DN n d j=true) (fun i=>[.n n,LL d,.u,.u,.u,.u,.u,LL d,.n d.length,.n i,.u,.u,.u,.u,.u,.u,.u]) d.length (fun j hj=>by omega) rfl (fun i hi hP=>?_) (fun hP=>?_)
  ·have hxl:(AH d i).length≤1099511627776:=hl _ (by simp [AH,hi])
   simp (disch:=omega) only [AA]
   refine AE (ANK (K:=K) (n:=n) (r:=AH d i) (by omega) hxl) rfl ?_
   cases hp1:DX n (AH d i)
   ·have e:Bh n d=false:=He hi (by simp [DN,hp1])
    rw [e]
    simp (disch:=omega) only [AA]
   have hx:=Jx hn hp1
   have hxl:=hx.1
   have es:sub d 0 (i:Int)=d.take i:=by simp [sub]
   have el:(d.take i).length=i:=by simp; omega
   have rk:∀ k:Nat,k<i→Es (AH d k):=fun k hk=>by
    have:=hP k hk
    simp only [DN,Ac] at this
    exact Jx hn this.1
   have ea:∀ k:Nat,k<i→AH (d.take i) k=AH d k:=fun k hk=>ARW (by omega) hk
   have inner:∀ k:Nat,k<i→BY (AH d k) (AH d i)=true→Bh n d=false:=fun k hk hc=>He hi (by
    have:(d.take i).all (fun q=>!BY q (AH d i))=false:=by
     rw [Kf (by omega),decide_eq_false_iff_not]
     intro q
     have:=q k hk
     rw [hc] at this; cases this
    simp [DN,this])
   have outer:(i=0∨BL (AH d ((i:Int)-1)) (AH d i)=true)→(∀ k:Nat,k<i→BY (AH d k) (AH d i)=false)→∀ j:Nat,j<i+1→DN n d j=true:=fun ho hc j hj=>by
    by_cases e:j=i
    ·subst e
     have:(d.take j).all (fun q=>!BY q (AH d j))=true:=by
      rw [Kf (by omega),Aj]
      intro k hk
      rw [hc k hk]; rfl
     rw [DN,hp1,this]
     rcases ho with o | o
     ·simp [o]
     ·simp [o]
    ·exact hP j (by omega)
   by_cases h0:i=0
   ·subst h0
    simp (disch:=omega) only [AA,es]
    refine Ag (fun _=>True) (fun k=>[.n n,LL d,.u,.u,LI (AH d 0),.u,.u,LL d,.n d.length,.n 0,.u,.u,LL (sub d 0 (0:Int)),.n 0,.n k,.u,.u]) 0 trivial rfl (fun k hk _=>by omega) (fun _=>?_)
    simp (disch:=omega) only [AA]
    exact outer (.inl rfl) (fun k hk=>by omega)
   ·have hy:Es (AH d ((i:Int)-1)):=by
     have:=rk (i-1) (by omega)
     rwa [show ((i-1:Nat):Int)=(i:Int)-1 by omega] at this
    have ksc:=Vr (K:=K) (x:=AH d ((i:Int)-1)) (y:=AH d i) hy.1 hx.1
    have hsgn:=AFN (x:=AH d ((i:Int)-1)) (y:=AH d i)
    cases hlt:BL (AH d ((i:Int)-1)) (AH d i)
    ·have e:Bh n d=false:=He hi (by simp [DN,hlt,h0])
     rw [e]
     rw [hlt,decide_eq_false_iff_not] at hsgn
     have hcm:decide (GS (AH d ((i:Int)-1)) (AH d i)≥0)=true:=decide_eq_true (by omega)
     simp (disch:=omega) only [AA]
     refine AE (ksc) rfl ?_
     simp (disch:=omega) only [AA,hcm]
    rw [hlt,Aj] at hsgn
    have hcm:decide (GS (AH d ((i:Int)-1)) (AH d i)≥0)=false:=decide_eq_false (by omega)
    simp (disch:=omega) only [AA]
    refine AE (ksc) rfl ?_
    simp (disch:=omega) only [AA,hcm,ALE,es]
    refine Ag (fun k=>∀ j:Nat,j<k→BY (AH d j) (AH d i)=false) (fun k=>[.n n,LL d,.u,.u,LI (AH d i),.u,.u,LL d,.n d.length,.n i,.u,.u,LL (d.take i),.n i,.n k,.u,.u]) i (fun j hj=>by omega) ?_ (fun k hk hQ=>?_) (fun hQ=>?_)
    ·rw [el]; rfl
    ·have c3:=(rk k hk).1
     have c4:=ea k hk
     have nx:BY (AH d k) (AH d i)=false→∀ j:Nat,j<k+1→BY (AH d j) (AH d i)=false:=fun hc j hj=>by
      by_cases e:j=k
      ·rw [e]; exact hc
      ·exact hQ j (by omega)
     have bad:=inner k hk
     rw [← c4] at bad nx c3
     obtain ⟨y,ey⟩:∃ y,AH (d.take i) (k:Int)=y:=⟨_,rfl⟩
     rw [ey] at bad nx c3
     by_cases a1:AD y 0<AD (AH d i) 0
     ·by_cases a2:AD (AH d i) 0<AD y 1
      ·by_cases a3:AD y 1<AD (AH d i) 1
       ·rw [bad (by simp [BY,a1,a2,a3])]
        simp (disch:=omega) only [AA,ey]
       ·simp (disch:=omega) only [AA,ey]
        exact nx (by simp [BY,a1,a2,a3]; omega)
      ·simp (disch:=omega) only [AA,ey]
       exact nx (by simp [BY,a1,a2]; omega)
     ·by_cases b1:AD (AH d i) 0<AD y 0
      ·by_cases b2:AD y 0<AD (AH d i) 1
       ·by_cases b3:AD (AH d i) 1<AD y 1
        ·rw [bad (by simp [BY,b1,b2,b3])]
         simp (disch:=omega) only [AA,ey]
        ·simp (disch:=omega) only [AA,ey]
         exact nx (by simp [BY,a1,b1,b2,b3])
       ·simp (disch:=omega) only [AA,ey]
        exact nx (by simp [BY,a1,b1,b2])
      ·simp (disch:=omega) only [AA,ey]
       exact nx (by simp [BY,a1,b1])
    ·simp (disch:=omega) only [AA]
     exact outer (.inr hlt) hQ
  ·have e:Bh n d=true:=by
    simp only [Bh,h1,h2,decide_true,Bool.true_and,Aj]
    exact hP
   rw [e]
   simp (disch:=omega) only [AA]
 ·have e:Bh n d=false:=by simp [Bh,h2]
  rw [e]
  have hm:decide ((d.length:Int)=max 0 (n-3))=false:=decide_eq_false h2
  simp (disch:=omega) only [AA,hm]
theorem RN [HA K] {n:Int} {d:List (List Int)} (hn:-2000000000000≤n∧n≤2000000000000) (hd:d.length≤1099511627776) (hl:∀ r∈d,r.length≤1099511627776):K 600 [.n n,LL d] [.b (Bh n d)]:=by
 have k1:=Cs (K:=K) (x:=n) (a:=2) (b:=10)
 refine AG (f:=Il) rfl ?_; simp only [Il,zu]
 cases q1:Ar 2 10 n
 ·have e:Bh n d=false:=by simp [Bh,q1]
  rw [e]
  rw [q1] at k1
  simp (disch:=omega) only [AA]
  refine AE (k1) rfl ?_
  simp (disch:=omega) only [AA]
 rw [q1] at k1
 have hn:=BG.1 q1
 by_cases q2:(d.length:Int)=max 0 (n-3)
 ·simp (disch:=omega) only [AA]
  refine AE (k1) rfl ?_
  simp (disch:=omega) only [AA]
  refine Ag (fun i=>∀ j:Nat,j<i→DN n d j=true) (fun i=>[.n n,LL d,.u,.n i,.u,.u,.u,.u,.u,.u,.u]) d.length (fun j hj=>by omega) rfl (fun i hi hP=>?_) (fun hP=>?_)
  ·obtain ⟨r,hr⟩:∃ r,r=AH d i:=⟨_,rfl⟩
   have hxl:r.length≤1099511627776:=by rw [hr]; exact hl _ (by simp [AH,hi])
   have rk:∀ k:Nat,k<i→Es (AH d k):=fun k hk=>by
    have:=hP k hk
    simp only [DN,Ac] at this
    exact Jx hn this.1
   have noD:DX n r=false→Bh n d=false:=fun h=>He hi (by rw [hr] at h; simp [DN,h])
   by_cases g2:r.length=2
   ·have kA:=Cs (K:=K) (x:=AD r 0) (a:=0) (b:=n-1)
    have kB:=Cs (K:=K) (x:=AD r 1) (a:=AD r 0+2) (b:=n-1)
    cases p0:Ar 0 (n-1) (AD r 0)
    ·rw [p0] at kA
     rw [noD (by simp [DX,Dh,p0])]
     simp (disch:=omega) only [AA,← hr]
     refine AE (kA) rfl ?_
     simp (disch:=omega) only [AA,← hr]
    ·rw [p0] at kA
     have b0:=BG.1 p0
     cases p1:Ar (AD r 0+2) (n-1) (AD r 1)
     ·rw [p1] at kB
      rw [noD (by simp [DX,Dh,p1])]
      simp (disch:=omega) only [AA,← hr]
      refine AE (kA) rfl ?_
      simp (disch:=omega) only [AA,← hr]
      refine AE (kB) rfl ?_
      simp (disch:=omega) only [AA,← hr]
     ·rw [p1] at kB
      have b1:=BG.1 p1
      by_cases p2:AD r 0=0∧AD r 1=n-1
      ·rw [noD (by simp [DX,Dh,p2.1,p2.2])]
       simp (disch:=omega) only [AA,← hr]
       refine AE (kA) rfl ?_
       simp (disch:=omega) only [AA,← hr]
       refine AE (kB) rfl ?_
       simp (disch:=omega) only [AA,← hr,p2.1,p2.2]
      ·have eT:DX n r=true:=by
        by_cases p3:AD r 0=0
        ·have p4:¬ AD r 1=n-1:=fun q=>p2 ⟨p3,q⟩
         simp [DX,g2,Dh,p0,p1,p4]
        ·simp [DX,g2,Dh,p0,p1,p3]
       have hx:=Jx hn eT
       have inner:∀ k:Nat,k<i→BY (AH d k) r=true→Bh n d=false:=fun k hk hc=>He hi (by
        have:(d.take i).all (fun q=>!BY q r)=false:=by
         rw [Kf (by omega),decide_eq_false_iff_not]
         intro q
         have:=q k hk
         rw [hc] at this; cases this
        simp [DN,← hr,this])
       have outer:(i=0∨BL (AH d ((i:Int)-1)) r=true)→(∀ k:Nat,k<i→BY (AH d k) r=false)→∀ j:Nat,j<i+1→DN n d j=true:=fun ho hc j hj=>by
        by_cases e:j=i
        ·subst e
         have:(d.take j).all (fun q=>!BY q r)=true:=by
          rw [Kf (by omega),Aj]
          intro k hk
          rw [hc k hk]; rfl
         rw [DN,← hr,eT,this]
         rcases ho with o | o
         ·simp [o]
         ·simp [o]
        ·exact hP j (by omega)
       have loop:(i=0∨BL (AH d ((i:Int)-1)) r=true)→∀ k:Nat,k<i→BY (AH d k) r=BY (AH d k) r:=fun _ _ _=>rfl
       by_cases p3:AD r 0=0
       ·have p4:¬ AD r 1=n-1:=fun q=>p2 ⟨p3,q⟩
        by_cases i0:i=0
        ·simp (disch:=omega) only [AA,← hr]
         refine AE (kA) rfl ?_
         simp (disch:=omega) only [AA,← hr]
         refine AE (kB) rfl ?_
         simp (disch:=omega) only [AA,← hr,p3]
         refine Ag (fun k=>∀ j:Nat,j<k→BY (AH d j) r=false) (fun k=>[.n n,LL d,.u,.n i,.n k,.u,.u,.u,.u,.u,.u]) i (fun j hj=>by omega) (by simp) (fun k hk hC=>by omega) (fun hC=>?_)
         simp (disch:=omega) only [AA]
         exact outer (.inl i0) hC
        ·have kC:=Ru (K:=K) (x:=AH d ((i-1:Nat):Int)) (y:=r) (rk (i-1) (by omega)).1 g2
         have e1:((i-1:Nat):Int)=(i:Int)-1:=by omega
         rw [e1] at kC
         cases hlt:BL (AH d ((i:Int)-1)) r
         ·rw [hlt] at kC
          rw [He hi (by simp [DN,← hr,hlt,i0])]
          simp (disch:=omega) only [AA,← hr]
          refine AE (kA) rfl ?_
          simp (disch:=omega) only [AA,← hr]
          refine AE (kB) rfl ?_
          simp (disch:=omega) only [AA,← hr,p3]
          refine AE (kC) rfl ?_
          simp (disch:=omega) only [AA]
         ·rw [hlt] at kC
          simp (disch:=omega) only [AA,← hr]
          refine AE (kA) rfl ?_
          simp (disch:=omega) only [AA,← hr]
          refine AE (kB) rfl ?_
          simp (disch:=omega) only [AA,← hr,p3]
          refine AE (kC) rfl ?_
          simp (disch:=omega) only [AA]
          refine Ag (fun k=>∀ j:Nat,j<k→BY (AH d j) r=false) (fun k=>[.n n,LL d,.u,.n i,.n k,.u,.u,.u,.u,.u,.u]) i (fun j hj=>by omega) (by simp) (fun k hk hC=>?_) (fun hC=>?_)
          ·have kx:=ADM (K:=K) (a:=AH d k) (b:=r) (rk k hk) hx
           cases hxx:BY (AH d k) r
           ·rw [hxx] at kx
            simp (disch:=omega) only [AA,← hr]
            refine AE (kx) rfl ?_
            simp (disch:=omega) only [AA]
            intro j hj
            by_cases e:j=k
            ·rw [e]; exact hxx
            ·exact hC j (by omega)
           ·rw [hxx] at kx
            rw [inner k hk hxx]
            simp (disch:=omega) only [AA,← hr]
            refine AE (kx) rfl ?_
            simp (disch:=omega) only [AA]
          ·simp (disch:=omega) only [AA]
           exact outer (.inr hlt) hC
       ·by_cases i0:i=0
        ·simp (disch:=omega) only [AA,← hr]
         refine AE (kA) rfl ?_
         simp (disch:=omega) only [AA,← hr]
         refine AE (kB) rfl ?_
         simp (disch:=omega) only [AA,← hr]
         refine Ag (fun k=>∀ j:Nat,j<k→BY (AH d j) r=false) (fun k=>[.n n,LL d,.u,.n i,.n k,.u,.u,.u,.u,.u,.u]) i (fun j hj=>by omega) (by simp) (fun k hk hC=>by omega) (fun hC=>?_)
         simp (disch:=omega) only [AA]
         exact outer (.inl i0) hC
        ·have kC:=Ru (K:=K) (x:=AH d ((i-1:Nat):Int)) (y:=r) (rk (i-1) (by omega)).1 g2
         have e1:((i-1:Nat):Int)=(i:Int)-1:=by omega
         rw [e1] at kC
         cases hlt:BL (AH d ((i:Int)-1)) r
         ·rw [hlt] at kC
          rw [He hi (by simp [DN,← hr,hlt,i0])]
          simp (disch:=omega) only [AA,← hr]
          refine AE (kA) rfl ?_
          simp (disch:=omega) only [AA,← hr]
          refine AE (kB) rfl ?_
          simp (disch:=omega) only [AA,← hr]
          refine AE (kC) rfl ?_
          simp (disch:=omega) only [AA]
         ·rw [hlt] at kC
          simp (disch:=omega) only [AA,← hr]
          refine AE (kA) rfl ?_
          simp (disch:=omega) only [AA,← hr]
          refine AE (kB) rfl ?_
          simp (disch:=omega) only [AA,← hr]
          refine AE (kC) rfl ?_
          simp (disch:=omega) only [AA]
          refine Ag (fun k=>∀ j:Nat,j<k→BY (AH d j) r=false) (fun k=>[.n n,LL d,.u,.n i,.n k,.u,.u,.u,.u,.u,.u]) i (fun j hj=>by omega) (by simp) (fun k hk hC=>?_) (fun hC=>?_)
          ·have kx:=ADM (K:=K) (a:=AH d k) (b:=r) (rk k hk) hx
           cases hxx:BY (AH d k) r
           ·rw [hxx] at kx
            simp (disch:=omega) only [AA,← hr]
            refine AE (kx) rfl ?_
            simp (disch:=omega) only [AA]
            intro j hj
            by_cases e:j=k
            ·rw [e]; exact hxx
            ·exact hC j (by omega)
           ·rw [hxx] at kx
            rw [inner k hk hxx]
            simp (disch:=omega) only [AA,← hr]
            refine AE (kx) rfl ?_
            simp (disch:=omega) only [AA]
          ·simp (disch:=omega) only [AA]
           exact outer (.inr hlt) hC
   ·rw [noD (by simp [DX,g2])]
    simp (disch:=omega) only [AA,← hr]
  ·have e:Bh n d=true:=by
    simp only [Bh,q1,q2,decide_true,Bool.true_and,Aj]
    exact hP
   rw [e]
   simp (disch:=omega) only [AA]
 ·have e:Bh n d=false:=by simp [Bh,q2]
  rw [e]
  have hm:decide ((d.length:Int)=max 0 (n-3))=false:=decide_eq_false q2
  simp (disch:=omega) only [AA]
  refine AE (k1) rfl ?_
  simp (disch:=omega) only [AA,hm]
end Go.Cat
