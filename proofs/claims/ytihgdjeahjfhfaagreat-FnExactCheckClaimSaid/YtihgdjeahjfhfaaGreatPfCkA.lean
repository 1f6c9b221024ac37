/-
 Triangulations: any rows.
-/
import Derived.Test.YtihgdjeahjfhfaaGreatPfTurn
set_option linter.unusedSimpArgs false
set_option linter.unusedVariables false
namespace Go.Cat
variable {K:Nat→List D→List D→Prop}
set_option maxRecDepth 100000
def dgX (n:Int) (r:List Int):Bool:=decide (r.length=2)&&dgOK n r
def okX (n:Int) (d:List (List Int)) (i:Nat):Bool:=dgX n (atL d i)&&((decide (i=0) || ltR (atL d ((i:Int)-1)) (atL d i))&&(d.take i).all (fun q=>!crR q (atL d i)))
def triX (n:Int) (d:List (List Int)):Bool:=inR 2 10 n&&(decide ((d.length:Int)=max 0 (n-3))&&decide (∀ i:Nat,i<d.length→okX n d i=true))
theorem dgX_rw {n:Int} {r:List Int} (hn:2≤n∧n≤10) (h:dgX n r=true):rw3 r:=by
 simp only [dgX,dgOK,qba,qde] at h
 obtain ⟨h1,⟨h2,h3⟩,_⟩:=h
 have a:=inR_iff.1 h2
 have b:=inR_iff.1 h3
 exact ⟨h1,by omega,by omega⟩
theorem triX_parts {n:Int} {d:List (List Int)} (h:triX n d=true):(2≤n∧n≤10)∧(d.length:Int)=max 0 (n-3)∧∀ i:Nat,i<d.length→okX n d i=true:=by
 simp only [triX,qba,qde] at h
 exact ⟨inR_iff.1 h.1,h.2.1,h.2.2⟩
theorem triX_rw {n:Int} {d:List (List Int)} (h:triX n d=true):∀ r∈d,rw3 r:=by
 obtain ⟨h1,h2,h3⟩:=triX_parts h
 intro r hr
 obtain ⟨i,hi,rfl⟩:=List.mem_iff_getElem.1 hr
 have:=h3 i hi
 simp only [okX,qba] at this
 have e:atL d i=d[i]:=by simp [atL,hi]
 rw [e] at this
 exact dgX_rw h1 this.1
theorem triX_not {n:Int} {d:List (List Int)} {i:Nat} (hi:i<d.length) (h:okX n d i=false):triX n d=false:=by
 cases e:triX n d with
 | false=>rfl
 | true=>
  have:=(triX_parts e).2.2 i hi
  rw [h] at this; cases this
theorem isd_x [HA K] {n:Int} {r:List Int} (hn:0≤n∧n≤1000) (hl:r.length≤1099511627776):K 605 [.n n,LI r] [.b (dgX n r)]:=by
 by_cases h1:r.length=2
 ·have e0:dgX n r=dgOK n r:=by simp [dgX,h1]
  rw [e0]
  refine body_by (f:=ir_impl_isDiagonal) rfl ?_; simp only [ir_impl_isDiagonal,zn,zs,zq,zi,zg,zp]
  simp (disch:=first|omega|simp only[vl];omega) only [vcd]
  refine call_by (within_ok (K:=K)) rfl ?_
  cases q1:inR 0 (n-1) (atI r 0)
  ·simp (disch:=first|omega|simp only[vl];omega) only [vcd]
   simp [dgOK,q1]
  simp (disch:=first|omega|simp only[vl];omega) only [vcd]
  refine call_by (within_ok (K:=K)) rfl ?_
  cases q2:inR 0 (n-1) (atI r 1)
  ·have e:dgOK n r=false:=by
    simp only [dgOK,Bool.and_eq_false_iff]
    refine .inl (.inr ?_)
    rw [Bool.eq_false_iff]
    intro q
    have a:=inR_iff.1 q1
    have b:=inR_iff.1 q
    have:inR 0 (n-1) (atI r 1)=true:=inR_iff.2 (by omega)
    rw [this] at q2; cases q2
   simp (disch:=first|omega|simp only[vl];omega) only [vcd]
   rw [e]
  have a1:=inR_iff.1 q1
  have a2:=inR_iff.1 q2
  by_cases q3:atI r 1-atI r 0≥2
  ·have q3':inR (atI r 0+2) (n-1) (atI r 1)=true:=inR_iff.2 (by omega)
   by_cases q4:atI r 0=0
   ·by_cases q5:atI r 1=n-1
    ·simp (disch:=first|omega|simp only[vl];omega) only [vcd]
     simp [dgOK,q4,q5]
    ·simp (disch:=first|omega|simp only[vl];omega) only [vcd]
     have q6:decide (atI r 1=n-1)=false:=decide_eq_false q5
     simp only [dgOK,q1,q3',q6,Bool.and_false]
     rfl
   ·simp (disch:=first|omega|simp only[vl];omega) only [vcd]
    simp [dgOK,q1,q3',q4]
  ·have q3':inR (atI r 0+2) (n-1) (atI r 1)=false:=by
    rw [Bool.eq_false_iff]; intro q; have:=inR_iff.1 q; omega
   simp (disch:=first|omega|simp only[vl];omega) only [vcd]
   simp [dgOK,q3']
 ·have e0:dgX n r=false:=by simp [dgX,h1]
  rw [e0]
  refine body_by (f:=ir_impl_isDiagonal) rfl ?_; simp only [ir_impl_isDiagonal,zn,zs,zq,zi,zg,zp]
  simp (disch:=first|omega|simp only[vl];omega) only [vcd]
theorem takeA {d:List (List Int)} {i k:Nat} (hi:i≤d.length) (hk:k<i):atL (d.take i) k=atL d k:=by
 simp [atL,qgd,hk]
theorem allK {d:List (List Int)} {i:Nat} {f:List Int→Bool} (hi:i≤d.length):(d.take i).all f=decide (∀ k:Nat,k<i→f (atL d k)=true):=by
 rw [Bool.eq_iff_iff,qat,qde]
 constructor
 ·intro h k hk
  refine h _ ?_
  rw [List.mem_iff_getElem]
  exact ⟨k,by simp; omega,by simp [atL,show k<d.length by omega]⟩
 ·intro h x hx
  obtain ⟨k,hk,rfl⟩:=List.mem_iff_getElem.1 hx
  have hk':k<i:=by simp at hk; omega
  have:=h k hk'
  simpa [atL,show k<d.length by omega] using this
theorem ist_x [HA K] {n:Int} {d:List (List Int)} (hn:-2000000000000≤n∧n≤2000000000000) (hd:d.length≤1099511627776) (hl:∀ r∈d,r.length≤1099511627776):K 602 [.n n,LL d] [.b (triX n d)]:=by
 refine body_by (f:=ir_impl_IsTriangulation) rfl ?_; simp only [ir_impl_IsTriangulation,zn,zs,zq,zi,zg,zp]
 simp (disch:=first|omega|simp only[vl];omega) only [vcd]
 refine call_by (within_ok (K:=K)) rfl ?_
 cases h1:inR 2 10 n
 ·have e:triX n d=false:=by simp [triX,h1]
  rw [e]
  simp (disch:=first|omega|simp only[vl];omega) only [vcd]
 have hn:=inR_iff.1 h1
 by_cases h2:(d.length:Int)=max 0 (n-3)
 ·have e0:max 0 (n-3)=(d.length:Int):=h2.symm
  simp (disch:=first|omega|simp only[vl];omega) only [vcd,e0]
  refine loop_ix (fun i=>∀ j:Nat,j<i→okX n d j=true) (fun i=>[.n n,LL d,.u,.u,.u,.u,.u,LL d,.n d.length,.n i,.u,.u,.u,.u,.u,.u,.u]) d.length (fun j hj=>by omega) rfl (fun i hi hP=>?_) (fun hP=>?_)
  ·have hxl:(atL d i).length≤1099511627776:=hl _ (by simp [atL,hi])
   simp (disch:=first|omega|simp only[vl];omega) only [vcd]
   refine call_by (isd_x (K:=K) (n:=n) (r:=atL d i) (by omega) hxl) rfl ?_
   cases hp1:dgX n (atL d i)
   ·have e:triX n d=false:=triX_not hi (by simp [okX,hp1])
    rw [e]
    simp (disch:=first|omega|simp only[vl];omega) only [vcd]
   have hx:=dgX_rw hn hp1
   have hxl:=hx.1
   have es:sub d 0 (i:Int)=d.take i:=by simp [sub]
   have el:(d.take i).length=i:=by simp; omega
   have rk:∀ k:Nat,k<i→rw3 (atL d k):=fun k hk=>by
    have:=hP k hk
    simp only [okX,qba] at this
    exact dgX_rw hn this.1
   have ea:∀ k:Nat,k<i→atL (d.take i) k=atL d k:=fun k hk=>takeA (by omega) hk
   have inner:∀ k:Nat,k<i→crR (atL d k) (atL d i)=true→triX n d=false:=fun k hk hc=>triX_not hi (by
    have:(d.take i).all (fun q=>!crR q (atL d i))=false:=by
     rw [allK (by omega),decide_eq_false_iff_not]
     intro q
     have:=q k hk
     rw [hc] at this; cases this
    simp [okX,this])
   have outer:(i=0∨ltR (atL d ((i:Int)-1)) (atL d i)=true)→(∀ k:Nat,k<i→crR (atL d k) (atL d i)=false)→∀ j:Nat,j<i+1→okX n d j=true:=fun ho hc j hj=>by
    by_cases e:j=i
    ·subst e
     have:(d.take j).all (fun q=>!crR q (atL d j))=true:=by
      rw [allK (by omega),qde]
      intro k hk
      rw [hc k hk]; rfl
     rw [okX,hp1,this]
     rcases ho with o | o
     ·simp [o]
     ·simp [o]
    ·exact hP j (by omega)
   by_cases h0:i=0
   ·subst h0
    simp (disch:=first|omega|simp only[vl];omega) only [vcd,es]
    refine loop_ix (fun _=>True) (fun k=>[.n n,LL d,.u,.u,LI (atL d 0),.u,.u,LL d,.n d.length,.n 0,.u,.u,LL (sub d 0 (0:Int)),.n 0,.n k,.u,.u]) 0 trivial rfl (fun k hk _=>by omega) (fun _=>?_)
    simp (disch:=first|omega|simp only[vl];omega) only [vcd]
    exact outer (.inl rfl) (fun k hk=>by omega)
   ·have hy:rw3 (atL d ((i:Int)-1)):=by
     have:=rk (i-1) (by omega)
     rwa [show ((i-1:Nat):Int)=(i:Int)-1 by omega] at this
    have ksc:=scmp_ok (K:=K) (x:=atL d ((i:Int)-1)) (y:=atL d i) hy.1 hx.1
    have hsgn:=cmR2_neg (x:=atL d ((i:Int)-1)) (y:=atL d i)
    cases hlt:ltR (atL d ((i:Int)-1)) (atL d i)
    ·have e:triX n d=false:=triX_not hi (by simp [okX,hlt,h0])
     rw [e]
     rw [hlt,decide_eq_false_iff_not] at hsgn
     have hcm:decide (cmR2 (atL d ((i:Int)-1)) (atL d i)≥0)=true:=decide_eq_true (by omega)
     simp (disch:=first|omega|simp only[vl];omega) only [vcd]
     refine call_by (ksc) rfl ?_
     simp (disch:=first|omega|simp only[vl];omega) only [vcd,hcm]
    rw [hlt,qde] at hsgn
    have hcm:decide (cmR2 (atL d ((i:Int)-1)) (atL d i)≥0)=false:=decide_eq_false (by omega)
    simp (disch:=first|omega|simp only[vl];omega) only [vcd]
    refine call_by (ksc) rfl ?_
    simp (disch:=first|omega|simp only[vl];omega) only [vcd,hcm,LL_toQ,es]
    refine loop_ix (fun k=>∀ j:Nat,j<k→crR (atL d j) (atL d i)=false) (fun k=>[.n n,LL d,.u,.u,LI (atL d i),.u,.u,LL d,.n d.length,.n i,.u,.u,LL (d.take i),.n i,.n k,.u,.u]) i (fun j hj=>by omega) ?_ (fun k hk hQ=>?_) (fun hQ=>?_)
    ·rw [el]; rfl
    ·have c3:=(rk k hk).1
     have c4:=ea k hk
     have nx:crR (atL d k) (atL d i)=false→∀ j:Nat,j<k+1→crR (atL d j) (atL d i)=false:=fun hc j hj=>by
      by_cases e:j=k
      ·rw [e]; exact hc
      ·exact hQ j (by omega)
     have bad:=inner k hk
     rw [← c4] at bad nx c3
     obtain ⟨y,ey⟩:∃ y,atL (d.take i) (k:Int)=y:=⟨_,rfl⟩
     rw [ey] at bad nx c3
     by_cases a1:atI y 0<atI (atL d i) 0
     ·by_cases a2:atI (atL d i) 0<atI y 1
      ·by_cases a3:atI y 1<atI (atL d i) 1
       ·rw [bad (by simp [crR,a1,a2,a3])]
        simp (disch:=first|omega|simp only[vl];omega) only [vcd,ey]
       ·simp (disch:=first|omega|simp only[vl];omega) only [vcd,ey]
        exact nx (by simp [crR,a1,a2,a3]; omega)
      ·simp (disch:=first|omega|simp only[vl];omega) only [vcd,ey]
       exact nx (by simp [crR,a1,a2]; omega)
     ·by_cases b1:atI (atL d i) 0<atI y 0
      ·by_cases b2:atI y 0<atI (atL d i) 1
       ·by_cases b3:atI (atL d i) 1<atI y 1
        ·rw [bad (by simp [crR,b1,b2,b3])]
         simp (disch:=first|omega|simp only[vl];omega) only [vcd,ey]
        ·simp (disch:=first|omega|simp only[vl];omega) only [vcd,ey]
         exact nx (by simp [crR,a1,b1,b2,b3])
       ·simp (disch:=first|omega|simp only[vl];omega) only [vcd,ey]
        exact nx (by simp [crR,a1,b1,b2])
      ·simp (disch:=first|omega|simp only[vl];omega) only [vcd,ey]
       exact nx (by simp [crR,a1,b1])
    ·simp (disch:=first|omega|simp only[vl];omega) only [vcd]
     exact outer (.inr hlt) hQ
  ·have e:triX n d=true:=by
    simp only [triX,h1,h2,decide_true,Bool.true_and,qde]
    exact hP
   rw [e]
   simp (disch:=first|omega|simp only[vl];omega) only [vcd]
 ·have e:triX n d=false:=by simp [triX,h2]
  rw [e]
  have hm:decide ((d.length:Int)=max 0 (n-3))=false:=decide_eq_false h2
  simp (disch:=first|omega|simp only[vl];omega) only [vcd,hm]
theorem trs_x [HA K] {n:Int} {d:List (List Int)} (hn:-2000000000000≤n∧n≤2000000000000) (hd:d.length≤1099511627776) (hl:∀ r∈d,r.length≤1099511627776):K 600 [.n n,LL d] [.b (triX n d)]:=by
 have k1:=l1In_ok (K:=K) (x:=n) (a:=2) (b:=10)
 refine body_by (f:=ir_spec_IsTriangulation) rfl ?_; simp only [ir_spec_IsTriangulation,zn,zs,zq,zi,zg,zp]
 cases q1:inR 2 10 n
 ·have e:triX n d=false:=by simp [triX,q1]
  rw [e]
  rw [q1] at k1
  simp (disch:=first|omega|simp only[vl];omega) only [vcd]
  refine call_by (k1) rfl ?_
  simp (disch:=first|omega|simp only[vl];omega) only [vcd]
 rw [q1] at k1
 have hn:=inR_iff.1 q1
 by_cases q2:(d.length:Int)=max 0 (n-3)
 ·simp (disch:=first|omega|simp only[vl];omega) only [vcd]
  refine call_by (k1) rfl ?_
  simp (disch:=first|omega|simp only[vl];omega) only [vcd]
  refine loop_ix (fun i=>∀ j:Nat,j<i→okX n d j=true) (fun i=>[.n n,LL d,.u,.n i,.u,.u,.u,.u,.u,.u,.u]) d.length (fun j hj=>by omega) rfl (fun i hi hP=>?_) (fun hP=>?_)
  ·obtain ⟨r,hr⟩:∃ r,r=atL d i:=⟨_,rfl⟩
   have hxl:r.length≤1099511627776:=by rw [hr]; exact hl _ (by simp [atL,hi])
   have rk:∀ k:Nat,k<i→rw3 (atL d k):=fun k hk=>by
    have:=hP k hk
    simp only [okX,qba] at this
    exact dgX_rw hn this.1
   have noD:dgX n r=false→triX n d=false:=fun h=>triX_not hi (by rw [hr] at h; simp [okX,h])
   by_cases g2:r.length=2
   ·have kA:=l1In_ok (K:=K) (x:=atI r 0) (a:=0) (b:=n-1)
    have kB:=l1In_ok (K:=K) (x:=atI r 1) (a:=atI r 0+2) (b:=n-1)
    cases p0:inR 0 (n-1) (atI r 0)
    ·rw [p0] at kA
     rw [noD (by simp [dgX,dgOK,p0])]
     simp (disch:=first|omega|simp only[vl];omega) only [vcd,← hr]
     refine call_by (kA) rfl ?_
     simp (disch:=first|omega|simp only[vl];omega) only [vcd,← hr]
    ·rw [p0] at kA
     have b0:=inR_iff.1 p0
     cases p1:inR (atI r 0+2) (n-1) (atI r 1)
     ·rw [p1] at kB
      rw [noD (by simp [dgX,dgOK,p1])]
      simp (disch:=first|omega|simp only[vl];omega) only [vcd,← hr]
      refine call_by (kA) rfl ?_
      simp (disch:=first|omega|simp only[vl];omega) only [vcd,← hr]
      refine call_by (kB) rfl ?_
      simp (disch:=first|omega|simp only[vl];omega) only [vcd,← hr]
     ·rw [p1] at kB
      have b1:=inR_iff.1 p1
      by_cases p2:atI r 0=0∧atI r 1=n-1
      ·rw [noD (by simp [dgX,dgOK,p2.1,p2.2])]
       simp (disch:=first|omega|simp only[vl];omega) only [vcd,← hr]
       refine call_by (kA) rfl ?_
       simp (disch:=first|omega|simp only[vl];omega) only [vcd,← hr]
       refine call_by (kB) rfl ?_
       simp (disch:=first|omega|simp only[vl];omega) only [vcd,← hr,p2.1,p2.2]
      ·have eT:dgX n r=true:=by
        by_cases p3:atI r 0=0
        ·have p4:¬ atI r 1=n-1:=fun q=>p2 ⟨p3,q⟩
         simp [dgX,g2,dgOK,p0,p1,p4]
        ·simp [dgX,g2,dgOK,p0,p1,p3]
       have hx:=dgX_rw hn eT
       have inner:∀ k:Nat,k<i→crR (atL d k) r=true→triX n d=false:=fun k hk hc=>triX_not hi (by
        have:(d.take i).all (fun q=>!crR q r)=false:=by
         rw [allK (by omega),decide_eq_false_iff_not]
         intro q
         have:=q k hk
         rw [hc] at this; cases this
        simp [okX,← hr,this])
       have outer:(i=0∨ltR (atL d ((i:Int)-1)) r=true)→(∀ k:Nat,k<i→crR (atL d k) r=false)→∀ j:Nat,j<i+1→okX n d j=true:=fun ho hc j hj=>by
        by_cases e:j=i
        ·subst e
         have:(d.take j).all (fun q=>!crR q r)=true:=by
          rw [allK (by omega),qde]
          intro k hk
          rw [hc k hk]; rfl
         rw [okX,← hr,eT,this]
         rcases ho with o | o
         ·simp [o]
         ·simp [o]
        ·exact hP j (by omega)
       have loop:(i=0∨ltR (atL d ((i:Int)-1)) r=true)→∀ k:Nat,k<i→crR (atL d k) r=crR (atL d k) r:=fun _ _ _=>rfl
       by_cases p3:atI r 0=0
       ·have p4:¬ atI r 1=n-1:=fun q=>p2 ⟨p3,q⟩
        by_cases i0:i=0
        ·simp (disch:=first|omega|simp only[vl];omega) only [vcd,← hr]
         refine call_by (kA) rfl ?_
         simp (disch:=first|omega|simp only[vl];omega) only [vcd,← hr]
         refine call_by (kB) rfl ?_
         simp (disch:=first|omega|simp only[vl];omega) only [vcd,← hr,p3]
         refine loop_ix (fun k=>∀ j:Nat,j<k→crR (atL d j) r=false) (fun k=>[.n n,LL d,.u,.n i,.n k,.u,.u,.u,.u,.u,.u]) i (fun j hj=>by omega) (by simp) (fun k hk hC=>by omega) (fun hC=>?_)
         simp (disch:=first|omega|simp only[vl];omega) only [vcd]
         exact outer (.inl i0) hC
        ·have kC:=bef_s (K:=K) (x:=atL d ((i-1:Nat):Int)) (y:=r) (rk (i-1) (by omega)).1 g2
         have e1:((i-1:Nat):Int)=(i:Int)-1:=by omega
         rw [e1] at kC
         cases hlt:ltR (atL d ((i:Int)-1)) r
         ·rw [hlt] at kC
          rw [triX_not hi (by simp [okX,← hr,hlt,i0])]
          simp (disch:=first|omega|simp only[vl];omega) only [vcd,← hr]
          refine call_by (kA) rfl ?_
          simp (disch:=first|omega|simp only[vl];omega) only [vcd,← hr]
          refine call_by (kB) rfl ?_
          simp (disch:=first|omega|simp only[vl];omega) only [vcd,← hr,p3]
          refine call_by (kC) rfl ?_
          simp (disch:=first|omega|simp only[vl];omega) only [vcd]
         ·rw [hlt] at kC
          simp (disch:=first|omega|simp only[vl];omega) only [vcd,← hr]
          refine call_by (kA) rfl ?_
          simp (disch:=first|omega|simp only[vl];omega) only [vcd,← hr]
          refine call_by (kB) rfl ?_
          simp (disch:=first|omega|simp only[vl];omega) only [vcd,← hr,p3]
          refine call_by (kC) rfl ?_
          simp (disch:=first|omega|simp only[vl];omega) only [vcd]
          refine loop_ix (fun k=>∀ j:Nat,j<k→crR (atL d j) r=false) (fun k=>[.n n,LL d,.u,.n i,.n k,.u,.u,.u,.u,.u,.u]) i (fun j hj=>by omega) (by simp) (fun k hk hC=>?_) (fun hC=>?_)
          ·have kx:=crs_s (K:=K) (a:=atL d k) (b:=r) (rk k hk) hx
           cases hxx:crR (atL d k) r
           ·rw [hxx] at kx
            simp (disch:=first|omega|simp only[vl];omega) only [vcd,← hr]
            refine call_by (kx) rfl ?_
            simp (disch:=first|omega|simp only[vl];omega) only [vcd]
            intro j hj
            by_cases e:j=k
            ·rw [e]; exact hxx
            ·exact hC j (by omega)
           ·rw [hxx] at kx
            rw [inner k hk hxx]
            simp (disch:=first|omega|simp only[vl];omega) only [vcd,← hr]
            refine call_by (kx) rfl ?_
            simp (disch:=first|omega|simp only[vl];omega) only [vcd]
          ·simp (disch:=first|omega|simp only[vl];omega) only [vcd]
           exact outer (.inr hlt) hC
       ·by_cases i0:i=0
        ·simp (disch:=first|omega|simp only[vl];omega) only [vcd,← hr]
         refine call_by (kA) rfl ?_
         simp (disch:=first|omega|simp only[vl];omega) only [vcd,← hr]
         refine call_by (kB) rfl ?_
         simp (disch:=first|omega|simp only[vl];omega) only [vcd,← hr]
         refine loop_ix (fun k=>∀ j:Nat,j<k→crR (atL d j) r=false) (fun k=>[.n n,LL d,.u,.n i,.n k,.u,.u,.u,.u,.u,.u]) i (fun j hj=>by omega) (by simp) (fun k hk hC=>by omega) (fun hC=>?_)
         simp (disch:=first|omega|simp only[vl];omega) only [vcd]
         exact outer (.inl i0) hC
        ·have kC:=bef_s (K:=K) (x:=atL d ((i-1:Nat):Int)) (y:=r) (rk (i-1) (by omega)).1 g2
         have e1:((i-1:Nat):Int)=(i:Int)-1:=by omega
         rw [e1] at kC
         cases hlt:ltR (atL d ((i:Int)-1)) r
         ·rw [hlt] at kC
          rw [triX_not hi (by simp [okX,← hr,hlt,i0])]
          simp (disch:=first|omega|simp only[vl];omega) only [vcd,← hr]
          refine call_by (kA) rfl ?_
          simp (disch:=first|omega|simp only[vl];omega) only [vcd,← hr]
          refine call_by (kB) rfl ?_
          simp (disch:=first|omega|simp only[vl];omega) only [vcd,← hr]
          refine call_by (kC) rfl ?_
          simp (disch:=first|omega|simp only[vl];omega) only [vcd]
         ·rw [hlt] at kC
          simp (disch:=first|omega|simp only[vl];omega) only [vcd,← hr]
          refine call_by (kA) rfl ?_
          simp (disch:=first|omega|simp only[vl];omega) only [vcd,← hr]
          refine call_by (kB) rfl ?_
          simp (disch:=first|omega|simp only[vl];omega) only [vcd,← hr]
          refine call_by (kC) rfl ?_
          simp (disch:=first|omega|simp only[vl];omega) only [vcd]
          refine loop_ix (fun k=>∀ j:Nat,j<k→crR (atL d j) r=false) (fun k=>[.n n,LL d,.u,.n i,.n k,.u,.u,.u,.u,.u,.u]) i (fun j hj=>by omega) (by simp) (fun k hk hC=>?_) (fun hC=>?_)
          ·have kx:=crs_s (K:=K) (a:=atL d k) (b:=r) (rk k hk) hx
           cases hxx:crR (atL d k) r
           ·rw [hxx] at kx
            simp (disch:=first|omega|simp only[vl];omega) only [vcd,← hr]
            refine call_by (kx) rfl ?_
            simp (disch:=first|omega|simp only[vl];omega) only [vcd]
            intro j hj
            by_cases e:j=k
            ·rw [e]; exact hxx
            ·exact hC j (by omega)
           ·rw [hxx] at kx
            rw [inner k hk hxx]
            simp (disch:=first|omega|simp only[vl];omega) only [vcd,← hr]
            refine call_by (kx) rfl ?_
            simp (disch:=first|omega|simp only[vl];omega) only [vcd]
          ·simp (disch:=first|omega|simp only[vl];omega) only [vcd]
           exact outer (.inr hlt) hC
   ·rw [noD (by simp [dgX,g2])]
    simp (disch:=first|omega|simp only[vl];omega) only [vcd,← hr]
  ·have e:triX n d=true:=by
    simp only [triX,q1,q2,decide_true,Bool.true_and,qde]
    exact hP
   rw [e]
   simp (disch:=first|omega|simp only[vl];omega) only [vcd]
 ·have e:triX n d=false:=by simp [triX,q2]
  rw [e]
  have hm:decide ((d.length:Int)=max 0 (n-3))=false:=decide_eq_false q2
  simp (disch:=first|omega|simp only[vl];omega) only [vcd]
  refine call_by (k1) rfl ?_
  simp (disch:=first|omega|simp only[vl];omega) only [vcd,hm]
end Go.Cat
