/-
 Triangulations read back: BinaryOfTriangles and l32Diagonals of the reference, for any rows of two numbers and any text.
-/
import Derived.Test.YtdaefhflccndlaaGreatPfRdA
import Derived.Test.YtdaefhflccndlaaGreatPfPI
import Derived.Test.YtdaefhflccndlaaGreatIrHas
set_option linter.unusedSimpArgs false
set_option linter.unusedVariables false
namespace Go.Cat
variable {K:Nat→List D→List D→Prop}
def rw3 (x:List Int):Prop:=x.length=2∧(-1000≤atI x 0∧atI x 0≤1000)∧(-1000≤atI x 1∧atI x 1≤1000)
def crR (a b:List Int):Bool:=(decide (atI a 0<atI b 0)&&(decide (atI b 0<atI a 1)&&decide (atI a 1<atI b 1))) || (decide (atI b 0<atI a 0)&&(decide (atI a 0<atI b 1)&&decide (atI b 1<atI a 1)))
theorem crs_s [HA K] {a b:List Int} (ha:rw3 a) (hb:rw3 b):K 603 [LI a,LI b] [.b (crR a b)]:=by
 obtain ⟨a1,_,_⟩:=ha
 obtain ⟨b1,_,_⟩:=hb
 refine body_by (f:=ir_spec_l7Crosses) rfl ?_; simp only [ir_spec_l7Crosses,zn,zs,zq,zi,zg,zp]
 simp (disch:=omega) only [vcd]
 by_cases h1:atI a 0<atI b 0
 ·by_cases h2:atI b 0<atI a 1
  ·by_cases h3:atI a 1<atI b 1
   ·simp (disch:=omega) only [vcd]
    simp [crR,h1,h2,h3]
   ·simp (disch:=omega) only [vcd]
    simp [crR,h1,h2,h3]
    omega
  ·simp (disch:=omega) only [vcd]
   simp [crR,h1,h2]
   omega
 ·by_cases h4:atI b 0<atI a 0
  ·by_cases h5:atI a 0<atI b 1
   ·simp (disch:=omega) only [vcd]
    simp [crR,h1,h4,h5]
   ·simp (disch:=omega) only [vcd]
    simp [crR,h1,h4,h5]
  ·simp (disch:=omega) only [vcd]
   simp [crR,h1,h4]
def dgOK (n:Int) (r:List Int):Bool:=inR 0 (n-1) (atI r 0)&&inR (atI r 0+2) (n-1) (atI r 1)&&!(decide (atI r 0=0)&&decide (atI r 1=n-1))
def trA (n:Int):List (List Int)→List (List Int)→Bool
 | _,[]=>true
 | done,r::t=>dgOK n r&&(decide (done.length=0) || ltR (atL done ((done.length:Int)-1)) r)&&done.all (fun q=>!crR q r)&&trA n (done++[r]) t
def triF (n:Int) (d:List (List Int)):Bool:=inR 2 10 n&&decide ((d.length:Int)=max 0 (n-3))&&trA n [] d
theorem takeLg {d:List (List Int)} {i:Nat} (h:i<d.length):d.take (i+1)=d.take i++[atL d i]:=by
 rw [qta h]; simp [atL,h]
theorem dropLg {d:List (List Int)} {i:Nat} (h:i<d.length):d.drop i=atL d i::d.drop (i+1):=by
 rw [List.drop_eq_getElem_cons h]; simp [atL,h]
theorem trA_step {n:Int} {d:List (List Int)} {i:Nat} (h:i<d.length):trA n (d.take i) (d.drop i)=(dgOK n (atL d i)&&(decide (i=0) || ltR (atL d ((i:Int)-1)) (atL d i))&&(d.take i).all (fun q=>!crR q (atL d i))&&trA n (d.take (i+1)) (d.drop (i+1))):=by
 have hl:(d.take i).length=i:=by simp; omega
 rw [dropLg h,trA,← takeLg h,hl]
 by_cases h0:i=0
 ·simp [h0]
 ·have e:atL (d.take i) ((i:Int)-1)=atL d ((i:Int)-1):=by
   have e1:((i:Int)-1).toNat=i-1:=by omega
   simp only [atL,e1,qgd,List.getElem?_take]
   rw [if_pos (by omega)]
  rw [e]
theorem tri_any_s [HA K] {n:Int} {d:List (List Int)} (hn:-1000000000≤n∧n≤1000000000) (hd:d.length≤1000) (hr:∀ r∈d,rw3 r):K 600 [.n n,LL d] [.b (triF n d)]:=by
 have k1:=l1In_ok (K:=K) (x:=n) (a:=2) (b:=10)
 have hrow:∀ i:Nat,i<d.length→rw3 (atL d i):=fun i hi=>hr _ (atL_in hi)
 refine body_by (f:=ir_spec_IsTriangulation) rfl ?_; simp only [ir_spec_IsTriangulation,zn,zs,zq,zi,zg,zp]
 cases q1:inR 2 10 n
 ·rw [q1] at k1
  simp (disch:=omega) only [vcd]
  refine call_by (k1) rfl ?_
  simp (disch:=omega) only [vcd]
  simp [triF,q1]
 ·rw [q1] at k1
  have qb:=inR_iff.1 q1
  by_cases q2:(d.length:Int)=max 0 (n-3)
  ·have e0:triF n d=trA n [] d:=by simp [triF,q1,q2]
   rw [e0]
   simp (disch:=omega) only [vcd]
   refine call_by (k1) rfl ?_
   simp (disch:=omega) only [vcd]
   refine loop_ix (fun i=>trA n [] d=trA n (d.take i) (d.drop i)) (fun i=>[.n n,LL d,.u,.n i,.u,.u,.u,.u,.u,.u,.u]) d.length (by simp) rfl (fun i hi hA=>?_) (fun hA=>?_)
   ·rw [trA_step hi] at hA
    have hri:=hrow i hi
    obtain ⟨r,hr⟩:∃ r,r=atL d i:=⟨_,rfl⟩
    rw [← hr] at hA hri
    obtain ⟨g2,g0,g1⟩:=hri
    have kA:=l1In_ok (K:=K) (x:=atI r 0) (a:=0) (b:=n-1)
    have kB:=l1In_ok (K:=K) (x:=atI r 1) (a:=atI r 0+2) (b:=n-1)
    cases p0:inR 0 (n-1) (atI r 0)
    ·rw [p0] at kA
     have eF:dgOK n r=false:=by simp [dgOK,p0]
     rw [eF] at hA
     simp (disch:=omega) only [vcd,← hr]
     refine call_by (kA) rfl ?_
     simp (disch:=omega) only [vcd,← hr]
     rw [hA]; simp
    ·rw [p0] at kA
     cases p1:inR (atI r 0+2) (n-1) (atI r 1)
     ·rw [p1] at kB
      have eF:dgOK n r=false:=by simp [dgOK,p1]
      rw [eF] at hA
      simp (disch:=omega) only [vcd,← hr]
      refine call_by (kA) rfl ?_
      simp (disch:=omega) only [vcd,← hr]
      refine call_by (kB) rfl ?_
      simp (disch:=omega) only [vcd,← hr]
      rw [hA]; simp
     ·rw [p1] at kB
      by_cases p2:atI r 0=0∧atI r 1=n-1
      ·have eF:dgOK n r=false:=by simp [dgOK,p2.1,p2.2]
       rw [eF] at hA
       simp (disch:=omega) only [vcd,← hr]
       refine call_by (kA) rfl ?_
       simp (disch:=omega) only [vcd,← hr]
       refine call_by (kB) rfl ?_
       simp (disch:=omega) only [vcd,← hr,p2.1,p2.2]
       rw [hA]; simp
      ·have eT:dgOK n r=true:=by
        by_cases p3:atI r 0=0
        ·have p4:¬ atI r 1=n-1:=fun q=>p2 ⟨p3,q⟩
         simp [dgOK,p0,p1,p4]
        ·simp [dgOK,p0,p1,p3]
       rw [eT,Bool.true_and] at hA
       by_cases p3:atI r 0=0
       ·have p4:¬ atI r 1=n-1:=fun q=>p2 ⟨p3,q⟩
        by_cases i0:i=0
        ·have hA:trA n [] d=((d.take i).all (fun q=>!crR q r)&&trA n (d.take (i+1)) (d.drop (i+1))):=by rw [hA]; simp [i0]
         simp (disch:=omega) only [vcd,← hr]
         refine call_by (kA) rfl ?_
         simp (disch:=omega) only [vcd,← hr]
         refine call_by (kB) rfl ?_
         simp (disch:=omega) only [vcd,← hr,p3]
         refine loop_ix (fun k=>trA n [] d=((((d.take i).drop k).all fun q=>!crR q r)&&trA n (d.take (i+1)) (d.drop (i+1)))) (fun k=>[.n n,LL d,.u,.n i,.n k,.u,.u,.u,.u,.u,.u]) i (by simpa using hA) (by simp) (fun k hk hC=>?_) (fun hC=>?_)
         ·have hkd:k<(d.take i).length:=by simp; omega
          have ek:atL (d.take i) k=atL d k:=by
           simp only [atL,qtn,qgd,List.getElem?_take]
           rw [if_pos hk]
          rw [dropLg hkd,ek,List.all_cons] at hC
          have kx:=crs_s (K:=K) (a:=atL d k) (b:=r) (hrow k (by omega)) ⟨g2,g0,g1⟩
          cases hx:crR (atL d k) r
          ·rw [hx] at kx hC
           simp (disch:=omega) only [vcd,← hr]
           refine call_by (kx) rfl ?_
           simp (disch:=omega) only [vcd]
           simpa using hC
          ·rw [hx] at kx hC
           simp (disch:=omega) only [vcd,← hr]
           refine call_by (kx) rfl ?_
           simp (disch:=omega) only [vcd]
           rw [hC]; simp
         ·have e:(d.take i).drop i=[]:=List.drop_eq_nil_of_le (by simp; omega)
          rw [e] at hC
          simp (disch:=omega) only [vcd]
          simpa using hC
        ·have kC:=bef_s (K:=K) (x:=atL d ((i-1:Nat):Int)) (y:=r) (hrow (i-1) (by omega)).1 g2
         have e1:((i-1:Nat):Int)=(i:Int)-1:=by omega
         rw [e1] at kC
         have hA:trA n [] d=(ltR (atL d ((i:Int)-1)) r&&((d.take i).all (fun q=>!crR q r)&&trA n (d.take (i+1)) (d.drop (i+1)))):=by rw [hA]; simp [i0,Bool.and_assoc]
         cases hlt:ltR (atL d ((i:Int)-1)) r
         ·rw [hlt] at kC hA
          simp (disch:=omega) only [vcd,← hr]
          refine call_by (kA) rfl ?_
          simp (disch:=omega) only [vcd,← hr]
          refine call_by (kB) rfl ?_
          simp (disch:=omega) only [vcd,← hr,p3]
          refine call_by (kC) rfl ?_
          simp (disch:=omega) only [vcd]
          rw [hA]; simp
         ·rw [hlt,Bool.true_and] at hA
          rw [hlt] at kC
          simp (disch:=omega) only [vcd,← hr]
          refine call_by (kA) rfl ?_
          simp (disch:=omega) only [vcd,← hr]
          refine call_by (kB) rfl ?_
          simp (disch:=omega) only [vcd,← hr,p3]
          refine call_by (kC) rfl ?_
          simp (disch:=omega) only [vcd]
          refine loop_ix (fun k=>trA n [] d=((((d.take i).drop k).all fun q=>!crR q r)&&trA n (d.take (i+1)) (d.drop (i+1)))) (fun k=>[.n n,LL d,.u,.n i,.n k,.u,.u,.u,.u,.u,.u]) i (by simpa using hA) (by simp) (fun k hk hC=>?_) (fun hC=>?_)
          ·have hkd:k<(d.take i).length:=by simp; omega
           have ek:atL (d.take i) k=atL d k:=by
            simp only [atL,qtn,qgd,List.getElem?_take]
            rw [if_pos hk]
           rw [dropLg hkd,ek,List.all_cons] at hC
           have kx:=crs_s (K:=K) (a:=atL d k) (b:=r) (hrow k (by omega)) ⟨g2,g0,g1⟩
           cases hx:crR (atL d k) r
           ·rw [hx] at kx hC
            simp (disch:=omega) only [vcd,← hr]
            refine call_by (kx) rfl ?_
            simp (disch:=omega) only [vcd]
            simpa using hC
           ·rw [hx] at kx hC
            simp (disch:=omega) only [vcd,← hr]
            refine call_by (kx) rfl ?_
            simp (disch:=omega) only [vcd]
            rw [hC]; simp
          ·have e:(d.take i).drop i=[]:=List.drop_eq_nil_of_le (by simp; omega)
           rw [e] at hC
           simp (disch:=omega) only [vcd]
           simpa using hC
       ·by_cases i0:i=0
        ·have hA:trA n [] d=((d.take i).all (fun q=>!crR q r)&&trA n (d.take (i+1)) (d.drop (i+1))):=by rw [hA]; simp [i0]
         simp (disch:=omega) only [vcd,← hr]
         refine call_by (kA) rfl ?_
         simp (disch:=omega) only [vcd,← hr]
         refine call_by (kB) rfl ?_
         simp (disch:=omega) only [vcd,← hr]
         refine loop_ix (fun k=>trA n [] d=((((d.take i).drop k).all fun q=>!crR q r)&&trA n (d.take (i+1)) (d.drop (i+1)))) (fun k=>[.n n,LL d,.u,.n i,.n k,.u,.u,.u,.u,.u,.u]) i (by simpa using hA) (by simp) (fun k hk hC=>?_) (fun hC=>?_)
         ·have hkd:k<(d.take i).length:=by simp; omega
          have ek:atL (d.take i) k=atL d k:=by
           simp only [atL,qtn,qgd,List.getElem?_take]
           rw [if_pos hk]
          rw [dropLg hkd,ek,List.all_cons] at hC
          have kx:=crs_s (K:=K) (a:=atL d k) (b:=r) (hrow k (by omega)) ⟨g2,g0,g1⟩
          cases hx:crR (atL d k) r
          ·rw [hx] at kx hC
           simp (disch:=omega) only [vcd,← hr]
           refine call_by (kx) rfl ?_
           simp (disch:=omega) only [vcd]
           simpa using hC
          ·rw [hx] at kx hC
           simp (disch:=omega) only [vcd,← hr]
           refine call_by (kx) rfl ?_
           simp (disch:=omega) only [vcd]
           rw [hC]; simp
         ·have e:(d.take i).drop i=[]:=List.drop_eq_nil_of_le (by simp; omega)
          rw [e] at hC
          simp (disch:=omega) only [vcd]
          simpa using hC
        ·have kC:=bef_s (K:=K) (x:=atL d ((i-1:Nat):Int)) (y:=r) (hrow (i-1) (by omega)).1 g2
         have e1:((i-1:Nat):Int)=(i:Int)-1:=by omega
         rw [e1] at kC
         have hA:trA n [] d=(ltR (atL d ((i:Int)-1)) r&&((d.take i).all (fun q=>!crR q r)&&trA n (d.take (i+1)) (d.drop (i+1)))):=by rw [hA]; simp [i0,Bool.and_assoc]
         cases hlt:ltR (atL d ((i:Int)-1)) r
         ·rw [hlt] at kC hA
          simp (disch:=omega) only [vcd,← hr]
          refine call_by (kA) rfl ?_
          simp (disch:=omega) only [vcd,← hr]
          refine call_by (kB) rfl ?_
          simp (disch:=omega) only [vcd,← hr]
          refine call_by (kC) rfl ?_
          simp (disch:=omega) only [vcd]
          rw [hA]; simp
         ·rw [hlt,Bool.true_and] at hA
          rw [hlt] at kC
          simp (disch:=omega) only [vcd,← hr]
          refine call_by (kA) rfl ?_
          simp (disch:=omega) only [vcd,← hr]
          refine call_by (kB) rfl ?_
          simp (disch:=omega) only [vcd,← hr]
          refine call_by (kC) rfl ?_
          simp (disch:=omega) only [vcd]
          refine loop_ix (fun k=>trA n [] d=((((d.take i).drop k).all fun q=>!crR q r)&&trA n (d.take (i+1)) (d.drop (i+1)))) (fun k=>[.n n,LL d,.u,.n i,.n k,.u,.u,.u,.u,.u,.u]) i (by simpa using hA) (by simp) (fun k hk hC=>?_) (fun hC=>?_)
          ·have hkd:k<(d.take i).length:=by simp; omega
           have ek:atL (d.take i) k=atL d k:=by
            simp only [atL,qtn,qgd,List.getElem?_take]
            rw [if_pos hk]
           rw [dropLg hkd,ek,List.all_cons] at hC
           have kx:=crs_s (K:=K) (a:=atL d k) (b:=r) (hrow k (by omega)) ⟨g2,g0,g1⟩
           cases hx:crR (atL d k) r
           ·rw [hx] at kx hC
            simp (disch:=omega) only [vcd,← hr]
            refine call_by (kx) rfl ?_
            simp (disch:=omega) only [vcd]
            simpa using hC
           ·rw [hx] at kx hC
            simp (disch:=omega) only [vcd,← hr]
            refine call_by (kx) rfl ?_
            simp (disch:=omega) only [vcd]
            rw [hC]; simp
          ·have e:(d.take i).drop i=[]:=List.drop_eq_nil_of_le (by simp; omega)
           rw [e] at hC
           simp (disch:=omega) only [vcd]
           simpa using hC
   ·simp (disch:=omega) only [vcd]
    rw [hA]
    simp [trA]
  ·simp (disch:=omega) only [vcd]
   refine call_by (k1) rfl ?_
   simp (disch:=omega) only [vcd]
   simp [triF,q1,q2]
def sdF (n:Int) (d:List (List Int)) (a b:Int):Bool:=(decide (b=a+1) || (decide (a=0)&&decide (b=n-1))) || d.any (fun r=>decide (atI r 0=a)&&decide (atI r 1=b))
theorem sd_s [HA K] {n a b:Int} {d:List (List Int)} (hn:-1000≤n∧n≤1000) (ha:-1000≤a∧a≤1000) (hb:-1000≤b∧b≤1000) (hd:d.length≤1000) (hr:∀ r∈d,rw3 r):K 604 [.n n,LL d,.n a,.n b] [.b (sdF n d a b)]:=by
 have hrow:∀ i:Nat,i<d.length→rw3 (atL d i):=fun i hi=>hr _ (atL_in hi)
 refine body_by (f:=ir_spec_l7Side) rfl ?_; simp only [ir_spec_l7Side,zn,zs,zq,zi,zg,zp]
 by_cases h1:b=a+1
 ·simp (disch:=omega) only [vcd,← h1]
  simp [sdF,h1]
 ·by_cases h2:a=0∧b=n-1
  ·simp (disch:=omega) only [vcd,h2.1,h2.2]
   simp [sdF,h2.1,h2.2]
  ·have e0:sdF n d a b=d.any (fun r=>decide (atI r 0=a)&&decide (atI r 1=b)):=by
    by_cases h3:a=0
    ·have h4:¬ b=n-1:=fun q=>h2 ⟨h3,q⟩
     simp [sdF,h1,h4]
    ·simp [sdF,h1,h3]
   rw [e0]
   by_cases h3:a=0
   ·have h4:¬ b=n-1:=fun q=>h2 ⟨h3,q⟩
    simp (disch:=omega) only [vcd]
    refine loop_ix (fun i=>d.any (fun r=>decide (atI r 0=a)&&decide (atI r 1=b))=(d.drop i).any (fun r=>decide (atI r 0=a)&&decide (atI r 1=b))) (fun i=>[.u,LL d,.n a,.n b,.u,.n i,.u,.u,.u]) d.length (by simp) (by simp) (fun i hi hP=>?_) (fun hP=>?_)
    ·have hri:=hrow i hi
     obtain ⟨r,hr1⟩:∃ r,r=atL d i:=⟨_,rfl⟩
     rw [dropLg hi,List.any_cons] at hP
     rw [← hr1] at hP hri
     obtain ⟨g2,g0,g1⟩:=hri
     by_cases c0:atI r 0=a
     ·by_cases c1:atI r 1=b
      ·simp (disch:=omega) only [vcd,← hr1,c0,c1]
       rw [hP]; simp [c0,c1]
      ·simp (disch:=omega) only [vcd,← hr1,c0]
       rw [hP]; simp [c1]
     ·simp (disch:=omega) only [vcd,← hr1]
      rw [hP]; simp [c0]
    ·rw [List.drop_length] at hP
     simp (disch:=omega) only [vcd]
     rw [hP]; simp
   ·simp (disch:=omega) only [vcd]
    refine loop_ix (fun i=>d.any (fun r=>decide (atI r 0=a)&&decide (atI r 1=b))=(d.drop i).any (fun r=>decide (atI r 0=a)&&decide (atI r 1=b))) (fun i=>[.u,LL d,.n a,.n b,.u,.n i,.u,.u,.u]) d.length (by simp) (by simp) (fun i hi hP=>?_) (fun hP=>?_)
    ·have hri:=hrow i hi
     obtain ⟨r,hr1⟩:∃ r,r=atL d i:=⟨_,rfl⟩
     rw [dropLg hi,List.any_cons] at hP
     rw [← hr1] at hP hri
     obtain ⟨g2,g0,g1⟩:=hri
     by_cases c0:atI r 0=a
     ·by_cases c1:atI r 1=b
      ·simp (disch:=omega) only [vcd,← hr1,c0,c1]
       rw [hP]; simp [c0,c1]
      ·simp (disch:=omega) only [vcd,← hr1,c0]
       rw [hP]; simp [c1]
     ·simp (disch:=omega) only [vcd,← hr1]
      rw [hP]; simp [c0]
    ·rw [List.drop_length] at hP
     simp (disch:=omega) only [vcd]
     rw [hP]; simp
def ltM (n:Int) (d:List (List Int)) (a b:Int):Nat→Int→Option Int
 | 0,_=>none
 | k+1,m=>if (sdF n d a m&&sdF n d m b)=true then some m else ltM n d a b k (m+1)
def ltF (n:Int) (d:List (List Int)):Nat→Int→Int→BT
 | 0,_,_=>.lf
 | f+1,a,b=>if b=a+1 then .lf else
  match ltM n d a b (b-a-1).toNat (a+1) with
  | some m=>.nd (ltF n d f a m) (ltF n d f m b)
  | none=>.lf
theorem ltM_rg {n:Int} {d:List (List Int)} {a b:Int}:∀ {k:Nat} {m x:Int},ltM n d a b k m=some x→m≤x∧x<m+k
 | 0,m,x,h=>by simp [ltM] at h
 | k+1,m,x,h=>by
  rw [ltM] at h
  split at h
  ·injection h with h; omega
  ·have:=ltM_rg h; omega
theorem ltF_n {n:Int} {d:List (List Int)}:∀ {f:Nat} {a b:Int},a<b→((ltF n d f a b).n:Int)≤b-a-1
 | 0,a,b,h=>by simp only [ltF,BT.n]; omega
 | f+1,a,b,h=>by
  rw [ltF]
  split
  ·simp only [BT.n]; omega
  ·split
   ·rename_i m hm
    have:=ltM_rg hm
    have h1:=ltF_n (n:=n) (d:=d) (f:=f) (a:=a) (b:=m) (by omega)
    have h2:=ltF_n (n:=n) (d:=d) (f:=f) (a:=m) (b:=b) (by omega)
    simp only [BT.n]; omega
   ·simp only [BT.n]; omega
theorem lt_s [HA K] {n:Int} {d:List (List Int)} (hn:-1000≤n∧n≤1000) (hd:d.length≤1000) (hr:∀ r∈d,rw3 r):∀ (f:Nat) (a b:Int),0≤a→a<b→b≤100→b-a≤f→K 601 [.n n,LL d,.n a,.n b] [.s (ltF n d f a b).t]
 | 0,a,b,h0,h1,h2,h3=>by omega
 | f+1,a,b,h0,h1,h2,h3=>by
  refine body_by (f:=ir_spec_l7Tree) rfl ?_; simp only [ir_spec_l7Tree,zn,zs,zq,zi,zg,zp]
  by_cases hab:b=a+1
  ·have e:ltF n d (f+1) a b=.lf:=by rw [ltF,if_pos hab]
   rw [e]
   simp (disch:=first|omega|simp only[vl];omega) only [vcd,← hab]
   rfl
  ·obtain ⟨k,hk⟩:∃ k,k=(b-a-1).toNat:=⟨_,rfl⟩
   have e:ltF n d (f+1) a b=match ltM n d a b k (a+1) with
    | some m=>.nd (ltF n d f a m) (ltF n d f m b)
    | none=>.lf:=by rw [ltF,if_neg hab,hk]
   rw [e]
   simp (disch:=first|omega|simp only[vl];omega) only [vcd]
   refine loop_ix (fun i=>ltM n d a b k (a+1)=ltM n d a b (k-i) (a+1+i)) (fun i=>[.n n,LL d,.n a,.n b,.u,.n (a+1+i),.u,.u,.u]) k (by simp) (by simp) (fun i hi hP=>?_) (fun hP=>?_)
   ·obtain ⟨m,hm⟩:∃ m,m=a+1+(i:Int):=⟨_,rfl⟩
    obtain ⟨j,hj⟩:∃ j,k-i=j+1:=⟨k-i-1,by omega⟩
    have ej:k-(i+1)=j:=by omega
    have em:a+1+((i:Int)+1)=m+1:=by omega
    rw [hj,← hm,ltM] at hP
    rw [← hm,ej]
    have s1:=sd_s (K:=K) (n:=n) (a:=a) (b:=m) (d:=d) hn (by omega) (by omega) hd hr
    have s2:=sd_s (K:=K) (n:=n) (a:=m) (b:=b) (d:=d) hn (by omega) (by omega) hd hr
    cases q1:sdF n d a m
    ·rw [q1] at s1 hP
     simp (disch:=first|omega|simp only[vl];omega) only [vcd]
     refine call_by (s1) rfl ?_
     simp (disch:=first|omega|simp only[vl];omega) only [vcd]
     rw [em]
     exact ⟨by simpa using hP,rfl⟩
    ·rw [q1] at s1 hP
     cases q2:sdF n d m b
     ·rw [q2] at s2 hP
      simp (disch:=first|omega|simp only[vl];omega) only [vcd]
      refine call_by (s1) rfl ?_
      simp (disch:=first|omega|simp only[vl];omega) only [vcd]
      refine call_by (s2) rfl ?_
      simp (disch:=first|omega|simp only[vl];omega) only [vcd]
      rw [em]
      exact ⟨by simpa using hP,rfl⟩
     ·rw [q2] at s2 hP
      have hP:ltM n d a b k (a+1)=some m:=by simpa using hP
      have k1:=lt_s hn hd hr f a m (by omega) (by omega) (by omega) (by omega)
      have k2:=lt_s hn hd hr f m b (by omega) (by omega) (by omega) (by omega)
      have t1:=BT.tl (ltF n d f a m)
      have t2:=BT.tl (ltF n d f m b)
      have n1:=ltF_n (n:=n) (d:=d) (f:=f) (a:=a) (b:=m) (by omega)
      have n2:=ltF_n (n:=n) (d:=d) (f:=f) (a:=m) (b:=b) (by omega)
      rw [hP]
      simp only [BT.t]
      simp (disch:=first|omega|simp only[vl];omega) only [vcd]
      refine call_by (s1) rfl ?_
      simp (disch:=first|omega|simp only[vl];omega) only [vcd]
      refine call_by (s2) rfl ?_
      simp (disch:=first|omega|simp only[vl];omega) only [vcd]
      refine call_by (k1) rfl ?_
      simp (disch:=first|omega|simp only[vl];omega) only [vcd]
      refine call_by (k2) rfl ?_
      simp (disch:=first|omega|simp only[vl];omega) only [vcd]
      simp
   ·have e0:k-k=0:=by omega
    rw [e0,ltM] at hP
    rw [hP]
    simp (disch:=first|omega|simp only[vl];omega) only [vcd]
    rfl
def btT (n:Int) (d:List (List Int)):BT:=ltF n d (n-1).toNat 0 (n-1)
theorem btT_n {n:Int} {d:List (List Int)} (h:triF n d=true):(btT n d).n≤8:=by
 simp only [triF,qba] at h
 have:=inR_iff.1 h.1.1
 have:=ltF_n (n:=n) (d:=d) (f:=(n-1).toNat) (a:=0) (b:=n-1) (by omega)
 unfold btT; omega
theorem bot_s [HA K] {n:Int} {d:List (List Int)} (hn:-1000000000≤n∧n≤1000000000) (hd:d.length≤1000) (hr:∀ r∈d,rw3 r):K 593 [.n n,LL d] [.s (if triF n d=true then (btT n d).t else []),.b (triF n d)]:=by
 have k1:=tri_any_s (K:=K) hn hd hr
 refine body_by (f:=ir_spec_BinaryOfTriangles) rfl ?_; simp only [ir_spec_BinaryOfTriangles,zn,zs,zq,zi,zg,zp]
 simp (disch:=omega) only [vcd]
 refine call_by (k1) rfl ?_
 cases ht:triF n d
 ·simp (disch:=omega) only [vcd]
  rfl
 ·have hb:2≤n∧n≤10:=by
   simp only [triF,qba] at ht
   exact inR_iff.1 ht.1.1
  have k2:=lt_s (K:=K) (n:=n) (d:=d) (by omega) hd hr (n-1).toNat 0 (n-1) (by omega) (by omega) (by omega) (by omega)
  simp (disch:=omega) only [vcd]
  refine call_by (k2) rfl ?_
  simp (disch:=omega) only [vcd]
  rfl
end Go.Cat
