/-
 Triangulations read back: BinaryOfTriangles and l32Diagonals of the reference, for any rows of two numbers and any text.
-/
import Derived.Test.YtihgdjeahjfhfaaGreatPfWrite
import Derived.Test.YtihgdjeahjfhfaaGreatIrHas
set_option linter.unusedSimpArgs false
set_option linter.unusedVariables false
namespace Go.Cat
variable {K:Nat→List D→List D→Prop}
def rw3 (x:List Int):Prop:=x.length=2∧(-1000≤atI x 0∧atI x 0≤1000)∧(-1000≤atI x 1∧atI x 1≤1000)
def crR (a b:List Int):Bool:=(decide (atI a 0<atI b 0)&&(decide (atI b 0<atI a 1)&&decide (atI a 1<atI b 1))) || (decide (atI b 0<atI a 0)&&(decide (atI a 0<atI b 1)&&decide (atI b 1<atI a 1)))
theorem crs_s [HA K] {a b:List Int} (ha:rw3 a) (hb:rw3 b):K 603 [LI a,LI b] [.b (crR a b)]:=by
 obtain ⟨a1,_,_⟩:=ha
 obtain ⟨b1,_,_⟩:=hb
 refine body_by (f:=ir_spec_l7Crosses) rfl ?_; simp only [ir_spec_l7Crosses,zn,zs,zq,zi,zg,zp]
 simp (disch:=omega) only [vcd]
 by_cases h1:atI a 0<atI b 0
 ·by_cases h2:atI b 0<atI a 1
  ·by_cases h3:atI a 1<atI b 1
   ·simp (disch:=omega) only [vcd]
    simp [crR,h1,h2,h3]
   ·simp (disch:=omega) only [vcd]
    simp [crR,h1,h2,h3]
    omega
  ·simp (disch:=omega) only [vcd]
   simp [crR,h1,h2]
   omega
 ·by_cases h4:atI b 0<atI a 0
  ·by_cases h5:atI a 0<atI b 1
   ·simp (disch:=omega) only [vcd]
    simp [crR,h1,h4,h5]
   ·simp (disch:=omega) only [vcd]
    simp [crR,h1,h4,h5]
  ·simp (disch:=omega) only [vcd]
   simp [crR,h1,h4]
def dgOK (n:Int) (r:List Int):Bool:=inR 0 (n-1) (atI r 0)&&inR (atI r 0+2) (n-1) (atI r 1)&&!(decide (atI r 0=0)&&decide (atI r 1=n-1))
theorem takeLg {d:List (List Int)} {i:Nat} (h:i<d.length):d.take (i+1)=d.take i++[atL d i]:=by
 rw [qta h]; simp [atL,h]
theorem dropLg {d:List (List Int)} {i:Nat} (h:i<d.length):d.drop i=atL d i::d.drop (i+1):=by
 rw [List.drop_eq_getElem_cons h]; simp [atL,h]
def sdF (n:Int) (d:List (List Int)) (a b:Int):Bool:=(decide (b=a+1) || (decide (a=0)&&decide (b=n-1))) || d.any (fun r=>decide (atI r 0=a)&&decide (atI r 1=b))
theorem sd_s [HA K] {n a b:Int} {d:List (List Int)} (hn:-1000≤n∧n≤1000) (ha:-1000≤a∧a≤1000) (hb:-1000≤b∧b≤1000) (hd:d.length≤1000) (hr:∀ r∈d,rw3 r):K 604 [.n n,LL d,.n a,.n b] [.b (sdF n d a b)]:=by
 have hrow:∀ i:Nat,i<d.length→rw3 (atL d i):=fun i hi=>hr _ (atL_in hi)
 refine body_by (f:=ir_spec_l7Side) rfl ?_; simp only [ir_spec_l7Side,zn,zs,zq,zi,zg,zp]
 by_cases h1:b=a+1
 ·simp (disch:=omega) only [vcd,← h1]
  simp [sdF,h1]
 ·by_cases h2:a=0∧b=n-1
  ·simp (disch:=omega) only [vcd,h2.1,h2.2]
   simp [sdF,h2.1,h2.2]
  ·have e0:sdF n d a b=d.any (fun r=>decide (atI r 0=a)&&decide (atI r 1=b)):=by
    by_cases h3:a=0
    ·have h4:¬ b=n-1:=fun q=>h2 ⟨h3,q⟩
     simp [sdF,h1,h4]
    ·simp [sdF,h1,h3]
   rw [e0]
   by_cases h3:a=0
   ·have h4:¬ b=n-1:=fun q=>h2 ⟨h3,q⟩
    simp (disch:=omega) only [vcd]
    refine loop_ix (fun i=>d.any (fun r=>decide (atI r 0=a)&&decide (atI r 1=b))=(d.drop i).any (fun r=>decide (atI r 0=a)&&decide (atI r 1=b))) (fun i=>[.u,LL d,.n a,.n b,.u,.n i,.u,.u,.u]) d.length (by simp) (by simp) (fun i hi hP=>?_) (fun hP=>?_)
    ·have hri:=hrow i hi
     obtain ⟨r,hr1⟩:∃ r,r=atL d i:=⟨_,rfl⟩
     rw [dropLg hi,List.any_cons] at hP
     rw [← hr1] at hP hri
     obtain ⟨g2,g0,g1⟩:=hri
     by_cases c0:atI r 0=a
     ·by_cases c1:atI r 1=b
      ·simp (disch:=omega) only [vcd,← hr1,c0,c1]
       rw [hP]; simp [c0,c1]
      ·simp (disch:=omega) only [vcd,← hr1,c0]
       rw [hP]; simp [c1]
     ·simp (disch:=omega) only [vcd,← hr1]
      rw [hP]; simp [c0]
    ·rw [List.drop_length] at hP
     simp (disch:=omega) only [vcd]
     rw [hP]; simp
   ·simp (disch:=omega) only [vcd]
    refine loop_ix (fun i=>d.any (fun r=>decide (atI r 0=a)&&decide (atI r 1=b))=(d.drop i).any (fun r=>decide (atI r 0=a)&&decide (atI r 1=b))) (fun i=>[.u,LL d,.n a,.n b,.u,.n i,.u,.u,.u]) d.length (by simp) (by simp) (fun i hi hP=>?_) (fun hP=>?_)
    ·have hri:=hrow i hi
     obtain ⟨r,hr1⟩:∃ r,r=atL d i:=⟨_,rfl⟩
     rw [dropLg hi,List.any_cons] at hP
     rw [← hr1] at hP hri
     obtain ⟨g2,g0,g1⟩:=hri
     by_cases c0:atI r 0=a
     ·by_cases c1:atI r 1=b
      ·simp (disch:=omega) only [vcd,← hr1,c0,c1]
       rw [hP]; simp [c0,c1]
      ·simp (disch:=omega) only [vcd,← hr1,c0]
       rw [hP]; simp [c1]
     ·simp (disch:=omega) only [vcd,← hr1]
      rw [hP]; simp [c0]
    ·rw [List.drop_length] at hP
     simp (disch:=omega) only [vcd]
     rw [hP]; simp
def ltM (n:Int) (d:List (List Int)) (a b:Int):Nat→Int→Option Int
 | 0,_=>none
 | k+1,m=>if (sdF n d a m&&sdF n d m b)=true then some m else ltM n d a b k (m+1)
def ltF (n:Int) (d:List (List Int)):Nat→Int→Int→BT
 | 0,_,_=>.lf
 | f+1,a,b=>if b=a+1 then .lf else
  match ltM n d a b (b-a-1).toNat (a+1) with
  | some m=>.nd (ltF n d f a m) (ltF n d f m b)
  | none=>.lf
def btT (n:Int) (d:List (List Int)):BT:=ltF n d (n-1).toNat 0 (n-1)
end Go.Cat
