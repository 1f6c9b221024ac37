/-
 Triangulations read back: BinaryOfTriangles and l32Diagonals of the reference, for any rows of two numbers and any text.
-/
import Derived.Test.YthoilpmggmenbaaGreatPfFrzJ
import Derived.Test.YthoilpmggmenbaaGreatQd0LawReports
import Derived.Test.YthoilpmggmenbaaGreatQd1LawReports
import Derived.Test.YthoilpmggmenbaaGreatQd2LawReports
import Derived.Test.YthoilpmggmenbaaGreatQd3LawReports
set_option linter.unusedSimpArgs false
set_option linter.unusedVariables false
namespace Go.Cat
variable{K:Nat→List D→List D→Prop}
def ED(x:List Int):Prop:=x.length=2∧(-1000≤AE x 0∧AE x 0≤1000)∧(-1000≤AE x 1∧AE x 1≤1000)
def CE(a b:List Int):Bool:=(decide (AE a 0<AE b 0)&&(decide (AE b 0<AE a 1)&&decide (AE a 1<AE b 1)))||(decide (AE b 0<AE a 0)&&(decide (AE a 0<AE b 1)&&decide (AE b 1<AE a 1)))
theorem K6[HA K]{a b:List Int}(ha:ED a)(hb:ED b):K 603 [LI a,LI b] [.b (CE a b)]:=by
 obtain⟨a1,_,_⟩:=ha;obtain⟨b1,_,_⟩:=hb;refine qb AHV rfl ?_;simp only[AHV];simp(disch:=omega) only[AA];by_cases h1:AE a 0<AE b 0
 ·by_cases h2:AE b 0<AE a 1
  ·by_cases h3:AE a 1<AE b 1
   ·simp(disch:=omega) only[AA];simp[CE,h1,h2,h3]
   ·simp(disch:=omega) only[AA];simp[CE,h1,h2,h3];omega
  ·simp(disch:=omega) only[AA];simp[CE,h1,h2];omega
 ·by_cases h4:AE b 0<AE a 0
  ·by_cases h5:AE a 0<AE b 1
   ·simp(disch:=omega) only[AA];simp[CE,h1,h4,h5]
   ·simp(disch:=omega) only[AA];simp[CE,h1,h4,h5]
  ·simp(disch:=omega) only[AA];simp[CE,h1,h4]
def Cg(n:Int)(r:List Int):Bool:=AV 0 (n-1) (AE r 0)&&AV (AE r 0+2) (n-1) (AE r 1)&&!(decide (AE r 0=0)&&decide (AE r 1=n-1))
def Ce(n:Int):List (List Int)→List (List Int)→Bool
 |_,[]=>true
 |done,r::t=>Cg n r&&(decide (done.length=0)||B9 (AG done ((done.length:Int)-1)) r)&&done.all (fun q=>!CE q r)&&Ce n (done++[r]) t
def D7(n:Int)(d:List (List Int)):Bool:=AV 2 10 n&&decide ((d.length:Int)=max 0 (n-3))&&Ce n [] d
theorem VL{d:List (List Int)}{i:Nat}(h:i<d.length):d.take (i+1)=d.take i++[AG d i]:=by rw[CU h];simp[AG,h]
theorem JJ{d:List (List Int)}{i:Nat}(h:i<d.length):d.drop i=AG d i::d.drop (i+1):=by rw[List.drop_eq_getElem_cons h];simp[AG,h]
theorem AMP{n:Int}{d:List (List Int)}{i:Nat}(h:i<d.length):Ce n (d.take i) (d.drop i)=(Cg n (AG d i)&&(decide (i=0)||B9 (AG d ((i:Int)-1)) (AG d i))&&(d.take i).all (fun q=>!CE q (AG d i))&&Ce n (d.take (i+1)) (d.drop (i+1))):=by
 have hl:(d.take i).length=i:=by simp;omega
 rw[JJ h,Ce,←VL h,hl];by_cases h0:i=0
 ·simp[h0]
 ·have e:AG (d.take i) ((i:Int)-1)=AG d ((i:Int)-1):=by
   have e1:((i:Int)-1).toNat=i-1:=by omega
   simp only[AG,e1,Al,List.getElem?_take]
   rw[if_pos (by omega)]
  rw[e]
theorem YZ[HA K]{n:Int}{d:List (List Int)}(hn:-1000000000≤n∧n≤1000000000)(hd:d.length≤1000)(hr:∀r∈d,ED r):K 600 [.n n,LL d] [.b (D7 n d)]:=by
 have k1:=Bj (K:=K) (x:=n) (a:=2) (b:=10);have hrow:∀i:Nat,i<d.length→ED (AG d i):=fun i hi=>hr _ (G8 hi);refine qb Kp rfl ?_;simp only[Kp]
 cases q1:AV 2 10 n
 ·rw[q1]at k1;simp(disch:=omega) only[AA];refine AD (k1) rfl ?_;simp(disch:=omega) only[AA];simp[D7,q1]
 ·rw[q1]at k1;have qb:=A8.1 q1;by_cases q2:(d.length:Int)=max 0 (n-3)
  ·have e0:D7 n d=Ce n [] d:=by simp[D7,q1,q2]
   rw[e0];simp(disch:=omega) only[AA];refine AD (k1) rfl ?_;simp(disch:=omega) only[AA];refine AL (fun i=>Ce n [] d=Ce n (d.take i) (d.drop i)) (fun i=>[.n n,LL d,.u,.n i,.u,.u,.u,.u,.u,.u,.u]) d.length (by simp) rfl (fun i hi hA=>?_) (fun hA=>?_)
   ·rw[AMP hi]at hA;have hri:=hrow i hi;obtain⟨r,hr⟩:∃r,r=AG d i:=⟨_,rfl⟩;rw[←hr]at hA hri;obtain⟨g2,g0,g1⟩:=hri;have kA:=Bj (K:=K) (x:=AE r 0) (a:=0) (b:=n-1);have kB:=Bj (K:=K) (x:=AE r 1) (a:=AE r 0+2) (b:=n-1)
    cases p0:AV 0 (n-1) (AE r 0)
    ·rw[p0]at kA;have eF:Cg n r=false:=by simp[Cg,p0]
     rw[eF]at hA;simp(disch:=omega) only[AA,←hr];refine AD (kA) rfl ?_;simp(disch:=omega) only[AA,←hr];rw[hA];simp
    ·rw[p0]at kA
     cases p1:AV (AE r 0+2) (n-1) (AE r 1)
     ·rw[p1]at kB;have eF:Cg n r=false:=by simp[Cg,p1]
      rw[eF]at hA;simp(disch:=omega) only[AA,←hr];refine AD (kA) rfl ?_;simp(disch:=omega) only[AA,←hr];refine AD (kB) rfl ?_;simp(disch:=omega) only[AA,←hr];rw[hA];simp
     ·rw[p1]at kB;by_cases p2:AE r 0=0∧AE r 1=n-1
      ·have eF:Cg n r=false:=by simp[Cg,p2.1,p2.2]
       rw[eF]at hA;simp(disch:=omega) only[AA,←hr];refine AD (kA) rfl ?_;simp(disch:=omega) only[AA,←hr];refine AD (kB) rfl ?_;simp(disch:=omega) only[AA,←hr,p2.1,p2.2];rw[hA];simp
      ·have eT:Cg n r=true:=by
        by_cases p3:AE r 0=0
        ·have p4:¬AE r 1=n-1:=fun q=>p2 ⟨p3,q⟩
         simp[Cg,p0,p1,p4]
        ·simp[Cg,p0,p1,p3]
       rw[eT,Bool.true_and]at hA
       by_cases p3:AE r 0=0
       ·have p4:¬AE r 1=n-1:=fun q=>p2 ⟨p3,q⟩
        by_cases i0:i=0
        ·have hA:Ce n [] d=((d.take i).all (fun q=>!CE q r)&&Ce n (d.take (i+1)) (d.drop (i+1))):=by rw[hA];simp[i0]
         simp(disch:=omega) only[AA,←hr]
         refine AD (kA) rfl ?_
         simp(disch:=omega) only[AA,←hr]
         refine AD (kB) rfl ?_
         simp(disch:=omega) only[AA,←hr,p3]
         refine AL (fun k=>Ce n [] d=((((d.take i).drop k).all fun q=>!CE q r)&&Ce n (d.take (i+1)) (d.drop (i+1)))) (fun k=>[.n n,LL d,.u,.n i,.n k,.u,.u,.u,.u,.u,.u]) i (by simpa using hA) (by simp) (fun k hk hC=>?_) (fun hC=>?_)
         ·have hkd:k<(d.take i).length:=by simp;omega
          have ek:AG (d.take i) k=AG d k:=by
           simp only[AG,BH,Al,List.getElem?_take]
           rw[if_pos hk]
          rw[JJ hkd,ek,List.all_cons]at hC
          have kx:=K6 (K:=K) (a:=AG d k) (b:=r) (hrow k (by omega)) ⟨g2,g0,g1⟩
          cases hx:CE (AG d k) r
          ·rw[hx]at kx hC
           simp(disch:=omega) only[AA,←hr]
           refine AD (kx) rfl ?_
           simp(disch:=omega) only[AA]
           simpa using hC
          ·rw[hx]at kx hC
           simp(disch:=omega) only[AA,←hr]
           refine AD (kx) rfl ?_
           simp(disch:=omega) only[AA]
           rw[hC];simp
         ·have e:(d.take i).drop i=[]:=List.drop_eq_nil_of_le (by simp;omega)
          rw[e]at hC
          simp(disch:=omega) only[AA]
          simpa using hC
        ·have kC:=Mt (K:=K) (x:=AG d ((i-1:Nat):Int)) (y:=r) (hrow (i-1) (by omega)).1 g2
         have e1:((i-1:Nat):Int)=(i:Int)-1:=by omega
         rw[e1]at kC
         have hA:Ce n [] d=(B9 (AG d ((i:Int)-1)) r&&((d.take i).all (fun q=>!CE q r)&&Ce n (d.take (i+1)) (d.drop (i+1)))):=by rw[hA];simp[i0,Bool.and_assoc]
         cases hlt:B9 (AG d ((i:Int)-1)) r
         ·rw[hlt]at kC hA
          simp(disch:=omega) only[AA,←hr]
          refine AD (kA) rfl ?_
          simp(disch:=omega) only[AA,←hr]
          refine AD (kB) rfl ?_
          simp(disch:=omega) only[AA,←hr,p3]
          refine AD (kC) rfl ?_
          simp(disch:=omega) only[AA]
          rw[hA];simp
         ·rw[hlt,Bool.true_and]at hA
          rw[hlt]at kC
          simp(disch:=omega) only[AA,←hr]
          refine AD (kA) rfl ?_
          simp(disch:=omega) only[AA,←hr]
          refine AD (kB) rfl ?_
          simp(disch:=omega) only[AA,←hr,p3]
          refine AD (kC) rfl ?_
          simp(disch:=omega) only[AA]
          refine AL (fun k=>Ce n [] d=((((d.take i).drop k).all fun q=>!CE q r)&&Ce n (d.take (i+1)) (d.drop (i+1)))) (fun k=>[.n n,LL d,.u,.n i,.n k,.u,.u,.u,.u,.u,.u]) i (by simpa using hA) (by simp) (fun k hk hC=>?_) (fun hC=>?_)
          ·have hkd:k<(d.take i).length:=by simp;omega
           have ek:AG (d.take i) k=AG d k:=by
            simp only[AG,BH,Al,List.getElem?_take]
            rw[if_pos hk]
           rw[JJ hkd,ek,List.all_cons]at hC
           have kx:=K6 (K:=K) (a:=AG d k) (b:=r) (hrow k (by omega)) ⟨g2,g0,g1⟩
           cases hx:CE (AG d k) r
           ·rw[hx]at kx hC
            simp(disch:=omega) only[AA,←hr]
            refine AD (kx) rfl ?_
            simp(disch:=omega) only[AA]
            simpa using hC
           ·rw[hx]at kx hC
            simp(disch:=omega) only[AA,←hr]
            refine AD (kx) rfl ?_
            simp(disch:=omega) only[AA]
            rw[hC];simp
          ·have e:(d.take i).drop i=[]:=List.drop_eq_nil_of_le (by simp;omega)
           rw[e]at hC
           simp(disch:=omega) only[AA]
           simpa using hC
       ·by_cases i0:i=0
        ·have hA:Ce n [] d=((d.take i).all (fun q=>!CE q r)&&Ce n (d.take (i+1)) (d.drop (i+1))):=by rw[hA];simp[i0]
         simp(disch:=omega) only[AA,←hr]
         refine AD (kA) rfl ?_
         simp(disch:=omega) only[AA,←hr]
         refine AD (kB) rfl ?_
         simp(disch:=omega) only[AA,←hr]
         refine AL (fun k=>Ce n [] d=((((d.take i).drop k).all fun q=>!CE q r)&&Ce n (d.take (i+1)) (d.drop (i+1)))) (fun k=>[.n n,LL d,.u,.n i,.n k,.u,.u,.u,.u,.u,.u]) i (by simpa using hA) (by simp) (fun k hk hC=>?_) (fun hC=>?_)
         ·have hkd:k<(d.take i).length:=by simp;omega
          have ek:AG (d.take i) k=AG d k:=by
           simp only[AG,BH,Al,List.getElem?_take]
           rw[if_pos hk]
          rw[JJ hkd,ek,List.all_cons]at hC
          have kx:=K6 (K:=K) (a:=AG d k) (b:=r) (hrow k (by omega)) ⟨g2,g0,g1⟩
          cases hx:CE (AG d k) r
          ·rw[hx]at kx hC
           simp(disch:=omega) only[AA,←hr]
           refine AD (kx) rfl ?_
           simp(disch:=omega) only[AA]
           simpa using hC
          ·rw[hx]at kx hC
           simp(disch:=omega) only[AA,←hr]
           refine AD (kx) rfl ?_
           simp(disch:=omega) only[AA]
           rw[hC];simp
         ·have e:(d.take i).drop i=[]:=List.drop_eq_nil_of_le (by simp;omega)
          rw[e]at hC
          simp(disch:=omega) only[AA]
          simpa using hC
        ·have kC:=Mt (K:=K) (x:=AG d ((i-1:Nat):Int)) (y:=r) (hrow (i-1) (by omega)).1 g2
         have e1:((i-1:Nat):Int)=(i:Int)-1:=by omega
         rw[e1]at kC
         have hA:Ce n [] d=(B9 (AG d ((i:Int)-1)) r&&((d.take i).all (fun q=>!CE q r)&&Ce n (d.take (i+1)) (d.drop (i+1)))):=by rw[hA];simp[i0,Bool.and_assoc]
         cases hlt:B9 (AG d ((i:Int)-1)) r
         ·rw[hlt]at kC hA
          simp(disch:=omega) only[AA,←hr]
          refine AD (kA) rfl ?_
          simp(disch:=omega) only[AA,←hr]
          refine AD (kB) rfl ?_
          simp(disch:=omega) only[AA,←hr]
          refine AD (kC) rfl ?_
          simp(disch:=omega) only[AA]
          rw[hA];simp
         ·rw[hlt,Bool.true_and]at hA
          rw[hlt]at kC
          simp(disch:=omega) only[AA,←hr]
          refine AD (kA) rfl ?_
          simp(disch:=omega) only[AA,←hr]
          refine AD (kB) rfl ?_
          simp(disch:=omega) only[AA,←hr]
          refine AD (kC) rfl ?_
          simp(disch:=omega) only[AA]
          refine AL (fun k=>Ce n [] d=((((d.take i).drop k).all fun q=>!CE q r)&&Ce n (d.take (i+1)) (d.drop (i+1)))) (fun k=>[.n n,LL d,.u,.n i,.n k,.u,.u,.u,.u,.u,.u]) i (by simpa using hA) (by simp) (fun k hk hC=>?_) (fun hC=>?_)
          ·have hkd:k<(d.take i).length:=by simp;omega
           have ek:AG (d.take i) k=AG d k:=by
            simp only[AG,BH,Al,List.getElem?_take]
            rw[if_pos hk]
           rw[JJ hkd,ek,List.all_cons]at hC
           have kx:=K6 (K:=K) (a:=AG d k) (b:=r) (hrow k (by omega)) ⟨g2,g0,g1⟩
           cases hx:CE (AG d k) r
           ·rw[hx]at kx hC
            simp(disch:=omega) only[AA,←hr]
            refine AD (kx) rfl ?_
            simp(disch:=omega) only[AA]
            simpa using hC
           ·rw[hx]at kx hC
            simp(disch:=omega) only[AA,←hr]
            refine AD (kx) rfl ?_
            simp(disch:=omega) only[AA]
            rw[hC];simp
          ·have e:(d.take i).drop i=[]:=List.drop_eq_nil_of_le (by simp;omega)
           rw[e]at hC
           simp(disch:=omega) only[AA]
           simpa using hC
   ·simp(disch:=omega) only[AA];rw[hA];simp[Ce]
  ·simp(disch:=omega) only[AA];refine AD (k1) rfl ?_;simp(disch:=omega) only[AA];simp[D7,q1,q2]
def EF(n:Int)(d:List (List Int))(a b:Int):Bool:=(decide (b=a+1)||(decide (a=0)&&decide (b=n-1)))||d.any (fun r=>decide (AE r 0=a)&&decide (AE r 1=b))
theorem NT[HA K]{n a b:Int}{d:List (List Int)}(hn:-1000≤n∧n≤1000)(ha:-1000≤a∧a≤1000)(hb:-1000≤b∧b≤1000)(hd:d.length≤1000)(hr:∀r∈d,ED r):K 604 [.n n,LL d,.n a,.n b] [.b (EF n d a b)]:=by
 have hrow:∀i:Nat,i<d.length→ED (AG d i):=fun i hi=>hr _ (G8 hi);refine qb YM rfl ?_;simp only[YM];by_cases h1:b=a+1
 ·simp(disch:=omega) only[AA,←h1];simp[EF,h1]
 ·by_cases h2:a=0∧b=n-1
  ·simp(disch:=omega) only[AA,h2.1,h2.2];simp[EF,h2.1,h2.2]
  ·have e0:EF n d a b=d.any (fun r=>decide (AE r 0=a)&&decide (AE r 1=b)):=by
    by_cases h3:a=0
    ·have h4:¬b=n-1:=fun q=>h2 ⟨h3,q⟩
     simp[EF,h1,h4]
    ·simp[EF,h1,h3]
   rw[e0]
   by_cases h3:a=0
   ·have h4:¬b=n-1:=fun q=>h2 ⟨h3,q⟩
    simp(disch:=omega) only[AA]
    refine AL (fun i=>d.any (fun r=>decide (AE r 0=a)&&decide (AE r 1=b))=(d.drop i).any (fun r=>decide (AE r 0=a)&&decide (AE r 1=b))) (fun i=>[.u,LL d,.n a,.n b,.u,.n i,.u,.u,.u]) d.length (by simp) (by simp) (fun i hi hP=>?_) (fun hP=>?_)
    ·have hri:=hrow i hi
     obtain⟨r,hr1⟩:∃r,r=AG d i:=⟨_,rfl⟩
     rw[JJ hi,List.any_cons]at hP
     rw[←hr1]at hP hri
     obtain⟨g2,g0,g1⟩:=hri
     by_cases c0:AE r 0=a
     ·by_cases c1:AE r 1=b
      ·simp(disch:=omega) only[AA,←hr1,c0,c1]
       rw[hP];simp[c0,c1]
      ·simp(disch:=omega) only[AA,←hr1,c0]
       rw[hP];simp[c1]
     ·simp(disch:=omega) only[AA,←hr1]
      rw[hP];simp[c0]
    ·rw[List.drop_length]at hP
     simp(disch:=omega) only[AA]
     rw[hP];simp
   ·simp(disch:=omega) only[AA]
    refine AL (fun i=>d.any (fun r=>decide (AE r 0=a)&&decide (AE r 1=b))=(d.drop i).any (fun r=>decide (AE r 0=a)&&decide (AE r 1=b))) (fun i=>[.u,LL d,.n a,.n b,.u,.n i,.u,.u,.u]) d.length (by simp) (by simp) (fun i hi hP=>?_) (fun hP=>?_)
    ·have hri:=hrow i hi
     obtain⟨r,hr1⟩:∃r,r=AG d i:=⟨_,rfl⟩
     rw[JJ hi,List.any_cons]at hP
     rw[←hr1]at hP hri
     obtain⟨g2,g0,g1⟩:=hri
     by_cases c0:AE r 0=a
     ·by_cases c1:AE r 1=b
      ·simp(disch:=omega) only[AA,←hr1,c0,c1]
       rw[hP];simp[c0,c1]
      ·simp(disch:=omega) only[AA,←hr1,c0]
       rw[hP];simp[c1]
     ·simp(disch:=omega) only[AA,←hr1]
      rw[hP];simp[c0]
    ·rw[List.drop_length]at hP
     simp(disch:=omega) only[AA]
     rw[hP];simp
def Gi(n:Int)(d:List (List Int))(a b:Int):Nat→Int→Option Int
 |0,_=>none
 |k+1,m=>if(EF n d a m&&EF n d m b)=true then some m else Gi n d a b k (m+1)
def Eu(n:Int)(d:List (List Int)):Nat→Int→Int→BT
 |0,_,_=>.lf
 |f+1,a,b=>if b=a+1 then .lf else
  match Gi n d a b (b-a-1).toNat (a+1)with
  |some m=>.nd (Eu n d f a m) (Eu n d f m b)
  |none=>.lf
theorem Yp{n:Int}{d:List (List Int)}{a b:Int}:∀{k:Nat}{m x:Int},Gi n d a b k m=some x→m≤x∧x<m+k
 |0,m,x,h=>by simp[Gi]at h
 |k+1,m,x,h=>by
  rw[Gi]at h
  split at h
  ·injection h with h;omega
  ·have:=Yp h;omega
theorem Mj{n:Int}{d:List (List Int)}:∀{f:Nat}{a b:Int},a<b→((Eu n d f a b).n:Int)≤b-a-1
 |0,a,b,h=>by simp only[Eu,BT.n];omega
 |f+1,a,b,h=>by
  rw[Eu]
  split
  ·simp only[BT.n];omega
  ·split
   ·rename_i m hm
    have:=Yp hm
    have h1:=Mj (n:=n) (d:=d) (f:=f) (a:=a) (b:=m) (by omega)
    have h2:=Mj (n:=n) (d:=d) (f:=f) (a:=m) (b:=b) (by omega)
    simp only[BT.n];omega
   ·simp only[BT.n];omega
theorem RY[HA K]{n:Int}{d:List (List Int)}(hn:-1000≤n∧n≤1000)(hd:d.length≤1000)(hr:∀r∈d,ED r):∀(f:Nat)(a b:Int),0≤a→a<b→b≤100→b-a≤f→K 601 [.n n,LL d,.n a,.n b] [.s (Eu n d f a b).t]
 |0,a,b,h0,h1,h2,h3=>by omega
 |f+1,a,b,h0,h1,h2,h3=>by
  refine qb AGS rfl ?_;simp only[AGS]
  by_cases hab:b=a+1
  ·have e:Eu n d (f+1) a b=.lf:=by rw[Eu,if_pos hab]
   rw[e]
   simp(disch:=first|omega|simp only[vl];omega) only[AA,←hab]
   rfl
  ·obtain⟨k,hk⟩:∃k,k=(b-a-1).toNat:=⟨_,rfl⟩
   have e:Eu n d (f+1) a b=match Gi n d a b k (a+1)with
    |some m=>.nd (Eu n d f a m) (Eu n d f m b)
    |none=>.lf:=by rw[Eu,if_neg hab,hk]
   rw[e]
   simp(disch:=first|omega|simp only[vl];omega) only[AA]
   refine AL (fun i=>Gi n d a b k (a+1)=Gi n d a b (k-i) (a+1+i)) (fun i=>[.n n,LL d,.n a,.n b,.u,.n (a+1+i),.u,.u,.u]) k (by simp) (by simp) (fun i hi hP=>?_) (fun hP=>?_)
   ·obtain⟨m,hm⟩:∃m,m=a+1+(i:Int):=⟨_,rfl⟩
    obtain⟨j,hj⟩:∃j,k-i=j+1:=⟨k-i-1,by omega⟩
    have ej:k-(i+1)=j:=by omega
    have em:a+1+((i:Int)+1)=m+1:=by omega
    rw[hj,←hm,Gi]at hP
    rw[←hm,ej]
    have s1:=NT (K:=K) (n:=n) (a:=a) (b:=m) (d:=d) hn (by omega) (by omega) hd hr
    have s2:=NT (K:=K) (n:=n) (a:=m) (b:=b) (d:=d) hn (by omega) (by omega) hd hr
    cases q1:EF n d a m
    ·rw[q1]at s1 hP
     simp(disch:=first|omega|simp only[vl];omega) only[AA]
     refine AD (s1) rfl ?_
     simp(disch:=first|omega|simp only[vl];omega) only[AA]
     rw[em]
     exact⟨by simpa using hP,rfl⟩
    ·rw[q1]at s1 hP
     cases q2:EF n d m b
     ·rw[q2]at s2 hP
      simp(disch:=first|omega|simp only[vl];omega) only[AA]
      refine AD (s1) rfl ?_
      simp(disch:=first|omega|simp only[vl];omega) only[AA]
      refine AD (s2) rfl ?_
      simp(disch:=first|omega|simp only[vl];omega) only[AA]
      rw[em]
      exact⟨by simpa using hP,rfl⟩
     ·rw[q2]at s2 hP
      have hP:Gi n d a b k (a+1)=some m:=by simpa using hP
      have k1:=RY hn hd hr f a m (by omega) (by omega) (by omega) (by omega)
      have k2:=RY hn hd hr f m b (by omega) (by omega) (by omega) (by omega)
      have t1:=BT.tl (Eu n d f a m)
      have t2:=BT.tl (Eu n d f m b)
      have n1:=Mj (n:=n) (d:=d) (f:=f) (a:=a) (b:=m) (by omega)
      have n2:=Mj (n:=n) (d:=d) (f:=f) (a:=m) (b:=b) (by omega)
      rw[hP]
      simp only[BT.t]
      simp(disch:=first|omega|simp only[vl];omega) only[AA]
      refine AD (s1) rfl ?_
      simp(disch:=first|omega|simp only[vl];omega) only[AA]
      refine AD (s2) rfl ?_
      simp(disch:=first|omega|simp only[vl];omega) only[AA]
      refine AD (k1) rfl ?_
      simp(disch:=first|omega|simp only[vl];omega) only[AA]
      refine AD (k2) rfl ?_
      simp(disch:=first|omega|simp only[vl];omega) only[AA]
      simp
   ·have e0:k-k=0:=by omega
    rw[e0,Gi]at hP
    rw[hP]
    simp(disch:=first|omega|simp only[vl];omega) only[AA]
    rfl
def Q8(n:Int)(d:List (List Int)):BT:=Eu n d (n-1).toNat 0 (n-1)
theorem AZ1{n:Int}{d:List (List Int)}(h:D7 n d=true):(Q8 n d).n≤8:=by simp only[D7,AX]at h;have:=A8.1 h.1.1;have:=Mj (n:=n) (d:=d) (f:=(n-1).toNat) (a:=0) (b:=n-1) (by omega);unfold Q8;omega
theorem AdQ[HA K]{n:Int}{d:List (List Int)}(hn:-1000000000≤n∧n≤1000000000)(hd:d.length≤1000)(hr:∀r∈d,ED r):K 593 [.n n,LL d] [.s (if D7 n d=true then(Q8 n d).t else []),.b (D7 n d)]:=by
 have k1:=YZ (K:=K) hn hd hr;refine qb AMD rfl ?_;simp only[AMD];simp(disch:=omega) only[AA];refine AD (k1) rfl ?_
 cases ht:D7 n d
 ·simp(disch:=omega) only[AA];rfl
 ·have hb:2≤n∧n≤10:=by
   simp only[D7,AX]at ht
   exact A8.1 ht.1.1
  have k2:=RY (K:=K) (n:=n) (d:=d) (by omega) hd hr (n-1).toNat 0 (n-1) (by omega) (by omega) (by omega) (by omega)
  simp(disch:=omega) only[AA]
  refine AD (k2) rfl ?_
  simp(disch:=omega) only[AA]
  rfl
end Go.Cat
