/-
 Triangulations: any rows.
-/
import Derived.Test.YthoilpmggmenbaaGreatQd0LawReports
import Derived.Test.YthoilpmggmenbaaGreatQd1LawReports
import Derived.Test.YthoilpmggmenbaaGreatQd2LawReports
import Derived.Test.YthoilpmggmenbaaGreatQd3LawReports
import Derived.Test.YthoilpmggmenbaaGreatPfTurn
set_option linter.unusedSimpArgs false
set_option linter.unusedVariables false
namespace Go.Cat
variable{K:Nat→List D→List D→Prop}
set_option maxRecDepth 100000
def G6(n:Int)(r:List Int):Bool:=decide (r.length=2)&&Cg n r
def GF(n:Int)(d:List (List Int))(i:Nat):Bool:=G6 n (AG d i)&&((decide (i=0)||B9 (AG d ((i:Int)-1)) (AG d i))&&(d.take i).all (fun q=>!CE q (AG d i)))
def Dx(n:Int)(d:List (List Int)):Bool:=AV 2 10 n&&(decide ((d.length:Int)=max 0 (n-3))&&decide (∀i:Nat,i<d.length→GF n d i=true))
theorem S6{n:Int}{r:List Int}(hn:2≤n∧n≤10)(h:G6 n r=true):ED r:=by simp only[G6,Cg,AX,Aj]at h;obtain⟨h1,⟨h2,h3⟩,_⟩:=h;have a:=A8.1 h2;have b:=A8.1 h3;exact⟨h1,by omega,by omega⟩
theorem NW{n:Int}{d:List (List Int)}(h:Dx n d=true):(2≤n∧n≤10)∧(d.length:Int)=max 0 (n-3)∧∀i:Nat,i<d.length→GF n d i=true:=by simp only[Dx,AX,Aj]at h;exact⟨A8.1 h.1,h.2.1,h.2.2⟩
theorem AXA{n:Int}{d:List (List Int)}(h:Dx n d=true):∀r∈d,ED r:=by
 obtain⟨h1,h2,h3⟩:=NW h;intro r hr;obtain⟨i,hi,rfl⟩:=List.mem_iff_getElem.1 hr;have:=h3 i hi;simp only[GF,AX]at this;have e:AG d i=d[i]:=by simp[AG,hi]
 rw[e]at this;exact S6 h1 this.1
theorem RB{n:Int}{d:List (List Int)}{i:Nat}(hi:i<d.length)(h:GF n d i=false):Dx n d=false:=by
 cases e:Dx n d with
 |false=>rfl
 |true=>
  have:=(NW e).2.2 i hi
  rw[h]at this;cases this
theorem AIC{d:List (List Int)}{i:Nat}{f:List Int→Bool}(hi:i≤d.length):(d.take i).all f=decide (∀k:Nat,k<i→f (AG d k)=true):=by
 rw[Bool.eq_iff_iff,Aw,Aj];constructor
 ·intro h k hk;refine h _ ?_;rw[List.mem_iff_getElem];exact⟨k,by simp;omega,by simp[AG,show k<d.length by omega]⟩
 ·intro h x hx;obtain⟨k,hk,rfl⟩:=List.mem_iff_getElem.1 hx;have hk':k<i:=by simp at hk;omega
  have:=h k hk';simpa[AG,show k<d.length by omega]using this
theorem AAL[HA K]{n:Int}{d:List (List Int)}(hn:-2000000000000≤n∧n≤2000000000000)(hd:d.length≤1099511627776)(hl:∀r∈d,r.length≤1099511627776):K 600 [.n n,LL d] [.b (Dx n d)]:=by
 have k1:=Bj (K:=K) (x:=n) (a:=2) (b:=10);refine qb Kp rfl ?_;simp only[Kp]
 cases q1:AV 2 10 n
 ·have e:Dx n d=false:=by simp[Dx,q1]
  rw[e];rw[q1]at k1;simp(disch:=omega) only[AA];refine AD (k1) rfl ?_;simp(disch:=omega) only[AA]
 rw[q1]at k1;have hn:=A8.1 q1;by_cases q2:(d.length:Int)=max 0 (n-3)
 ·simp(disch:=omega) only[AA];refine AD (k1) rfl ?_;simp(disch:=omega) only[AA];refine AL (fun i=>∀j:Nat,j<i→GF n d j=true) (fun i=>[.n n,LL d,.u,.n i,.u,.u,.u,.u,.u,.u,.u]) d.length (fun j hj=>by omega) rfl (fun i hi hP=>?_) (fun hP=>?_)
  ·obtain⟨r,hr⟩:∃r,r=AG d i:=⟨_,rfl⟩;have hxl:r.length≤1099511627776:=by rw[hr];exact hl _ (by simp[AG,hi])
   have rk:∀k:Nat,k<i→ED (AG d k):=fun k hk=>by have:=hP k hk;simp only[GF,AX]at this;exact S6 hn this.1
   have noD:G6 n r=false→Dx n d=false:=fun h=>RB hi (by rw[hr]at h;simp[GF,h]);by_cases g2:r.length=2
   ·have kA:=Bj (K:=K) (x:=AE r 0) (a:=0) (b:=n-1);have kB:=Bj (K:=K) (x:=AE r 1) (a:=AE r 0+2) (b:=n-1)
    cases p0:AV 0 (n-1) (AE r 0)
    ·rw[p0]at kA;rw[noD (by simp[G6,Cg,p0])];simp(disch:=omega) only[AA,←hr];refine AD (kA) rfl ?_;simp(disch:=omega) only[AA,←hr]
    ·rw[p0]at kA;have b0:=A8.1 p0
     cases p1:AV (AE r 0+2) (n-1) (AE r 1)
     ·rw[p1]at kB;rw[noD (by simp[G6,Cg,p1])];simp(disch:=omega) only[AA,←hr];refine AD (kA) rfl ?_;simp(disch:=omega) only[AA,←hr];refine AD (kB) rfl ?_;simp(disch:=omega) only[AA,←hr]
     ·rw[p1]at kB;have b1:=A8.1 p1;by_cases p2:AE r 0=0∧AE r 1=n-1
      ·rw[noD (by simp[G6,Cg,p2.1,p2.2])];simp(disch:=omega) only[AA,←hr];refine AD (kA) rfl ?_;simp(disch:=omega) only[AA,←hr];refine AD (kB) rfl ?_;simp(disch:=omega) only[AA,←hr,p2.1,p2.2]
      ·have eT:G6 n r=true:=by
        by_cases p3:AE r 0=0
        ·have p4:¬AE r 1=n-1:=fun q=>p2 ⟨p3,q⟩
         simp[G6,g2,Cg,p0,p1,p4]
        ·simp[G6,g2,Cg,p0,p1,p3]
       have hx:=S6 hn eT
       have inner:∀k:Nat,k<i→CE (AG d k) r=true→Dx n d=false:=fun k hk hc=>RB hi (by
        have:(d.take i).all (fun q=>!CE q r)=false:=by
         rw[AIC (by omega),decide_eq_false_iff_not]
         intro q
         have:=q k hk
         rw[hc]at this;cases this
        simp[GF,←hr,this])
       have outer:(i=0∨B9 (AG d ((i:Int)-1)) r=true)→(∀k:Nat,k<i→CE (AG d k) r=false)→∀j:Nat,j<i+1→GF n d j=true:=fun ho hc j hj=>by
        by_cases e:j=i
        ·subst e
         have:(d.take j).all (fun q=>!CE q r)=true:=by
          rw[AIC (by omega),Aj]
          intro k hk
          rw[hc k hk];rfl
         rw[GF,←hr,eT,this]
         rcases ho with o|o
         ·simp[o]
         ·simp[o]
        ·exact hP j (by omega)
       have loop:(i=0∨B9 (AG d ((i:Int)-1)) r=true)→∀k:Nat,k<i→CE (AG d k) r=CE (AG d k) r:=fun _ _ _=>rfl
       by_cases p3:AE r 0=0
       ·have p4:¬AE r 1=n-1:=fun q=>p2 ⟨p3,q⟩
        by_cases i0:i=0
        ·simp(disch:=omega) only[AA,←hr]
         refine AD (kA) rfl ?_
         simp(disch:=omega) only[AA,←hr]
         refine AD (kB) rfl ?_
         simp(disch:=omega) only[AA,←hr,p3]
         refine AL (fun k=>∀j:Nat,j<k→CE (AG d j) r=false) (fun k=>[.n n,LL d,.u,.n i,.n k,.u,.u,.u,.u,.u,.u]) i (fun j hj=>by omega) (by simp) (fun k hk hC=>by omega) (fun hC=>?_)
         simp(disch:=omega) only[AA]
         exact outer (.inl i0) hC
        ·have kC:=Mt (K:=K) (x:=AG d ((i-1:Nat):Int)) (y:=r) (rk (i-1) (by omega)).1 g2
         have e1:((i-1:Nat):Int)=(i:Int)-1:=by omega
         rw[e1]at kC
         cases hlt:B9 (AG d ((i:Int)-1)) r
         ·rw[hlt]at kC
          rw[RB hi (by simp[GF,←hr,hlt,i0])]
          simp(disch:=omega) only[AA,←hr]
          refine AD (kA) rfl ?_
          simp(disch:=omega) only[AA,←hr]
          refine AD (kB) rfl ?_
          simp(disch:=omega) only[AA,←hr,p3]
          refine AD (kC) rfl ?_
          simp(disch:=omega) only[AA]
         ·rw[hlt]at kC
          simp(disch:=omega) only[AA,←hr]
          refine AD (kA) rfl ?_
          simp(disch:=omega) only[AA,←hr]
          refine AD (kB) rfl ?_
          simp(disch:=omega) only[AA,←hr,p3]
          refine AD (kC) rfl ?_
          simp(disch:=omega) only[AA]
          refine AL (fun k=>∀j:Nat,j<k→CE (AG d j) r=false) (fun k=>[.n n,LL d,.u,.n i,.n k,.u,.u,.u,.u,.u,.u]) i (fun j hj=>by omega) (by simp) (fun k hk hC=>?_) (fun hC=>?_)
          ·have kx:=K6 (K:=K) (a:=AG d k) (b:=r) (rk k hk) hx
           cases hxx:CE (AG d k) r
           ·rw[hxx]at kx
            simp(disch:=omega) only[AA,←hr]
            refine AD (kx) rfl ?_
            simp(disch:=omega) only[AA]
            intro j hj
            by_cases e:j=k
            ·rw[e];exact hxx
            ·exact hC j (by omega)
           ·rw[hxx]at kx
            rw[inner k hk hxx]
            simp(disch:=omega) only[AA,←hr]
            refine AD (kx) rfl ?_
            simp(disch:=omega) only[AA]
          ·simp(disch:=omega) only[AA]
           exact outer (.inr hlt) hC
       ·by_cases i0:i=0
        ·simp(disch:=omega) only[AA,←hr]
         refine AD (kA) rfl ?_
         simp(disch:=omega) only[AA,←hr]
         refine AD (kB) rfl ?_
         simp(disch:=omega) only[AA,←hr]
         refine AL (fun k=>∀j:Nat,j<k→CE (AG d j) r=false) (fun k=>[.n n,LL d,.u,.n i,.n k,.u,.u,.u,.u,.u,.u]) i (fun j hj=>by omega) (by simp) (fun k hk hC=>by omega) (fun hC=>?_)
         simp(disch:=omega) only[AA]
         exact outer (.inl i0) hC
        ·have kC:=Mt (K:=K) (x:=AG d ((i-1:Nat):Int)) (y:=r) (rk (i-1) (by omega)).1 g2
         have e1:((i-1:Nat):Int)=(i:Int)-1:=by omega
         rw[e1]at kC
         cases hlt:B9 (AG d ((i:Int)-1)) r
         ·rw[hlt]at kC
          rw[RB hi (by simp[GF,←hr,hlt,i0])]
          simp(disch:=omega) only[AA,←hr]
          refine AD (kA) rfl ?_
          simp(disch:=omega) only[AA,←hr]
          refine AD (kB) rfl ?_
          simp(disch:=omega) only[AA,←hr]
          refine AD (kC) rfl ?_
          simp(disch:=omega) only[AA]
         ·rw[hlt]at kC
          simp(disch:=omega) only[AA,←hr]
          refine AD (kA) rfl ?_
          simp(disch:=omega) only[AA,←hr]
          refine AD (kB) rfl ?_
          simp(disch:=omega) only[AA,←hr]
          refine AD (kC) rfl ?_
          simp(disch:=omega) only[AA]
          refine AL (fun k=>∀j:Nat,j<k→CE (AG d j) r=false) (fun k=>[.n n,LL d,.u,.n i,.n k,.u,.u,.u,.u,.u,.u]) i (fun j hj=>by omega) (by simp) (fun k hk hC=>?_) (fun hC=>?_)
          ·have kx:=K6 (K:=K) (a:=AG d k) (b:=r) (rk k hk) hx
           cases hxx:CE (AG d k) r
           ·rw[hxx]at kx
            simp(disch:=omega) only[AA,←hr]
            refine AD (kx) rfl ?_
            simp(disch:=omega) only[AA]
            intro j hj
            by_cases e:j=k
            ·rw[e];exact hxx
            ·exact hC j (by omega)
           ·rw[hxx]at kx
            rw[inner k hk hxx]
            simp(disch:=omega) only[AA,←hr]
            refine AD (kx) rfl ?_
            simp(disch:=omega) only[AA]
          ·simp(disch:=omega) only[AA]
           exact outer (.inr hlt) hC
   ·rw[noD (by simp[G6,g2])];simp(disch:=omega) only[AA,←hr]
  ·have e:Dx n d=true:=by
    simp only[Dx,q1,q2,decide_true,Bool.true_and,Aj]
    exact hP
   rw[e]
   simp(disch:=omega) only[AA]
 ·have e:Dx n d=false:=by simp[Dx,q2]
  rw[e];have hm:decide ((d.length:Int)=max 0 (n-3))=false:=decide_eq_false q2;simp(disch:=omega) only[AA];refine AD (k1) rfl ?_;simp(disch:=omega) only[AA,hm]
end Go.Cat
