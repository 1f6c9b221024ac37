/-
 Friezes: what the reference reckons.
-/
import Derived.Test.YthoilpmggmenbaaGreatPfFrzM
import Derived.Test.YthoilpmggmenbaaGreatPfIn
import Derived.Test.YthoilpmggmenbaaGreatQd0LawReports
import Derived.Test.YthoilpmggmenbaaGreatQd1LawReports
import Derived.Test.YthoilpmggmenbaaGreatQd2LawReports
import Derived.Test.YthoilpmggmenbaaGreatQd3LawReports
set_option linter.unusedSimpArgs false
set_option linter.unusedVariables false
namespace Go.Cat
variable{K:Nat→List D→List D→Prop}
theorem T9{rs qs:List (List Int)}(h:rs.length+qs.length≤1099511627776):EB false (LL rs) (LL qs)=some (LL (rs++qs)):=Ii ⟨h,rfl⟩
theorem AMI{a b c:List Int}:C2 [LI a,LI b,LI c]=some (LL [a,b,c]):=rfl
theorem appZ{p:List Int}(h:p.length≤1048576):EB true (.l []) (LI p)=some (LI p):=VW (zs:=[]) (by simp;omega)
theorem VP{α:Type}{f:Nat→α}{n:Nat}:(List.range (n+1)).map f=(List.range n).map f++[f n]:=by simp[List.range_succ]
def Cu(q:List Int):Bool:=q.all (AV 1 100)&&AV 3 10 q.length
theorem Ad7[HA K]{q:List Int}(h:q.length≤1048576):K 180 [LI q] [.b (Cu q)]:=by
 refine qb AA5 rfl ?_;simp only[AA5];simp(disch:=first|omega|simp only[vl];omega) only[AA];refine AL (fun i=>∀j:Nat,j<i→AV 1 100 (AE q j)=true) (fun i=>[LI q,.u,.n i,.u,.u]) q.length (by simp) rfl (fun i hi hP=>?_) (fun hP=>?_)
 ·cases hx:AV 1 100 (AE q i)
  ·simp(disch:=first|omega|simp only[vl];omega) only[AA];repeat(first|(refine AD (Bj (K:=K)) rfl ?_;try simp(disch:=first|omega|simp only[vl];omega) only[AA,hx]))
   simp[Cu,Jf hi hx]
  ·simp(disch:=first|omega|simp only[vl];omega) only[AA];repeat(first|(refine AD (Bj (K:=K)) rfl ?_;try simp(disch:=first|omega|simp only[vl];omega) only[AA,hx]))
   exact CB hP hx
 ·simp(disch:=first|omega|simp only[vl];omega) only[AA];refine AD (Bj (K:=K)) rfl ?_;simp(disch:=first|omega|simp only[vl];omega) only[AA];simp[Cu,I8 hP]
def Ay(q:List Int)(r:Nat):List Int:=(List.range q.length).map fun i=>Ag q r i
def Bb(q:List Int)(k:Nat):List (List Int):=(List.range k).map (Ay q)
theorem Dh{q:List Int}{r:Nat}:(Ay q r).length=q.length:=by simp[Ay]
theorem Ds{q:List Int}{r i:Nat}(h:i<q.length):AE (Ay q r) i=Ag q r i:=by simp[AE,Ay,h]
theorem Hk{q:List Int}{k:Nat}:(Bb q k).length=k:=by simp[Bb]
theorem Io{q:List Int}{k r:Nat}(h:r<k):AG (Bb q k) r=Ay q r:=by simp[AG,Bb,h]
theorem AHC{q:List Int}{k:Nat}:Bb q (k+1)=Bb q k++[Ay q k]:=VP
def Kt(q:List Int)(k:Nat):Prop:=∀r,r<k→∀i,0≤Ag q r i∧Ag q r i≤100000
def LZ(q:List Int):Prop:=∀r,r+3≤q.length→∀i,i<q.length→1≤Ag q (r+1) (i+1)∧0≤Ag q (r+3) i∧Ag q (r+3) i≤100000
theorem ANK{q:List Int}{i:Nat}:Ag q 2 i=qa q i:=by simp[Ag,kq]
theorem GD{q:List Int}:Cu q=true↔(∀x∈q,1≤x∧x≤100)∧3≤q.length∧q.length≤10:=by
 simp only[Cu,AX,Aw,A8];constructor
 ·rintro⟨a,b⟩;exact⟨a,by omega,by omega⟩
 ·rintro⟨a,b,c⟩;exact⟨a,by omega⟩
theorem AVY{q:List Int}{i:Nat}(h:0<q.length):qa q i∈q:=by have:i%q.length<q.length:=Nat.mod_lt _ h;simp only[qa,AE,BH,Al];rw[En this];exact List.getElem_mem _
theorem AE6{q:List Int}(h:Cu q=true):Kt q 3:=by
 obtain⟨h1,h2,h3⟩:=GD.1 h;intro r hr i;obtain rfl|rfl|rfl:r=0∨r=1∨r=2:=by omega
 ·simp[Ag,kq]
 ·simp[Ag,kq]
 ·rw[ANK];have:=h1 _ (AVY (q:=q) (i:=i) (by omega));omega
theorem AC3{q:List Int}:Bb q 3=[List.replicate q.length 0,List.replicate q.length 1,q]:=by
 have e0:Ay q 0=List.replicate q.length 0:=Fw (by simp[Ay]) fun j hj=>by rw[Dh]at hj;rw[Ds hj];simp[Ag,kq,AE,hj]
 have e1:Ay q 1=List.replicate q.length 1:=Fw (by simp[Ay]) fun j hj=>by rw[Dh]at hj;rw[Ds hj];simp[Ag,kq,AE,hj]
 have e2:Ay q 2=q:=Fw (by simp[Ay]) fun j hj=>by rw[Dh]at hj;rw[Ds hj,ANK,qa,Nat.mod_eq_of_lt hj]
 simp[Bb,List.range_succ,e0,e1,e2]
open Classical in
noncomputable def Jj(q:List Int):List (List Int):=if LZ q then Bb q (q.length+1)else []
theorem LA{a b:Int}(ha:0≤a∧a≤100000)(hb:0≤b∧b≤100000):0≤a*b∧a*b≤10000000000:=by refine⟨Int.mul_nonneg ha.1 hb.1,?_⟩;have h1:=Int.mul_le_mul_of_nonneg_right ha.2 hb.1;omega
theorem AdG[HA K]{q:List Int}(h:Cu q=true):K 181 [LI q] [LL (Jj q)]:=by
 obtain⟨h1,h2,h3⟩:=GD.1 h;refine qb XA rfl ?_;simp only[XA];simp(disch:=first|omega|simp only[vl];omega) only[AA];refine Au (fun i (r:List Int)=>r=List.replicate i 1) (fun i r=>[LI q,.u,.n q.length,LI (rep q.length 0),LI r,.n i,.u,.u,.u,.u,.u,.u,.u,.u,.u,.u]) q.length [] rfl rfl (fun i r hi hP=>?_) (fun r hP=>?_)
 ·have hr:r.length=i:=by rw[hP];simp
  simp(disch:=first|omega|simp only[vl];omega) only[AA];refine⟨_,?_,rfl⟩;rw[hP];exact List.replicate_succ'.symm
 ·simp(disch:=first|omega|simp only[vl];omega) only[AA];have e3:[rep (q.length:Int) 0,r,q]=Bb q 3:=by rw[AC3,hP];rfl
  simp(disch:=first|omega|simp only[vl];omega) only[AA,appZ (p:=q) (by omega),AMI,e3];refine Au (fun k (R:List (List Int))=>R=Bb q (k+3)∧Kt q (k+3)∧∀r,r<k→∀i,i<q.length→1≤Ag q (r+1) (i+1)∧0≤Ag q (r+3) i∧Ag q (r+3) i≤100000) (fun k R=>[.u,.u,.n q.length,.u,.u,.u,LL R,.n ((k:Int)+3),.u,.u,.u,.u,.u,.u,.u,.u]) (q.length-2) (Bb q 3) ⟨rfl,AE6 h,by omega⟩ rfl (fun k R hk hR=>?_) (fun R hR=>?_)
  ·obtain⟨hR1,hR2,hR3⟩:=hR;have hRl:R.length=k+3:=by rw[hR1,Hk]
   have ea:AG R ((k:Int)+3-1)=Ay q (k+2):=by rw[show(k:Int)+3-1=((k+2:Nat):Int) by omega,hR1];exact Io (by omega)
   have eb:AG R ((k:Int)+3-2)=Ay q (k+1):=by rw[show(k:Int)+3-2=((k+1:Nat):Int) by omega,hR1];exact Io (by omega)
   have la:(Ay q (k+2)).length=q.length:=Dh;have lb:(Ay q (k+1)).length=q.length:=Dh;simp(disch:=first|omega|simp only[vl];omega) only[AA];refine Au (fun i (r:List Int)=>r=(List.range i).map (fun i=>Ag q (k+3) i)∧∀j,j<i→1≤Ag q (k+1) (j+1)∧0≤Ag q (k+3) j∧Ag q (k+3) j≤100000) (fun i r=>[.u,.u,.n q.length,.u,.u,.u,LL R,.n ((k:Int)+3),LI r,.n i,.u,.u,.u,.u,.u,.u]) q.length [] ⟨rfl,by omega⟩ rfl (fun i r hi hr=>?_) (fun r hr=>?_)
   ·have hrl:r.length=i:=by rw[hr.1];simp
    have em:((i:Int)+1)%(q.length:Int)=((i+1)%q.length:Nat):=by simp[Int.natCast_emod]
    have hm:(i+1)%q.length<q.length:=Nat.mod_lt _ (by omega);have g1:=(hR2 (k+2) (by omega) i);have g2:=(hR2 (k+2) (by omega) (i+1));have g3:=(hR2 (k+1) (by omega) (i+1));have g4:=LA g1 g2;have ru:=P2 (q:=q) (r:=k+1) (i:=i) (by omega);have c1:AE (Ay q (k+2)) (i:Int)=Ag q (k+2) i:=Ds hi;have c2:AE (Ay q (k+2)) ((i+1)%q.length:Nat)=Ag q (k+2) (i+1):=by rw[Ds hm,G2]
    have c3:AE (Ay q (k+1)) ((i+1)%q.length:Nat)=Ag q (k+1) (i+1):=by rw[Ds hm,G2]
    generalize Ag q (k+2) i=x1 at*;generalize Ag q (k+2) (i+1)=x2 at*;have e0:x1*x2-1=Ag q (k+1) (i+1)*Ag q (k+3) i:=by have:Ag q (k+1+2) i=Ag q (k+3) i:=rfl;rw[this]at ru;omega
    by_cases d1:Ag q (k+1) (i+1)<1
    ·simp(disch:=first|omega|simp only[vl];omega) only[AA,ea,eb,em,c1,c2,c3];rw[Jj,if_neg fun q'=>by have:=(q' k (by omega) i hi).1;omega];rfl
    ·have e1:(x1*x2-1).tmod (Ag q (k+1) (i+1))=0:=by rw[e0];exact Int.mul_tmod_right ..
     have e2:(x1*x2-1).tdiv (Ag q (k+1) (i+1))=Ag q (k+3) i:=by rw[e0];exact Int.mul_tdiv_cancel_left _ (by omega)
     have hx:-10000000000≤Ag q (k+3) i∧Ag q (k+3) i≤10000000000:=by
      generalize Ag q (k+1) (i+1)=x at*;generalize Ag q (k+3) i=y at*;have hx1:1≤x:=by omega
      constructor
      ·rcases Int.lt_or_le y 0 with q|q
       ·have:=Int.mul_le_mul_of_nonneg_left (show y≤-1 by omega) (show 0≤x by omega);have h2:=Int.mul_le_mul_of_nonpos_right hx1 (show y≤0 by omega);omega
       ·omega
      ·rcases Int.lt_or_le y 0 with q|q
       ·omega
       ·have:=Int.mul_le_mul_of_nonneg_right hx1 q;omega
     by_cases d2:Ag q (k+3) i<0
     ·simp(disch:=first|omega|simp only[vl];omega) only[AA,ea,eb,em,c1,c2,c3,e1,e2];rw[Jj,if_neg fun q'=>by have:=(q' k (by omega) i hi).2.1;omega];rfl
     ·by_cases d3:100000<Ag q (k+3) i
      ·simp(disch:=first|omega|simp only[vl];omega) only[AA,ea,eb,em,c1,c2,c3,e1,e2];rw[Jj,if_neg fun q'=>by have:=(q' k (by omega) i hi).2.2;omega];rfl
      ·simp(disch:=first|omega|simp only[vl];omega) only[AA,ea,eb,em,c1,c2,c3,e1,e2];refine⟨_,⟨by rw[VP,←hr.1],CB hr.2 (by omega)⟩,rfl⟩
   ·have e4:r=Ay q (k+3):=hr.1;have g3:Kt q (k+4):=by
     intro r hr' i;rcases Bh r (k+3)with q'|q'
     ·exact hR2 r q' i
     ·obtain rfl:r=k+3:=by omega
      have:=hr.2 (i%q.length) (Nat.mod_lt _ (by omega));rw[G2]at this;exact this.2
    simp(disch:=first|omega|simp only[vl];omega) only[AA,Fm,T9];refine⟨_,⟨by rw[e4,hR1];exact AHC.symm,g3,CB hR3 hr.2⟩,rfl⟩
  ·have e4:q.length-2+3=q.length+1:=by omega
   simp(disch:=first|omega|simp only[vl];omega) only[AA];have ho:LZ q:=fun r hr' i hi=>hR.2.2 r (by omega) i hi;rw[Jj,if_pos ho,hR.1,e4]
theorem Ki{q:List Int}(h:Cu q=true)(ho:LZ q):Kt q (q.length+1):=by
 obtain⟨h1,h2,h3⟩:=GD.1 h;intro r hr i;rcases Bh r 3 with q'|q'
 ·exact AE6 h r q' i
 ·have:=ho (r-3) (by omega) (i%q.length) (Nat.mod_lt _ (by omega));rw[show r-3+3=r by omega,G2]at this;exact this.2
def Lu(q:List Int)(r i:Nat):Prop:=(r=q.length→Ag q r i=0)∧(1≤r→r<q.length→1≤Ag q r i∧Ag q r i≤100000)∧(r+1=q.length→Ag q r i=1)
def Et(q:List Int):Prop:=∀r,r<q.length+1→∀i,i<q.length→Lu q r i
theorem Zz{q:List Int}(h:1≤q.length):Et q↔frQ q 100000:=by
 constructor
 ·intro hf i;have hf2:=fun r hr=>hf r hr (i%q.length) (Nat.mod_lt _ (by omega));simp only[Lu,G2]at hf2;exact⟨fun m h1 h2=>(hf2 m (by omega)).2.1 h1 h2,(hf2 (q.length-1) (by omega)).2.2 (by omega),(hf2 q.length (by omega)).1 rfl⟩
 ·intro hf r hr i hi;obtain⟨f1,f2,f3⟩:=hf i;exact⟨fun e=>by rw[e];exact f3,fun a b=>f1 r a b,fun e=>by rw[show r=q.length-1 by omega];exact f2⟩
theorem JN{q:List Int}(h:Cu q=true)(hf:Et q):LZ q:=by
 obtain⟨h1,h2,h3⟩:=GD.1 h;obtain hf2:=(Zz (by omega)).1 hf;intro r hr i hi;refine⟨((hf2 (i+1)).1 (r+1) (by omega) (by omega)).1,?_⟩;by_cases q':r+3=q.length
 ·rw[q',(hf2 i).2.2];omega
 ·have:=(hf2 i).1 (r+3) (by omega) (by omega);omega
theorem AWE[HA K]:K 182 [LL []] [.b false]:=by refine qb N6 rfl ?_;simp only[N6];simp(disch:=first|omega|simp only[vl];omega) only[AA];refine AD (Bj (K:=K)) rfl ?_;simp(disch:=first|omega|simp only[vl];omega) only[AA,show AV 3 10 ((([]:List (List Int)).length:Int)-1)=false from rfl]
open Classical in
theorem AKQ[HA K]{q:List Int}(h:Cu q=true)(ho:LZ q):K 182 [LL (Bb q (q.length+1))] [.b (decide (Et q))]:=by
 obtain⟨h1,h2,h3⟩:=GD.1 h;have hgd:=Ki h ho;have hRl:(Bb q (q.length+1)).length=q.length+1:=Hk;have hat:∀r:Nat,r<q.length+1→AG (Bb q (q.length+1)) r=Ay q r:=fun r hr=>Io hr;generalize Bb q (q.length+1)=R at*;refine qb N6 rfl ?_;simp only[N6];simp(disch:=first|omega|simp only[vl];omega) only[AA];refine AD (Bj (K:=K)) rfl ?_;have hin:AV 3 10 ((R.length:Int)-1)=true:=A8.2 (by omega);have hn1:(R.length:Int)-1=q.length:=by omega
 simp(disch:=first|omega|simp only[vl];omega) only[AA,hin,hn1];rw[hn1]at hin;simp(disch:=first|omega|simp only[vl];omega) only[AA,hin];refine Au (fun r (_:Unit)=>∀r',r' < r→∀i,i<q.length→Lu q r' i) (fun r _=>[LL R,.u,.n q.length,.n r,.u,.u,.u,.u,.u,.u,.u,.u,.u,.u,.u,.u]) (q.length+1) () (by omega) rfl (fun r _ hr hP=>?_) (fun _ hP=>?_)
 ·have hr1:=hat r hr;have hl1:(Ay q r).length=q.length:=Dh;simp(disch:=first|omega|simp only[vl];omega) only[AA,hr1];refine AL (fun i=>∀i',i' < i→Lu q r i') (fun i=>[LL R,.u,.n q.length,.n r,.n i,.u,.u,.u,.u,.u,.u,.u,.u,.u,.u,.u]) q.length (by omega) rfl (fun i hi hQ=>?_) (fun hQ=>?_)
  ·have c1:AE (Ay q r) i=Ag q r i:=Ds hi;have nf:¬Lu q r i→decide (Et q)=false:=fun hn=>decide_eq_false fun hf=>hn (hf r hr i hi);rcases(show r=0∨r=q.length∨1≤r∧r<q.length by omega)with e|e|e
   ·have hx:Ag q r i=0:=by rw[e];rfl
    simp(disch:=first|omega|simp only[vl];omega) only[AA,hr1,c1,hx];exact CB hQ ⟨fun _=>hx,by omega,by omega⟩
   ·by_cases hx:Ag q r i=0
    ·simp(disch:=first|omega|simp only[vl];omega) only[AA,hr1,c1,hx];exact CB hQ ⟨fun _=>hx,by omega,by omega⟩
    ·simp(disch:=first|omega|simp only[vl];omega) only[AA,hr1,c1];rw[nf fun q'=>hx (q'.1 e)]
   ·cases hx:AV 1 100000 (Ag q r i)
    ·simp(disch:=first|omega|simp only[vl];omega) only[AA,hr1,c1];refine AD (Bj (K:=K)) rfl ?_;simp(disch:=first|omega|simp only[vl];omega) only[AA,hx];rw[nf fun q'=>by have:=q'.2.1 e.1 e.2;rw[A8.2 this]at hx;cases hx]
    ·have hx2:=A8.1 hx;rcases(show r=1∨r+1=q.length∧1<r∨1<r∧r+1<q.length by omega)with e1|e1|e1
     ·have hx3:Ag q r i=1:=by rw[e1];rfl
      simp(disch:=first|omega|simp only[vl];omega) only[AA,hr1,c1];refine AD (Bj (K:=K)) rfl ?_;simp(disch:=first|omega|simp only[vl];omega) only[AA,hx,hr1,c1];exact CB hQ ⟨by omega,fun _ _=>hx2,fun _=>hx3⟩
     ·by_cases hx3:Ag q r i=1
      ·simp(disch:=first|omega|simp only[vl];omega) only[AA,hr1,c1];refine AD (Bj (K:=K)) rfl ?_;simp(disch:=first|omega|simp only[vl];omega) only[AA,hx,hr1,c1];exact CB hQ ⟨by omega,fun _ _=>hx2,fun _=>hx3⟩
      ·simp(disch:=first|omega|simp only[vl];omega) only[AA,hr1,c1];refine AD (Bj (K:=K)) rfl ?_;simp(disch:=first|omega|simp only[vl];omega) only[AA,hx,hr1,c1];rw[nf fun q'=>hx3 (q'.2.2 e1.1)]
     ·simp(disch:=first|omega|simp only[vl];omega) only[AA,hr1,c1];refine AD (Bj (K:=K)) rfl ?_;simp(disch:=first|omega|simp only[vl];omega) only[AA,hx,hr1,c1];exact CB hQ ⟨by omega,fun _ _=>hx2,by omega⟩
  ·simp(disch:=first|omega|simp only[vl];omega) only[AA];exact⟨(),CB hP hQ⟩
 ·have hf:decide (Et q)=true:=decide_eq_true hP;simp(disch:=first|omega|simp only[vl];omega) only[AA];refine AL (fun _=>True) (fun r=>[LL R,.u,.n q.length,.u,.u,.u,.n ((r:Int)+1),.u,.u,.u,.u,.u,.u,.u,.u,.u]) (q.length-1) trivial rfl (fun r hr _=>?_) (fun _=>?_)
  ·simp(disch:=first|omega|simp only[vl];omega) only[AA];refine AL (fun _=>True) (fun i=>[LL R,.u,.n q.length,.u,.u,.u,.n ((r:Int)+1),.n i,.u,.u,.u,.u,.u,.u,.u,.u]) q.length trivial rfl (fun i hi _=>?_) (fun _=>?_)
   ·have r1:AG R ((r:Int)+1)=Ay q (r+1):=hat (r+1) (by omega);have r0:AG R ((r:Int)+1-1)=Ay q r:=by rw[show(r:Int)+1-1=r by omega];exact hat r (by omega)
    have r2:AG R ((r:Int)+1+1)=Ay q (r+2):=hat (r+2) (by omega);have l0:(Ay q r).length=q.length:=Dh;have l1:(Ay q (r+1)).length=q.length:=Dh;have l2:(Ay q (r+2)).length=q.length:=Dh;have em:((i:Int)+1)%(q.length:Int)=((i+1)%q.length:Nat):=by simp[Int.natCast_emod]
    have hm:(i+1)%q.length<q.length:=Nat.mod_lt _ (by omega);have c1:AE (Ay q (r+1)) i=Ag q (r+1) i:=Ds hi;have c2:AE (Ay q (r+1)) ((i+1)%q.length:Nat)=Ag q (r+1) (i+1):=by rw[Ds hm,G2]
    have c3:AE (Ay q r) ((i+1)%q.length:Nat)=Ag q r (i+1):=by rw[Ds hm,G2]
    have c4:AE (Ay q (r+2)) i=Ag q (r+2) i:=Ds hi;have ru:=P2 (q:=q) (r:=r) (i:=i) (by omega);have m1:=LA (hgd (r+1) (by omega) i) (hgd (r+1) (by omega) (i+1));have m2:=LA (hgd r (by omega) (i+1)) (hgd (r+2) (by omega) i);simp(disch:=first|omega|simp only[vl];omega) only[AA,r1,r0,r2,em,c1,c2,c3,c4]
   ·simp(disch:=first|omega|simp only[vl];omega) only[AA]
  ·simp(disch:=first|omega|simp only[vl];omega) only[AA];rw[hf]
open Classical in
noncomputable def F0(q:List Int):List (List Int):=if Cu q=true∧Et q then Bb q (q.length+1)else []
open Classical in
noncomputable def Eh(q:List Int):Bool:=decide (Cu q=true∧Et q)
theorem ff_s[HA K]{q:List Int}(h:q.length≤1048576):K 136 [LI q] [LL (F0 q),.b (Eh q)]:=by
 refine qb AOJ rfl ?_;simp only[AOJ];simp(disch:=first|omega|simp only[vl];omega) only[AA];refine AD (Ad7 (K:=K) h) rfl ?_
 cases hz:Cu q
 ·simp(disch:=first|omega|simp only[vl];omega) only[AA];simp[F0,Eh,hz,LL]
 ·simp(disch:=first|omega|simp only[vl];omega) only[AA];refine AD (AdG (K:=K) hz) rfl ?_;simp(disch:=first|omega|simp only[vl];omega) only[AA];by_cases ho:LZ q
  ·rw[Jj,if_pos ho];refine AD (AKQ (K:=K) hz ho) rfl ?_;by_cases hf:Et q
   ·simp only[hf,decide_true];simp(disch:=first|omega|simp only[vl];omega) only[AA];simp[F0,Eh,hz,hf]
   ·simp only[hf,decide_false];simp(disch:=first|omega|simp only[vl];omega) only[AA];simp[F0,Eh,hz,hf,LL]
  ·rw[Jj,if_neg ho];refine AD (AWE (K:=K)) rfl ?_;have hf:¬Et q:=fun hf=>ho (JN hz hf);simp(disch:=first|omega|simp only[vl];omega) only[AA];simp[F0,Eh,hz,hf,LL]
def EE(R:List (List Int)):Int:=(R.map List.sum).sum
theorem AQJ{l:List Int}{i:Nat}(h:i<l.length):(l.take (i+1)).sum=(l.take i).sum+AE l i:=by rw[CU h,List.sum_append];simp[AE,h]
theorem ZU{R:List (List Int)}{i:Nat}(h:i<R.length):EE (R.take (i+1))=EE (R.take i)+(AG R i).sum:=by rw[CU h,EE,List.map_append,List.sum_append];simp[EE,AG,h]
theorem AIX{l:List Int}{M:Int}(h:∀x∈l,0≤x∧x≤M):0≤l.sum∧l.sum≤M*l.length:=by
 induction l with
 |nil=>simp
 |cons a l ih=>
  have i1:=ih fun x hx=>h x (BK _ hx)
  have i2:=h a (List.mem_cons_self ..)
  simp only[List.sum_cons,AY]
  have e:M*((l.length+1:Nat):Int)=M*l.length+M:=by push_cast;rw[Int.mul_add,Int.mul_one]
  rw[e]
  omega
def NC(R:List (List Int)):Prop:=R.length≤11∧∀r∈R,r.length≤10∧∀x∈r,0≤x∧x≤100000
theorem TV{r:List Int}(h:r.length≤10∧∀x∈r,0≤x∧x≤100000):0≤r.sum∧r.sum≤1000000:=by have:=AIX h.2;omega
theorem VO{R:List (List Int)}(h:NC R)(i:Nat):0≤EE (R.take i)∧EE (R.take i)≤11000000:=by
 have:=AIX (l:=(R.take i).map List.sum) (M:=1000000) fun x hx=>by obtain⟨r,hr,rfl⟩:=List.mem_map.1 hx;exact TV (h.2 r (List.mem_of_mem_take hr))
 have hl:=h.1;simp only[List.length_map,List.length_take]at this;have e:EE (R.take i)=((R.take i).map List.sum).sum:=rfl;omega
theorem Wz{m:List (List Int)}{i:Nat}(h:i<m.length):AG m i∈m:=by simp[AG,h]
theorem No{m:List Int}{i:Nat}(h:i<m.length):AE m i∈m:=by simp[AE,h]
theorem AXC[HA K]{R:List (List Int)}(h:NC R)(hf:K 182 [LL R] [.b true]):K 139 [LL R] [.n (EE R)]:=by
 have hl:=h.1;refine qb AQB rfl ?_;simp only[AQB];simp(disch:=first|omega|simp only[vl];omega) only[AA];refine AD (hf) rfl ?_;simp(disch:=first|omega|simp only[vl];omega) only[AA];refine Au (fun r (x:Int)=>x=EE (R.take r)) (fun r x=>[LL R,.u,.n x,.n r,.u,.u,.u,.u]) R.length 0 rfl rfl (fun r x hr hP=>?_) (fun x hP=>?_)
 ·have hm:=h.2 _ (Wz hr);have hs:=ZU hr;have b0:=VO h r;simp(disch:=first|omega|simp only[vl];omega) only[AA];refine Au (fun i (y:Int)=>y=x+((AG R r).take i).sum) (fun i y=>[LL R,.u,.n y,.n r,.n i,.u,.u,.u]) (AG R r).length x (by simp) rfl (fun i y hi hQ=>?_) (fun y hQ=>?_)
  ·have ht:=AQJ hi;have b1:=TV (r:=(AG R r).take i) ⟨by simp;omega,fun x hx=>hm.2 x (List.mem_of_mem_take hx)⟩;have b2:=hm.2 _ (No hi);simp(disch:=first|omega|simp only[vl];omega) only[AA];refine⟨_,?_,rfl⟩;rw[ht,hQ];omega
  ·rw[List.take_of_length_le (by omega)]at hQ;simp(disch:=first|omega|simp only[vl];omega) only[AA];refine⟨_,?_,rfl⟩;rw[hs,hQ,hP]
 ·simp(disch:=first|omega|simp only[vl];omega) only[AA];rw[hP,List.take_of_length_le (by omega)]
end Go.Cat
