/-
 Gaussian binomials of the reference; Catalan polynomials.
-/
import Derived.Test.YthoilpmggmenbaaGreatQd0LawReports
import Derived.Test.YthoilpmggmenbaaGreatQd1LawReports
import Derived.Test.YthoilpmggmenbaaGreatQd2LawReports
import Derived.Test.YthoilpmggmenbaaGreatQd3LawReports
import Derived.Test.YthoilpmggmenbaaGreatPfPolyD
set_option linter.unusedSimpArgs false
set_option linter.unusedVariables false
namespace Go.Cat
set_option maxRecDepth 100000
variable{K:Nat→List D→List D→Prop}
def DL(m k:Nat):List (List Int):=(List.range (min m k+1)).map (gs m)
theorem PZ{m k:Nat}:(DL m k).length=min m k+1:=by simp[DL]
theorem RR{m k j:Nat}(h:j≤min m k):AG (DL m k) j=gs m j:=by
 have:j<min m k+1:=by omega
 simp[DL,AG,this]
theorem AXL:D.l []=LL []:=rfl
theorem Ue{a b:List (List Int)}(h:a.length+b.length≤1099511627776):EB false (LL a) (LL b)=some (LL (a++b)):=Ii ⟨h,rfl⟩
theorem ASK{m k j:Nat}(h:j≤min m k):(DL m k).take (j+1)=(DL m k).take j++[gs m j]:=by have hl:=PZ (m:=m) (k:=k);rw[CU (by omega)];simp[DL]
set_option maxHeartbeats 2000000 in
theorem AUX[HA K]{n k:Nat}(hn:n≤14)(hk:k≤n):K 467 [.n n,.n k] [LI (gs n k)]:=by
 refine qb AIL rfl ?_;simp only[AIL];have e00:DL 0 k=[[1]]:=by simp[DL,P4 (n:=0) (by omega)]
 simp(disch:=first|omega|simp only[vl];omega) only[AA,Lo,Fm];refine AL (fun _=>True) (fun i=>[.n n,.n k,.u,LL (DL i k),.n ((i:Int)+1),.u,.u,.u,.u,.u,.u,.u,.u,.u,.u,.u]) n trivial (by rw[e00];rfl) (fun i hi _=>?_) (fun _=>?_)
 ·have hl:=PZ (m:=i) (k:=k);have hl1:=PZ (m:=i+1) (k:=k);have hmn:min ((i:Int)+1) (k:Int)=((min (i+1) k:Nat):Int):=by omega
  simp(disch:=first|omega|simp only[vl];omega) only[AA,AXL];refine AL (fun _=>True) (fun j=>[.n n,.n k,.u,LL (DL i k),.n ((i:Int)+1),LL ((DL (i+1) k).take j),.n j,.u,.u,.u,.u,.u,.u,.u,.u,.u]) (min (i+1) k+1) trivial (by simp) (fun j hj _=>?_) (fun _=>?_)
  ·have ht:((DL (i+1) k).take j).length=j:=by simp;omega
   have ht1:=ASK (m:=i+1) (k:=k) (j:=j) (by omega);have hlen:=Gh (n:=i+1) (k:=j) (by omega) (by omega);have hm:=PW (n:=i+1) (k:=j) (by omega) (by omega);obtain⟨M,hM⟩:∃M,M=j*(i+1-j):=⟨_,rfl⟩;have e1:((j:Int)*((i:Int)+1-j))=(M:Nat):=by rw[hM,show(i:Int)+1-j=((i+1-j:Nat):Int) by omega];exact(Int.natCast_mul _ _).symm
   have b1:=fun(q:j≤i)=>Q1 (n:=i) (k:=j) (by omega) q;have b2:=fun(q:0<j)=>Q1 (n:=i) (k:=j-1) (by omega) (by omega);have l1:=fun(q:j≤i)=>Gh (n:=i) (k:=j) (by omega) q;have l2:=fun(q:0<j)=>Gh (n:=i) (k:=j-1) (by omega) (by omega);have f3:j≤i→j*(i+1-j)=j*(i-j)+j:=by intro q;rw[show i+1-j=(i-j)+1 by omega,Nat.mul_succ]
   have f2:0<j→(j-1)*(i-(j-1))+(i+1-j)=j*(i+1-j):=by intro q;obtain⟨c,rfl⟩:∃c,j=c+1:=⟨j-1,by omega⟩;rw[Nat.add_sub_cancel,Nat.succ_mul,show i+1-(c+1)=i-c by omega]
   have r:=fun(q:0<j)(q2:j≤i)=>ALC (m:=i) (k:=j) (by omega) q q2;have z0:j=0→gs (i+1) j=[1]∧gs i j=[1]:=by intro q;subst q;exact⟨P4 (by omega),P4 (by omega)⟩
   have zn:j=i+1→gs (i+1) j=[1]∧gs i (j-1)=[1]:=by intro q;subst q;exact⟨Um (by omega),by rw[Nat.add_sub_cancel];exact Um (by omega)⟩
   obtain⟨L,hL⟩:∃L,L=j*(i+1-j)+1:=⟨_,rfl⟩;have e2:((M:Nat):Int)+1=(L:Nat):=by omega
   have at1:j≤i→AG (DL i k) j=gs i j:=fun q=>RR (by omega);have at2:0<j→AG (DL i k) ((j:Int)-1)=gs i (j-1):=fun q=>by rw[show(j:Int)-1=((j-1:Nat):Int) by omega];exact RR (by omega)
   have whole:∀(o:List Int),o.length=L→(∀t:Nat,t<L→AE o t=(if j≤i then AE (gs i j) t else 0)+(if 0<j∧i+1-j≤t then AE (gs i (j-1)) ((t-(i+1-j):Nat):Int)else 0))→o=gs (i+1) j:=by
    intro o h1 h2;refine Fw (by omega) fun t h3=>?_;rw[h2 t (by omega)];by_cases q:j=0
    ·have z:=z0 q;rw[if_pos (by omega),if_neg (by omega),z.1,z.2];omega
    ·by_cases q2:j=i+1
     ·have z:=zn q2;have hL1:L=1:=by rw[hL,q2];simp
      have:t=0:=by omega
      subst this;rw[if_neg (by omega),if_pos (by omega),z.1,z.2];simp[AE]
     ·have:=r (by omega) (by omega) t;rw[LJ]at this;rw[if_pos (by omega),←this];by_cases q3:i+1-j≤t
      ·rw[if_pos ⟨by omega,q3⟩,if_pos q3]
      ·rw[if_neg (fun q=>q3 q.2),if_neg q3]
   rw[ht1];simp(disch:=first|omega|simp only[vl];omega) only[AA,hmn,e1,e2];by_cases hji:j≤i
   ·have k1:=l1 hji;have c1:=b1 hji;have a1:=at1 hji;have k3:=f3 hji;simp(disch:=first|omega|simp only[vl];omega) only[AA];refine Au (fun t (o:List Int)=>o.length=L∧∀u:Nat,u<L→AE o u=if u<t then AE (gs i j) u else 0) (fun t o=>[.n n,.n k,.u,LL (DL i k),.n ((i:Int)+1),LL ((DL (i+1) k).take j),.n j,LI o,.n t,.u,.u,.u,.u,.u,.u,.u]) (gs i j).length (rep (L:Nat) 0) ⟨by simp[rep],fun u hu=>by simp[AE,rep,hu]⟩ rfl (fun t o ht hP=>?_) (fun o hP=>?_)
    ·obtain⟨g1,g2⟩:=hP;have g3:=g2 t (by omega);rw[if_neg (by omega)]at g3;have c2:=c1 t;simp(disch:=first|omega|simp only[vl];omega) only[AA,a1,g3];refine⟨_,⟨by rw[Cv,g1],fun u hu=>?_⟩,rfl⟩;rw[GX (by omega)];by_cases q:t=u
     ·subst q;rw[if_pos rfl,if_pos (by omega)];omega
     ·rw[if_neg q,g2 u hu];by_cases q2:u<t
      ·rw[if_pos q2,if_pos (by omega)]
      ·rw[if_neg q2,if_neg (by omega)]
    ·obtain⟨g1,g2⟩:=hP;have g2:∀u:Nat,u<L→AE o u=AE (gs i j) u:=by
      intro u hu;rw[g2 u hu];by_cases q:u<(gs i j).length
      ·rw[if_pos q]
      ·rw[if_neg q];exact(J2 (by omega)).symm
     simp(disch:=first|omega|simp only[vl];omega) only[AA,a1];by_cases hj0:0<j
     ·have k2:=l2 hj0;have d2:=b2 hj0;have a2:=at2 hj0;have k4:=f2 hj0;simp(disch:=first|omega|simp only[vl];omega) only[AA];refine Au (fun t (o:List Int)=>o.length=L∧∀u:Nat,u<L→AE o u=AE (gs i j) u+(if i+1-j≤u∧u<i+1-j+t then AE (gs i (j-1)) ((u-(i+1-j):Nat):Int)else 0)) (fun t o=>[.n n,.n k,.u,LL (DL i k),.n ((i:Int)+1),LL ((DL (i+1) k).take j),.n j,LI o,.u,.n t,.u,.u,.u,.u,.u,.u]) (gs i (j-1)).length o ⟨g1,fun u hu=>by rw[g2 u hu,if_neg (by omega)];omega⟩ rfl (fun t o ht hP=>?_) (fun o hP=>?_)
      ·obtain⟨g1,g2⟩:=hP;have ei:(t:Int)+((i:Int)+1)-(j:Int)=((i+1-j+t:Nat):Int):=by omega
       have g3:=g2 (i+1-j+t) (by omega);rw[if_neg (by omega)]at g3;have c2:=c1 (i+1-j+t);have d3:=d2 t;simp(disch:=first|omega|simp only[vl];omega) only[AA,a2,ei];refine⟨_,⟨by rw[Cv,g1],fun u hu=>?_⟩,rfl⟩;rw[GX (by omega)];by_cases q:i+1-j+t=u
       ·subst q;rw[if_pos rfl,if_pos (by omega),g3,show i+1-j+t-(i+1-j)=t by omega];omega
       ·rw[if_neg q,g2 u hu];by_cases q2:i+1-j≤u∧u<i+1-j+t
        ·rw[if_pos q2,if_pos (by omega)]
        ·rw[if_neg q2,if_neg (by omega)]
      ·obtain⟨g1,g2⟩:=hP;have eo:=whole o g1 fun u hu=>by
        rw[g2 u hu,if_pos hji];by_cases q:i+1-j≤u
        ·rw[if_pos ⟨q,by omega⟩,if_pos ⟨hj0,q⟩]
        ·rw[if_neg (by omega),if_neg (by omega)]
       subst eo;simp(disch:=first|omega|simp only[vl];omega) only[AA,a2,Fm,Ue]
     ·have eo:=whole o g1 fun u hu=>by
       rw[g2 u hu,if_pos hji,if_neg (by omega)];omega
      subst eo
      simp(disch:=first|omega|simp only[vl];omega) only[AA,Fm,Ue]
   ·have hj0:0<j:=by omega
    have k2:=l2 hj0;have d2:=b2 hj0;have a2:=at2 hj0;have k4:=f2 hj0;simp(disch:=first|omega|simp only[vl];omega) only[AA];refine Au (fun t (o:List Int)=>o.length=L∧∀u:Nat,u<L→AE o u=(if i+1-j≤u∧u<i+1-j+t then AE (gs i (j-1)) ((u-(i+1-j):Nat):Int)else 0)) (fun t o=>[.n n,.n k,.u,LL (DL i k),.n ((i:Int)+1),LL ((DL (i+1) k).take j),.n j,LI o,.u,.n t,.u,.u,.u,.u,.u,.u]) (gs i (j-1)).length (rep (L:Nat) 0) ⟨by simp[rep],fun u hu=>by rw[if_neg (by omega)];simp[AE,rep,hu]⟩ rfl (fun t o ht hP=>?_) (fun o hP=>?_)
    ·obtain⟨g1,g2⟩:=hP;have ei:(t:Int)+((i:Int)+1)-(j:Int)=((i+1-j+t:Nat):Int):=by omega
     have g3:=g2 (i+1-j+t) (by omega);rw[if_neg (by omega)]at g3;have d3:=d2 t;simp(disch:=first|omega|simp only[vl];omega) only[AA,a2,ei,g3];refine⟨_,⟨by rw[Cv,g1],fun u hu=>?_⟩,rfl⟩;rw[GX (by omega)];by_cases q:i+1-j+t=u
     ·subst q;rw[if_pos rfl,if_pos (by omega),show i+1-j+t-(i+1-j)=t by omega];omega
     ·rw[if_neg q,g2 u hu];by_cases q2:i+1-j≤u∧u<i+1-j+t
      ·rw[if_pos q2,if_pos (by omega)]
      ·rw[if_neg q2,if_neg (by omega)]
    ·obtain⟨g1,g2⟩:=hP;have eo:=whole o g1 fun u hu=>by
      rw[g2 u hu,if_neg hji];by_cases q:i+1-j≤u
      ·rw[if_pos ⟨q,by omega⟩,if_pos ⟨hj0,q⟩];omega
      ·rw[if_neg (by omega),if_neg (by omega)];omega
     subst eo;simp(disch:=first|omega|simp only[vl];omega) only[AA,a2,Fm,Ue]
  ·have e:(DL (i+1) k).take (min (i+1) k+1)=DL (i+1) k:=List.take_of_length_le (by omega);rw[e];simp(disch:=first|omega|simp only[vl];omega) only[AA,hmn]
 ·have hl:=PZ (m:=n) (k:=k);have e:=RR (m:=n) (k:=k) (j:=k) (by omega);simp(disch:=first|omega|simp only[vl];omega) only[AA,e]
def Jp(n k:Int):Bool:=AV 0 14 n&&AV 0 n k
def Lj(n k:Int):List Int:=if Jp n k=true then gs n.toNat k.toNat else []
theorem AZV[HA K]{n k:Int}:K 412 [.n n,.n k] [LI (Lj n k),.b (Jp n k)]:=by
 refine qb AF4 rfl ?_;simp only[AF4];simp(disch:=first|omega|simp only[vl];omega) only[AA];refine AD (CK (K:=K)) rfl ?_
 cases h1:AV 0 14 n
 ·simp(disch:=first|omega|simp only[vl];omega) only[AA,D8];simp[Lj,Jp,h1]
 ·simp(disch:=first|omega|simp only[vl];omega) only[AA];refine AD (CK (K:=K)) rfl ?_
  cases h2:AV 0 n k
  ·simp(disch:=first|omega|simp only[vl];omega) only[AA,D8];simp[Lj,Jp,h2]
  ·have b1:=A8.1 h1;have b2:=A8.1 h2;obtain⟨m,rfl⟩:=Cd b1.1;obtain⟨c,rfl⟩:=Cd b2.1;simp(disch:=first|omega|simp only[vl];omega) only[AA];refine AD (VU (K:=K) m c (by omega) (by omega)) rfl ?_;simp(disch:=first|omega|simp only[vl];omega) only[AA];simp[Lj,Jp,h1,h2]
def BE(n:Int):List Int:=if AV 0 7 n=true then M9.getD n.toNat []else []
theorem cp0:BO 8 (fun n=>match ID (gs (2*n) n) (rep ((n+1:Nat):Int) 1)with|some x=>decide (x.1=M9.getD n [])|none=>false)=true:=by kernel_rfl
theorem cp1:BO 8 (fun n=>decide (CV (Gy (rep ((n+1:Nat):Int) 1) (B8 (gs (2*n) n) (rep ((n+1:Nat):Int) 1)) (gs (2*n) n,rep (B8 (gs (2*n) n) (rep ((n+1:Nat):Int) 1):Nat) 0)).2=M9.getD n []))=true:=by kernel_rfl
theorem ALZ[HA K]{n:Int}:K 408 [.n n] [LI (BE n),.b (AV 0 7 n)]:=by
 refine qb AMR rfl ?_;simp only[AMR];simp(disch:=first|omega|simp only[vl];omega) only[AA];refine AD (CK (K:=K)) rfl ?_
 cases h1:AV 0 7 n
 ·simp(disch:=first|omega|simp only[vl];omega) only[AA,D8];simp[BE,h1]
 ·have b1:=A8.1 h1;obtain⟨m,rfl⟩:=Cd b1.1;have t1:(2*(m:Int)).toNat=2*m:=by omega
  have kb:=AZV (K:=K) (n:=2*(m:Int)) (k:=m);have o1:Jp (2*(m:Int)) m=true:=by simp only[Jp,AX];exact⟨A8.2 (by omega),A8.2 (by omega)⟩
  have r1:Lj (2*(m:Int)) m=gs (2*m) m:=by simp only[Lj,o1,if_true,BH,t1]
  rw[o1,r1]at kb;have kn:=np_i (K:=K) (n:=(m:Int)+1);have o2:Me ((m:Int)+1)=true:=A8.2 (by omega);have r2:NG ((m:Int)+1)=rep ((m+1:Nat):Int) 1:=by simp only[NG,o2,if_true];rfl
  rw[o2,r2]at kn;have hl:=Gh (n:=2*m) (k:=m) (by omega) (by omega);have hm:=PW (n:=2*m) (k:=m) (by omega) (by omega);have hr:(rep ((m+1:Nat):Int) (1:Int)).length=m+1:=by rw[JE];omega
  have kd:=dv_i (K:=K) (a:=gs (2*m) m) (b:=rep ((m+1:Nat):Int) 1) (by omega) (by omega);have c:=BQ cp0 m (by omega)
  cases hq:ID (gs (2*m) m) (rep ((m+1:Nat):Int) 1)with
  |none=>rw[hq]at c;cases c
  |some y=>
   rw[hq]at kd c
   simp only[Aj]at c
   have e3:BE (m:Int)=y.1:=by simp only[BE,h1,if_true,BH,c]
   rw[e3]
   simp(disch:=first|omega|simp only[vl];omega) only[AA]
   refine AD (kb) rfl ?_
   simp(disch:=first|omega|simp only[vl];omega) only[AA]
   refine AD (kn) rfl ?_
   simp(disch:=first|omega|simp only[vl];omega) only[AA]
   refine AD (kd) rfl ?_
   simp(disch:=first|omega|simp only[vl];omega) only[AA]
theorem WC[HA K]{n:Int}:K 425 [.n n] [LI (BE n),.b (AV 0 7 n)]:=by
 refine qb ZO rfl ?_;simp only[ZO];simp(disch:=first|omega|simp only[vl];omega) only[AA];refine AD (Bj (K:=K)) rfl ?_
 cases h1:AV 0 7 n
 ·simp(disch:=first|omega|simp only[vl];omega) only[AA,D8];simp[BE,h1]
 ·have b1:=A8.1 h1;obtain⟨m,rfl⟩:=Cd b1.1;have kb:=AUX (K:=K) (n:=2*m) (k:=m) (by omega) (by omega);have kn:=ARH (K:=K) (n:=m+1) (by omega);rw[show((2*m:Nat):Int)=2*(m:Int) by omega]at kb;rw[show((m+1:Nat):Int)=(m:Int)+1 by omega]at kn;have hl:=Gh (n:=2*m) (k:=m) (by omega) (by omega);have hm:=PW (n:=2*m) (k:=m) (by omega) (by omega);have hr:(rep ((m+1:Nat):Int) (1:Int)).length=m+1:=by rw[JE];omega
  have kd:=VA (K:=K) (a:=gs (2*m) m) (b:=rep ((m+1:Nat):Int) 1) (by omega) (by omega) (by omega);have c:=BQ cp1 m (by omega);simp only[Aj]at c;have e3:BE (m:Int)=M9.getD m []:=by simp only[BE,h1,if_true,BH]
  rw[e3,←c];simp(disch:=first|omega|simp only[vl];omega) only[AA];refine AD (kb) rfl ?_;simp(disch:=first|omega|simp only[vl];omega) only[AA];refine AD (kn) rfl ?_;simp(disch:=first|omega|simp only[vl];omega) only[AA];refine AD (kd) rfl ?_;simp(disch:=first|omega|simp only[vl];omega) only[AA]
end Go.Cat
