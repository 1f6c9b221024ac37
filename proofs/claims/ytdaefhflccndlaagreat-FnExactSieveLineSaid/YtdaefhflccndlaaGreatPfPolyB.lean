/-
 Gaussian binomials of the reference; Catalan polynomials.
-/
import Derived.Test.YtdaefhflccndlaaGreatPfPolyG
set_option linter.unusedSimpArgs false
set_option linter.unusedVariables false
namespace Go.Cat
set_option maxRecDepth 100000
variable {K:Nat→List D→List D→Prop}
def gsR (m k:Nat):List (List Int):=(List.range (min m k+1)).map (gs m)
theorem gsR_len {m k:Nat}:(gsR m k).length=min m k+1:=by simp [gsR]
theorem gsR_at {m k j:Nat} (h:j≤min m k):atL (gsR m k) j=gs m j:=by
 have:j<min m k+1:=by omega
 simp [gsR,atL,this]
theorem LL_nilG:D.l []=LL []:=rfl
theorem LL_appG {a b:List (List Int)} (h:a.length+b.length≤1099511627776):appD false (LL a) (LL b)=some (LL (a++b)):=LL_app ⟨h,rfl⟩
theorem gsR_take {m k j:Nat} (h:j≤min m k):(gsR m k).take (j+1)=(gsR m k).take j++[gs m j]:=by
 have hl:=gsR_len (m:=m) (k:=k)
 rw [qta (by omega)]
 simp [gsR]
set_option maxHeartbeats 2000000 in
theorem l14b_s [HA K] {n k:Nat} (hn:n≤14) (hk:k≤n):K 467 [.n n,.n k] [LI (gs n k)]:=by
 refine body_by (f:=ir_spec_l14Binomial) rfl ?_; simp only [ir_spec_l14Binomial,zn,zs,zq,zi,zg,zp]
 have e00:gsR 0 k=[[1]]:=by simp [gsR,gs_0 (n:=0) (by omega)]
 simp (disch:=first|omega|simp only[vl];omega) only [vcd,li_1,ll_1]
 refine loop_ix (fun _=>True) (fun i=>[.n n,.n k,.u,LL (gsR i k),.n ((i:Int)+1),.u,.u,.u,.u,.u,.u,.u,.u,.u,.u,.u]) n trivial (by rw [e00]; rfl) (fun i hi _=>?_) (fun _=>?_)
 ·have hl:=gsR_len (m:=i) (k:=k)
  have hl1:=gsR_len (m:=i+1) (k:=k)
  have hmn:min ((i:Int)+1) (k:Int)=((min (i+1) k:Nat):Int):=by omega
  simp (disch:=first|omega|simp only[vl];omega) only [vcd,LL_nilG]
  refine loop_ix (fun _=>True) (fun j=>[.n n,.n k,.u,LL (gsR i k),.n ((i:Int)+1),LL ((gsR (i+1) k).take j),.n j,.u,.u,.u,.u,.u,.u,.u,.u,.u]) (min (i+1) k+1) trivial (by simp) (fun j hj _=>?_) (fun _=>?_)
  ·have ht:((gsR (i+1) k).take j).length=j:=by simp; omega
   have ht1:=gsR_take (m:=i+1) (k:=k) (j:=j) (by omega)
   have hlen:=gs_len (n:=i+1) (k:=j) (by omega) (by omega)
   have hm:=mul_49 (n:=i+1) (k:=j) (by omega) (by omega)
   obtain ⟨M,hM⟩:∃ M,M=j*(i+1-j):=⟨_,rfl⟩
   have e1:((j:Int)*((i:Int)+1-j))=(M:Nat):=by
    rw [hM,show (i:Int)+1-j=((i+1-j:Nat):Int) by omega]; exact (Int.natCast_mul _ _).symm
   have b1:=fun (q:j≤i)=>gs_bd (n:=i) (k:=j) (by omega) q
   have b2:=fun (q:0<j)=>gs_bd (n:=i) (k:=j-1) (by omega) (by omega)
   have l1:=fun (q:j≤i)=>gs_len (n:=i) (k:=j) (by omega) q
   have l2:=fun (q:0<j)=>gs_len (n:=i) (k:=j-1) (by omega) (by omega)
   have f3:j≤i→j*(i+1-j)=j*(i-j)+j:=by
    intro q
    rw [show i+1-j=(i-j)+1 by omega,Nat.mul_succ]
   have f2:0<j→(j-1)*(i-(j-1))+(i+1-j)=j*(i+1-j):=by
    intro q
    obtain ⟨c,rfl⟩:∃ c,j=c+1:=⟨j-1,by omega⟩
    rw [Nat.add_sub_cancel,Nat.succ_mul,show i+1-(c+1)=i-c by omega]
   have r:=fun (q:0<j) (q2:j≤i)=>gs_rec (m:=i) (k:=j) (by omega) q q2
   have z0:j=0→gs (i+1) j=[1]∧gs i j=[1]:=by
    intro q; subst q; exact ⟨gs_0 (by omega),gs_0 (by omega)⟩
   have zn:j=i+1→gs (i+1) j=[1]∧gs i (j-1)=[1]:=by
    intro q; subst q; exact ⟨gs_n (by omega),by rw [Nat.add_sub_cancel]; exact gs_n (by omega)⟩
   obtain ⟨L,hL⟩:∃ L,L=j*(i+1-j)+1:=⟨_,rfl⟩
   have e2:((M:Nat):Int)+1=(L:Nat):=by omega
   have at1:j≤i→atL (gsR i k) j=gs i j:=fun q=>gsR_at (by omega)
   have at2:0<j→atL (gsR i k) ((j:Int)-1)=gs i (j-1):=fun q=>by
    rw [show (j:Int)-1=((j-1:Nat):Int) by omega]; exact gsR_at (by omega)
   have whole:∀ (o:List Int),o.length=L→(∀ t:Nat,t<L→atI o t=(if j≤i then atI (gs i j) t else 0)+(if 0<j∧i+1-j≤t then atI (gs i (j-1)) ((t-(i+1-j):Nat):Int) else 0))→o=gs (i+1) j:=by
    intro o h1 h2
    refine extI (by omega) fun t h3=>?_
    rw [h2 t (by omega)]
    by_cases q:j=0
    ·have z:=z0 q
     rw [if_pos (by omega),if_neg (by omega),z.1,z.2]; omega
    ·by_cases q2:j=i+1
     ·have z:=zn q2
      have hL1:L=1:=by rw [hL,q2]; simp
      have:t=0:=by omega
      subst this
      rw [if_neg (by omega),if_pos (by omega),z.1,z.2]
      simp [atI]
     ·have:=r (by omega) (by omega) t
      rw [adS] at this
      rw [if_pos (by omega),← this]
      by_cases q3:i+1-j≤t
      ·rw [if_pos ⟨by omega,q3⟩,if_pos q3]
      ·rw [if_neg (fun q=>q3 q.2),if_neg q3]
   rw [ht1]
   simp (disch:=first|omega|simp only[vl];omega) only [vcd,hmn,e1,e2]
   by_cases hji:j≤i
   ·have k1:=l1 hji
    have c1:=b1 hji
    have a1:=at1 hji
    have k3:=f3 hji
    simp (disch:=first|omega|simp only[vl];omega) only [vcd]
    refine loop_up (fun t (o:List Int)=>o.length=L∧∀ u:Nat,u<L→atI o u=if u<t then atI (gs i j) u else 0) (fun t o=>[.n n,.n k,.u,LL (gsR i k),.n ((i:Int)+1),LL ((gsR (i+1) k).take j),.n j,LI o,.n t,.u,.u,.u,.u,.u,.u,.u]) (gs i j).length (rep (L:Nat) 0) ⟨by simp [rep],fun u hu=>by simp [atI,rep,hu]⟩ rfl (fun t o ht hP=>?_) (fun o hP=>?_)
    ·obtain ⟨g1,g2⟩:=hP
     have g3:=g2 t (by omega)
     rw [if_neg (by omega)] at g3
     have c2:=c1 t
     simp (disch:=first|omega|simp only[vl];omega) only [vcd,a1,g3]
     refine ⟨_,⟨by rw [seI_len,g1],fun u hu=>?_⟩,rfl⟩
     rw [atI_set (by omega)]
     by_cases q:t=u
     ·subst q; rw [if_pos rfl,if_pos (by omega)]; omega
     ·rw [if_neg q,g2 u hu]
      by_cases q2:u<t
      ·rw [if_pos q2,if_pos (by omega)]
      ·rw [if_neg q2,if_neg (by omega)]
    ·obtain ⟨g1,g2⟩:=hP
     have g2:∀ u:Nat,u<L→atI o u=atI (gs i j) u:=by
      intro u hu
      rw [g2 u hu]
      by_cases q:u<(gs i j).length
      ·rw [if_pos q]
      ·rw [if_neg q]; exact (atI_outP (by omega)).symm
     simp (disch:=first|omega|simp only[vl];omega) only [vcd,a1]
     by_cases hj0:0<j
     ·have k2:=l2 hj0
      have d2:=b2 hj0
      have a2:=at2 hj0
      have k4:=f2 hj0
      simp (disch:=first|omega|simp only[vl];omega) only [vcd]
      refine loop_up (fun t (o:List Int)=>o.length=L∧∀ u:Nat,u<L→atI o u=atI (gs i j) u+(if i+1-j≤u∧u<i+1-j+t then atI (gs i (j-1)) ((u-(i+1-j):Nat):Int) else 0)) (fun t o=>[.n n,.n k,.u,LL (gsR i k),.n ((i:Int)+1),LL ((gsR (i+1) k).take j),.n j,LI o,.u,.n t,.u,.u,.u,.u,.u,.u]) (gs i (j-1)).length o ⟨g1,fun u hu=>by rw [g2 u hu,if_neg (by omega)]; omega⟩ rfl (fun t o ht hP=>?_) (fun o hP=>?_)
      ·obtain ⟨g1,g2⟩:=hP
       have ei:(t:Int)+((i:Int)+1)-(j:Int)=((i+1-j+t:Nat):Int):=by omega
       have g3:=g2 (i+1-j+t) (by omega)
       rw [if_neg (by omega)] at g3
       have c2:=c1 (i+1-j+t)
       have d3:=d2 t
       simp (disch:=first|omega|simp only[vl];omega) only [vcd,a2,ei]
       refine ⟨_,⟨by rw [seI_len,g1],fun u hu=>?_⟩,rfl⟩
       rw [atI_set (by omega)]
       by_cases q:i+1-j+t=u
       ·subst q
        rw [if_pos rfl,if_pos (by omega),g3,show i+1-j+t-(i+1-j)=t by omega]; omega
       ·rw [if_neg q,g2 u hu]
        by_cases q2:i+1-j≤u∧u<i+1-j+t
        ·rw [if_pos q2,if_pos (by omega)]
        ·rw [if_neg q2,if_neg (by omega)]
      ·obtain ⟨g1,g2⟩:=hP
       have eo:=whole o g1 fun u hu=>by
        rw [g2 u hu,if_pos hji]
        by_cases q:i+1-j≤u
        ·rw [if_pos ⟨q,by omega⟩,if_pos ⟨hj0,q⟩]
        ·rw [if_neg (by omega),if_neg (by omega)]
       subst eo
       simp (disch:=first|omega|simp only[vl];omega) only [vcd,a2,ll_1,LL_appG]
     ·have eo:=whole o g1 fun u hu=>by
       rw [g2 u hu,if_pos hji,if_neg (by omega)]; omega
      subst eo
      simp (disch:=first|omega|simp only[vl];omega) only [vcd,ll_1,LL_appG]
   ·have hj0:0<j:=by omega
    have k2:=l2 hj0
    have d2:=b2 hj0
    have a2:=at2 hj0
    have k4:=f2 hj0
    simp (disch:=first|omega|simp only[vl];omega) only [vcd]
    refine loop_up (fun t (o:List Int)=>o.length=L∧∀ u:Nat,u<L→atI o u=(if i+1-j≤u∧u<i+1-j+t then atI (gs i (j-1)) ((u-(i+1-j):Nat):Int) else 0)) (fun t o=>[.n n,.n k,.u,LL (gsR i k),.n ((i:Int)+1),LL ((gsR (i+1) k).take j),.n j,LI o,.u,.n t,.u,.u,.u,.u,.u,.u]) (gs i (j-1)).length (rep (L:Nat) 0) ⟨by simp [rep],fun u hu=>by rw [if_neg (by omega)]; simp [atI,rep,hu]⟩ rfl (fun t o ht hP=>?_) (fun o hP=>?_)
    ·obtain ⟨g1,g2⟩:=hP
     have ei:(t:Int)+((i:Int)+1)-(j:Int)=((i+1-j+t:Nat):Int):=by omega
     have g3:=g2 (i+1-j+t) (by omega)
     rw [if_neg (by omega)] at g3
     have d3:=d2 t
     simp (disch:=first|omega|simp only[vl];omega) only [vcd,a2,ei,g3]
     refine ⟨_,⟨by rw [seI_len,g1],fun u hu=>?_⟩,rfl⟩
     rw [atI_set (by omega)]
     by_cases q:i+1-j+t=u
     ·subst q
      rw [if_pos rfl,if_pos (by omega),show i+1-j+t-(i+1-j)=t by omega]; omega
     ·rw [if_neg q,g2 u hu]
      by_cases q2:i+1-j≤u∧u<i+1-j+t
      ·rw [if_pos q2,if_pos (by omega)]
      ·rw [if_neg q2,if_neg (by omega)]
    ·obtain ⟨g1,g2⟩:=hP
     have eo:=whole o g1 fun u hu=>by
      rw [g2 u hu,if_neg hji]
      by_cases q:i+1-j≤u
      ·rw [if_pos ⟨q,by omega⟩,if_pos ⟨hj0,q⟩]; omega
      ·rw [if_neg (by omega),if_neg (by omega)]; omega
     subst eo
     simp (disch:=first|omega|simp only[vl];omega) only [vcd,a2,ll_1,LL_appG]
  ·have e:(gsR (i+1) k).take (min (i+1) k+1)=gsR (i+1) k:=List.take_of_length_le (by omega)
   rw [e]
   simp (disch:=first|omega|simp only[vl];omega) only [vcd,hmn]
 ·have hl:=gsR_len (m:=n) (k:=k)
  have e:=gsR_at (m:=n) (k:=k) (j:=k) (by omega)
  simp (disch:=first|omega|simp only[vl];omega) only [vcd,e]
def bnO (n k:Int):Bool:=inR 0 14 n&&inR 0 n k
def bnR (n k:Int):List Int:=if bnO n k=true then gs n.toNat k.toNat else []
theorem bpo_i [HA K] {n k:Int}:K 412 [.n n,.n k] [LI (bnR n k),.b (bnO n k)]:=by
 refine body_by (f:=ir_impl_BinomialPolynomial) rfl ?_; simp only [ir_impl_BinomialPolynomial,zn,zs,zq,zi,zg,zp]
 simp (disch:=first|omega|simp only[vl];omega) only [vcd]
 refine call_by (within_ok (K:=K)) rfl ?_
 cases h1:inR 0 14 n
 ·simp (disch:=first|omega|simp only[vl];omega) only [vcd,LI_nil]
  simp [bnR,bnO,h1]
 ·simp (disch:=first|omega|simp only[vl];omega) only [vcd]
  refine call_by (within_ok (K:=K)) rfl ?_
  cases h2:inR 0 n k
  ·simp (disch:=first|omega|simp only[vl];omega) only [vcd,LI_nil]
   simp [bnR,bnO,h2]
  ·have b1:=inR_iff.1 h1
   have b2:=inR_iff.1 h2
   obtain ⟨m,rfl⟩:=qoz b1.1
   obtain ⟨c,rfl⟩:=qoz b2.1
   simp (disch:=first|omega|simp only[vl];omega) only [vcd]
   refine call_by (gauss_i (K:=K) m c (by omega) (by omega)) rfl ?_
   simp (disch:=first|omega|simp only[vl];omega) only [vcd]
   simp [bnR,bnO,h1,h2]
def cpR (n:Int):List Int:=if inR 0 7 n=true then cpT.getD n.toNat [] else []
theorem cp0:allB 8 (fun n=>match dvM (gs (2*n) n) (rep ((n+1:Nat):Int) 1) with | some x=>decide (x.1=cpT.getD n []) | none=>false)=true:=by kernel_rfl
theorem cp1:allB 8 (fun n=>decide (trimF (dvT (rep ((n+1:Nat):Int) 1) (dvN (gs (2*n) n) (rep ((n+1:Nat):Int) 1)) (gs (2*n) n,rep (dvN (gs (2*n) n) (rep ((n+1:Nat):Int) 1):Nat) 0)).2=cpT.getD n []))=true:=by kernel_rfl
theorem cpo_i [HA K] {n:Int}:K 408 [.n n] [LI (cpR n),.b (inR 0 7 n)]:=by
 refine body_by (f:=ir_impl_CatalanPolynomial) rfl ?_; simp only [ir_impl_CatalanPolynomial,zn,zs,zq,zi,zg,zp]
 simp (disch:=first|omega|simp only[vl];omega) only [vcd]
 refine call_by (within_ok (K:=K)) rfl ?_
 cases h1:inR 0 7 n
 ·simp (disch:=first|omega|simp only[vl];omega) only [vcd,LI_nil]
  simp [cpR,h1]
 ·have b1:=inR_iff.1 h1
  obtain ⟨m,rfl⟩:=qoz b1.1
  have t1:(2*(m:Int)).toNat=2*m:=by omega
  have kb:=bpo_i (K:=K) (n:=2*(m:Int)) (k:=m)
  have o1:bnO (2*(m:Int)) m=true:=by
   simp only [bnO,qba]
   exact ⟨inR_iff.2 (by omega),inR_iff.2 (by omega)⟩
  have r1:bnR (2*(m:Int)) m=gs (2*m) m:=by simp only [bnR,o1,if_true,qtn,t1]
  rw [o1,r1] at kb
  have kn:=np_i (K:=K) (n:=(m:Int)+1)
  have o2:npO ((m:Int)+1)=true:=inR_iff.2 (by omega)
  have r2:npR ((m:Int)+1)=rep ((m+1:Nat):Int) 1:=by simp only [npR,o2,if_true]; rfl
  rw [o2,r2] at kn
  have hl:=gs_len (n:=2*m) (k:=m) (by omega) (by omega)
  have hm:=mul_49 (n:=2*m) (k:=m) (by omega) (by omega)
  have hr:(rep ((m+1:Nat):Int) (1:Int)).length=m+1:=by rw [rep_len]; omega
  have kd:=dv_i (K:=K) (a:=gs (2*m) m) (b:=rep ((m+1:Nat):Int) 1) (by omega) (by omega)
  have c:=allB_spec cp0 m (by omega)
  cases hq:dvM (gs (2*m) m) (rep ((m+1:Nat):Int) 1) with
  | none=>rw [hq] at c; cases c
  | some y=>
   rw [hq] at kd c
   simp only [qde] at c
   have e3:cpR (m:Int)=y.1:=by simp only [cpR,h1,if_true,qtn,c]
   rw [e3]
   simp (disch:=first|omega|simp only[vl];omega) only [vcd]
   refine call_by (kb) rfl ?_
   simp (disch:=first|omega|simp only[vl];omega) only [vcd]
   refine call_by (kn) rfl ?_
   simp (disch:=first|omega|simp only[vl];omega) only [vcd]
   refine call_by (kd) rfl ?_
   simp (disch:=first|omega|simp only[vl];omega) only [vcd]
theorem cpo_s [HA K] {n:Int}:K 425 [.n n] [LI (cpR n),.b (inR 0 7 n)]:=by
 refine body_by (f:=ir_spec_CatalanPolynomial) rfl ?_; simp only [ir_spec_CatalanPolynomial,zn,zs,zq,zi,zg,zp]
 simp (disch:=first|omega|simp only[vl];omega) only [vcd]
 refine call_by (l1In_ok (K:=K)) rfl ?_
 cases h1:inR 0 7 n
 ·simp (disch:=first|omega|simp only[vl];omega) only [vcd,LI_nil]
  simp [cpR,h1]
 ·have b1:=inR_iff.1 h1
  obtain ⟨m,rfl⟩:=qoz b1.1
  have kb:=l14b_s (K:=K) (n:=2*m) (k:=m) (by omega) (by omega)
  have kn:=npo_s (K:=K) (n:=m+1) (by omega)
  rw [show ((2*m:Nat):Int)=2*(m:Int) by omega] at kb
  rw [show ((m+1:Nat):Int)=(m:Int)+1 by omega] at kn
  have hl:=gs_len (n:=2*m) (k:=m) (by omega) (by omega)
  have hm:=mul_49 (n:=2*m) (k:=m) (by omega) (by omega)
  have hr:(rep ((m+1:Nat):Int) (1:Int)).length=m+1:=by rw [rep_len]; omega
  have kd:=ldv_s (K:=K) (a:=gs (2*m) m) (b:=rep ((m+1:Nat):Int) 1) (by omega) (by omega) (by omega)
  have c:=allB_spec cp1 m (by omega)
  simp only [qde] at c
  have e3:cpR (m:Int)=cpT.getD m []:=by simp only [cpR,h1,if_true,qtn]
  rw [e3,← c]
  simp (disch:=first|omega|simp only[vl];omega) only [vcd]
  refine call_by (kb) rfl ?_
  simp (disch:=first|omega|simp only[vl];omega) only [vcd]
  refine call_by (kn) rfl ?_
  simp (disch:=first|omega|simp only[vl];omega) only [vcd]
  refine call_by (kd) rfl ?_
  simp (disch:=first|omega|simp only[vl];omega) only [vcd]
end Go.Cat
