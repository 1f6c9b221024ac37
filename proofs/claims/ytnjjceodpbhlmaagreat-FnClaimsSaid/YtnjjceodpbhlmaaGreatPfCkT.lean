/-
 The triangles and how many there are at each corner: both sides, any rows.
-/
import Derived.Test.YtnjjceodpbhlmaaGreatPfCkQ
import Derived.Test.YtnjjceodpbhlmaaGreatPfCkS
import Derived.Test.YtnjjceodpbhlmaaGreatIrHas
set_option linter.unusedSimpArgs false
set_option linter.unusedVariables false
namespace Go.Cat
variable {K:Nat→List D→List D→Prop}
set_option maxRecDepth 100000
theorem AQS:D.l []=LL []:=rfl
theorem Yg {n:Int} {d:List (List Int)} {N:Nat}:∀ k,(oA n d N k).length≤k*(N*N)
 | 0=>by simp [oA]
 | k+1=>by
  rw [Yl,Ad,Nat.succ_mul]
  have:=Yg (n:=n) (d:=d) (N:=N) k
  have h2:=Sr (n:=n) (d:=d) (N:=N) (a:=k) (N-k-1)
  have h3:(N-k-1)*N≤N*N:=Nat.mul_le_mul_right _ (by omega)
  omega
theorem ACH {n:Int} {d:List (List Int)} {N k:Nat} (hN:N≤10) (hk:k≤10):(oA n d N k).length≤1000:=by
 have h1:=Yg (n:=n) (d:=d) (N:=N) k
 have h2:N*N≤10*10:=Nat.mul_le_mul hN hN
 have h3:k*(N*N)≤10*(10*10):=Nat.mul_le_mul hk h2
 omega
theorem AG8 {n:Int} {d:List (List Int)} {N a k:Nat} (hN:N≤10) (hk:k≤10):(oB n d N a k).length≤100:=by
 have h1:=Sr (n:=n) (d:=d) (N:=N) (a:=a) k
 have h2:k*N≤10*10:=Nat.mul_le_mul hk hN
 omega
theorem AJ7 [HA K] {N:Nat} {d:List (List Int)} (h:Bh N d=true):K 645 [.n N,LL d] [LL (oA N d N N),.b true]:=by
 have hN:=(FP h).1
 have hdl:d.length≤1000:=by have:=(FP h).2.1; omega
 have hr:=QZ h
 have hrl:∀ r∈d,r.length≤1099511627776:=fun r hx=>by have:=(hr r hx).1; omega
 have kt:=RN (K:=K) (n:=N) (d:=d) (by omega) (by omega) hrl
 rw [h] at kt
 refine AG (f:=GO) rfl ?_; simp only [GO,zu]
 simp (disch:=first|omega|simp only[vl];omega) only [AA]
 refine AE (kt) rfl ?_
 simp (disch:=first|omega|simp only[vl];omega) only [AA]
 refine Ag (fun _=>True) (fun a=>[.n N,LL d,.u,.u,LL (oA N d N a),.n a,.u,.u,.u,.u,.u,.u,.u]) N trivial rfl (fun a ha _=>?_) (fun _=>?_)
 ·have la:=ACH (n:=N) (d:=d) (N:=N) (k:=a) (by omega) (by omega)
  simp (disch:=first|omega|simp only[vl];omega) only [AA]
  refine Ag (fun _=>True) (fun i=>[.n N,LL d,.u,.u,LL (oA N d N a++oB N d N a i),.n a,.n ((a+1+i:Nat):Int),.u,.u,.u,.u,.u,.u]) (N-a-1) trivial (by simp [oB]) (fun i hi _=>?_) (fun _=>?_)
  ·have lb:=AG8 (n:=N) (d:=d) (N:=N) (a:=a) (k:=i) (by omega) (by omega)
   have ob:oB N d N a (i+1)=oB N d N a i++oC N d a (a+1+i) (N-(a+1+i)-1):=AFI
   rw [ob,← Bw]
   have hol:(oA N d N a++oB N d N a i).length≤1100:=by simp; omega
   generalize oA N d N a++oB N d N a i=o at hol ⊢
   obtain ⟨b,hb⟩:∃ b:Nat,b=a+1+i:=⟨_,rfl⟩
   rw [show a+1+(i+1)=b+1 by omega,← hb]
   simp (disch:=first|omega|simp only[vl];omega) only [AA]
   refine Ag (fun _=>True) (fun j=>[.n N,LL d,.u,.u,LL (o++oC N d a b j),.n a,.n b,.n ((b+1+j:Nat):Int),.u,.u,.u,.u,.u]) (N-b-1) trivial (by simp [oC]) (fun j hj _=>?_) (fun _=>?_)
   ·have lc:=RV (n:=N) (d:=d) (a:=a) (b:=b) j
    have hol2:(o++oC N d a b j).length≤1200:=by simp; omega
    rw [AEM,← Bw]
    generalize o++oC N d a b j=o2 at hol2 ⊢
    obtain ⟨c,hc⟩:∃ c:Nat,c=b+1+j:=⟨_,rfl⟩
    rw [show b+1+(j+1)=c+1 by omega,← hc]
    have s1:=Tx (K:=K) (n:=N) (a:=a) (b:=b) (d:=d) (by omega) (by omega) (by omega) hdl hr
    have s2:=Tx (K:=K) (n:=N) (a:=b) (b:=c) (d:=d) (by omega) (by omega) (by omega) hdl hr
    have s3:=Tx (K:=K) (n:=N) (a:=a) (b:=c) (d:=d) (by omega) (by omega) (by omega) hdl hr
    cases q1:CY N d a b
    ·rw [q1] at s1
     simp (disch:=first|omega|simp only[vl];omega) only [AA]
     refine AE (s1) rfl ?_
     simp (disch:=first|omega|simp only[vl];omega) only [AA]
     simp
    ·rw [q1] at s1
     cases q2:CY N d b c
     ·rw [q2] at s2
      simp (disch:=first|omega|simp only[vl];omega) only [AA]
      refine AE (s1) rfl ?_
      simp (disch:=first|omega|simp only[vl];omega) only [AA]
      refine AE (s2) rfl ?_
      simp (disch:=first|omega|simp only[vl];omega) only [AA]
      simp
     ·rw [q2] at s2
      cases q3:CY N d a c
      ·rw [q3] at s3
       simp (disch:=first|omega|simp only[vl];omega) only [AA]
       refine AE (s1) rfl ?_
       simp (disch:=first|omega|simp only[vl];omega) only [AA]
       refine AE (s2) rfl ?_
       simp (disch:=first|omega|simp only[vl];omega) only [AA]
       refine AE (s3) rfl ?_
       simp (disch:=first|omega|simp only[vl];omega) only [AA]
       simp
      ·rw [q3] at s3
       simp (disch:=first|omega|simp only[vl];omega) only [AA]
       refine AE (s1) rfl ?_
       simp (disch:=first|omega|simp only[vl];omega) only [AA]
       refine AE (s2) rfl ?_
       simp (disch:=first|omega|simp only[vl];omega) only [AA]
       refine AE (s3) rfl ?_
       simp (disch:=first|omega|simp only[vl];omega) only [AA,Jd]
   ·simp (disch:=first|omega|simp only[vl];omega) only [AA]
  ·simp (disch:=first|omega|simp only[vl];omega) only [AA]
   rw [Yl]
 ·simp (disch:=first|omega|simp only[vl];omega) only [AA]
theorem AMF [HA K] {n:Int} {d:List (List Int)} (hn:-2000000000000≤n∧n≤2000000000000) (hd:d.length≤1099511627776) (hl:∀ r∈d,r.length≤1099511627776) (h:Bh n d=false):K 645 [.n n,LL d] [LL [],.b false]:=by
 have kt:=RN (K:=K) hn hd hl
 rw [h] at kt
 refine AG (f:=GO) rfl ?_; simp only [GO,zu]
 simp (disch:=omega) only [AA]
 refine AE (kt) rfl ?_
 simp (disch:=omega) only [AA]
 rfl
def Cb (N:Nat) (f:Nat→Nat):List Int:=(List.range N).map fun v=>((f v:Nat):Int)
theorem QJ {N:Nat} {f:Nat→Nat}:(Cb N f).length=N:=by simp [Cb]
theorem AGH {N:Nat} {f:Nat→Nat}:Cb (N+1) f=Cb N f++[((f N:Nat):Int)]:=by simp [Cb,List.range_succ]
def E9 (v:Nat) (r:List Int):Bool:=decide (AD r 0=v) || (decide (AD r 1=v) || decide (AD r 2=v))
def cS (v:Nat) (L:List (List Int)):Nat:=(L.filter (E9 v)).length
theorem Zf {v i:Nat} {L:List (List Int)} (h:i<L.length):cS v (L.take (i+1))=cS v (L.take i)+if E9 v (AH L i)=true then 1 else 0:=by
 unfold cS
 rw [ALX h,List.filter_append,Ad]
 congr 1
 simp only [List.filter_cons,List.filter_nil]
 split <;> rfl
theorem X7 {r:List Int} (h:LH r):r.length=3:=by
 obtain ⟨a,b,c,rfl,_⟩:=h
 rfl
theorem RH {L:List (List Int)} {i:Nat} (h:i<L.length):AH L i∈L:=by simp [AH,h]
theorem UR [HA K] {N:Nat} {d:List (List Int)} (h:Bh N d=true) (h3:3≤N):K 636 [.n N,LL d] [LI (Cb N fun v=>cS v (oA N d N N))]:=by
 have kt:=AJ7 (K:=K) h
 have hN:=(FP h).1
 have hup:∀ r∈oA N d N N,LH r:=ARZ
 have hln:=ACH (n:=N) (d:=d) (N:=N) (k:=N) (by omega) (by omega)
 generalize oA N d N N=L at kt hup hln ⊢
 refine AG (f:=F5) rfl ?_; simp only [F5,zu]
 simp (disch:=first|omega|simp only[vl];omega) only [AA]
 refine AE (kt) rfl ?_
 simp (disch:=first|omega|simp only[vl];omega) only [AA]
 refine Ag (fun _=>True) (fun v=>[.n N,.u,.u,LI (Cb v fun v=>cS v L),LL L,.b true,.n v,.u,.u,.u,.u,.u,.u]) N trivial rfl (fun v hv _=>?_) (fun _=>?_)
 ·have hql:=QJ (N:=v) (f:=fun v=>cS v L)
  simp (disch:=first|omega|simp only[vl];omega) only [AA]
  refine Ag (fun _=>True) (fun i=>[.n N,.u,.u,LI (Cb v fun v=>cS v L),LL L,.b true,.n v,.n (cS v (L.take i)),.n i,.u,.u,.u,.u]) L.length trivial rfl (fun i hi _=>?_) (fun _=>?_)
  ·have hr3:=X7 (hup _ (RH hi))
   have hcl:cS v (L.take i)≤1000:=by
    have:=List.length_filter_le (E9 v) (L.take i)
    have h2:(L.take i).length≤L.length:=List.length_take_le' ..
    unfold cS
    omega
   rw [Zf hi]
   generalize cS v (L.take i)=c at hcl ⊢
   by_cases a0:AD (AH L i) 0=v
   ·have e:E9 v (AH L i)=true:=by simp [E9,a0]
    rw [e]
    simp (disch:=first|omega|simp only[vl];omega) only [AA,a0]
   ·by_cases a1:AD (AH L i) 1=v
    ·have e:E9 v (AH L i)=true:=by simp [E9,a1]
     rw [e]
     simp (disch:=first|omega|simp only[vl];omega) only [AA,a1]
    ·by_cases a2:AD (AH L i) 2=v
     ·have e:E9 v (AH L i)=true:=by simp [E9,a2]
      rw [e]
      simp (disch:=first|omega|simp only[vl];omega) only [AA,a2]
     ·have e:E9 v (AH L i)=false:=by simp [E9,a0,a1,a2]
      rw [e]
      simp (disch:=first|omega|simp only[vl];omega) only [AA]
      simp
  ·simp (disch:=first|omega|simp only[vl];omega) only [AA]
   rw [List.take_length,AGH]
 ·simp (disch:=first|omega|simp only[vl];omega) only [AA]
theorem AHN [HA K] {n:Int} {d:List (List Int)} (hn:-2000000000000≤n∧n≤2000000000000) (hd:d.length≤1099511627776) (hl:∀ r∈d,r.length≤1099511627776) (h:Bh n d=false):K 636 [.n n,LL d] [LI []]:=by
 have kt:=AMF (K:=K) hn hd hl h
 refine AG (f:=F5) rfl ?_; simp only [F5,zu]
 by_cases h3:n<3
 ·simp (disch:=omega) only [AA]
  rfl
 ·simp (disch:=omega) only [AA]
  refine AE (kt) rfl ?_
  simp (disch:=omega) only [AA]
  refine Ag (fun _=>True) (fun _=>[.n n,.u,.u,LI [],LL [],.b false,.n 0,.u,.u,.u,.u,.u,.u]) 0 trivial rfl (fun v hv _=>by omega) (fun _=>?_)
  simp (disch:=omega) only [AA]
class H9 (K:Nat→List D→List D→Prop):Prop where
 tr:∀ (n:Nat) (d:List (List Int)) (f a b:Nat),n≤10→d.length≤7→(∀ r∈d,Es r)→a<b→b+1≤n→b≤a+f→K 652 [.n n,LL d,.n a,.n b] [(Dj n d f a b).d]
def PD (N:Nat) (z:List Int):Prop:=∃ a b c:Nat,z=[(a:Int),(b:Int),(c:Int)]∧a<b∧b<c∧c<N
theorem AMD {N:Nat} {z:List Int} (h:PD N z):LH z:=by
 obtain ⟨a,b,c,e,h1,h2,_⟩:=h
 exact ⟨a,b,c,e,h1,h2⟩
theorem P6 {N:Nat}:∀ {x:BT} {l r:Nat},r=l+x.n+1→r<N→∀ z∈DR x l r,PD N z
 | .lf,l,r,_,_,z,hz=>by simp [DR] at hz
 | .nd a b,l,r,h,hN,z,hz=>by
  simp only [BT.n] at h
  have e:(l:Int)+a.n+1=((l+a.n+1:Nat):Int):=by simp
  simp only [DR,e] at hz
  rcases A8.1 hz with q | q
  ·rw [List.mem_singleton] at q
   exact ⟨l,l+a.n+1,r,q,by omega,by omega,hN⟩
  ·rcases A8.1 q with q | q
   ·exact P6 (by omega) (by omega) z q
   ·exact P6 (by omega) (by omega) z q
theorem AJQ [HA K] [H9 K] {N:Nat} {d:List (List Int)} (h:Bh N d=true) (h3:3≤N):K 647 [.n N,LL d] [LL (F7 (DR (Dw N d) 0 ((N:Int)-1))),.b true]:=by
 have hN:=(FP h).1
 have hdl:d.length≤7:=by have:=(FP h).2.1; omega
 have hr:=QZ h
 have hrl:∀ r∈d,r.length≤1099511627776:=fun r hx=>by have:=(hr r hx).1; omega
 have kt:=P1 (K:=K) (n:=N) (d:=d) (by omega) (by omega) hrl
 rw [h] at kt
 obtain ⟨ht,_⟩:=AEQ h h3
 have k2:=H9.tr (K:=K) N d ((N:Int)-1).toNat 0 (N-1) (by omega) hdl hr (by omega) (by omega) (by omega)
 have e1:((N-1:Nat):Int)=(N:Int)-1:=by omega
 rw [e1] at k2
 change K 652 _ [(Dw N d).d] at k2
 have k3:=QV (K:=K) (x:=Dw N d) (l:=0) (r:=(N:Int)-1) (c:=[]) (s:=[]) (by omega) (by omega) (by omega) (by omega) (by simp; omega) (by simp; omega)
 simp only [List.nil_append] at k3
 have hcl:=OL (x:=Dw N d) (l:=0) (r:=(N:Int)-1)
 have hup:=P6 (N:=N) (x:=Dw N d) (l:=0) (r:=N-1) (by omega) (by omega)
 rw [e1] at hup
 have k4:=AG6 (K:=K) (d:=DR (Dw N d) 0 ((N:Int)-1)) (by omega) (fun x hx=>X7 (AMD (hup x hx)))
 refine AG (f:=N5) rfl ?_; simp only [N5,zu]
 simp (disch:=omega) only [AA]
 refine AE (kt) rfl ?_
 simp (disch:=omega) only [AA]
 refine AE (k2) rfl ?_
 simp (disch:=omega) only [AA,AQS]
 refine AE (k3) rfl ?_
 simp (disch:=omega) only [AA]
 refine AE (k4) rfl ?_
 simp (disch:=omega) only [AA]
theorem AMA [HA K] {n:Int} {d:List (List Int)} (h3:n<3):K 636 [.n n,LL d] [LI []]:=by
 refine AG (f:=F5) rfl ?_; simp only [F5,zu]
 simp (disch:=omega) only [AA]
 rfl
theorem AOT {N:Nat} {f:Nat→Nat} {c:Nat} (h:c<N):AD (Cb N f) c=f c:=by
 simp [AD,Cb,h]
theorem ASI {N:Nat} {f:Nat→Nat} {c:Nat} (h:c<N):Aw (Cb N f) c ((f c:Int)+1)=Cb N (fun v=>f v+if v=c then 1 else 0):=by
 apply List.ext_getElem
 ·simp [Aw,Cb]
 ·intro i h1 h2
  simp only [Aw,Cb,CB,List.getElem_set,List.getElem_map,List.getElem_range]
  by_cases e:i=c
  ·subst e
   simp
  ·have:¬ c=i:=fun q=>e q.symm
   simp [e,this]
theorem AIT {v:Nat} {L M:List (List Int)} (h:L.Perm M):cS v L=cS v M:=(h.filter _).length_eq
theorem AKL {N:Nat} {f:Nat→Nat} (h:∀ v,f v=0):rep (N:Int) 0=Cb N f:=by
 apply List.ext_getElem
 ·simp [rep,Cb]
 ·intro i h1 h2
  simp [rep,Cb,h]
theorem cnt3 {N:Nat} {r:List Int} (h:PD N r) (v:Nat):(r.take 3).count (v:Int)=if E9 v r=true then 1 else 0:=by
 obtain ⟨a,b,c,rfl,h1,h2,_⟩:=h
 have ea:AD [(a:Int),(b:Int),(c:Int)] 0=a:=rfl
 have eb:AD [(a:Int),(b:Int),(c:Int)] 1=b:=rfl
 have ec:AD [(a:Int),(b:Int),(c:Int)] 2=c:=rfl
 simp only [E9,ea,eb,ec,List.take,List.count_cons,List.count_nil,beq_iff_eq,Bool.or_eq_true,Aj]
 by_cases p:(a:Int)=v
 ·have q1:¬ (b:Int)=v:=by omega
  have q2:¬ (c:Int)=v:=by omega
  simp [p,q1,q2]
 ·by_cases p1:(b:Int)=v
  ·have q2:¬ (c:Int)=v:=by omega
   simp [p,p1,q2]
  ·simp [p,p1]
theorem AFL [HA K] [H9 K] {N:Nat} {d:List (List Int)} (h:Bh N d=true) (h3:3≤N):K 638 [.n N,LL d] [LI (Cb N fun v=>cS v (oA N d N N))]:=by
 have kt:=AJQ (K:=K) h h3
 have hN:=(FP h).1
 have hdl:d.length≤7:=by have:=(FP h).2.1; omega
 have hr:=QZ h
 have hrl:∀ r∈d,r.length≤1099511627776:=fun r hx=>by have:=(hr r hx).1; omega
 have k0:=P1 (K:=K) (n:=N) (d:=d) (by omega) (by omega) hrl
 rw [h] at k0
 obtain ⟨ht,hp⟩:=AEQ h h3
 have e1:((N-1:Nat):Int)=(N:Int)-1:=by omega
 have hup:=P6 (N:=N) (x:=Dw N d) (l:=0) (r:=N-1) (by omega) (by omega)
 rw [e1] at hup
 have hln:=OL (x:=Dw N d) (l:=0) (r:=(N:Int)-1)
 have hW:(oA N d N N).Perm (F7 (DR (Dw N d) 0 ((N:Int)-1))):=hp.trans SS.symm
 have hupW:∀ z∈F7 (DR (Dw N d) 0 ((N:Int)-1)),PD N z:=fun z hz=>hup z (SS.mem_iff.1 hz)
 have hlW:(F7 (DR (Dw N d) 0 ((N:Int)-1))).length≤8:=by rw [SS.length_eq]; omega
 have hf:(fun v=>cS v (oA N d N N))=fun v=>cS v (F7 (DR (Dw N d) 0 ((N:Int)-1))):=funext fun v=>AIT hW
 rw [hf]
 generalize F7 (DR (Dw N d) 0 ((N:Int)-1))=L at kt hupW hlW ⊢
 refine AG (f:=LG) rfl ?_; simp only [LG,zu]
 simp (disch:=omega) only [AA]
 refine AE (k0) rfl ?_
 simp (disch:=omega) only [AA]
 refine AE (kt) rfl ?_
 simp (disch:=omega) only [AA]
 refine Ag (fun _=>True) (fun i=>[.u,.u,.u,LI (Cb N fun v=>cS v (L.take i)),.u,.u,.u,.u,LL L,.n L.length,.n i,.u,.u,.u,.u,.u]) L.length trivial ?_ (fun i hi _=>?_) (fun _=>?_)
 ·rw [AKL (f:=fun v=>cS v (L.take 0)) (fun v=>rfl)]
  rfl
 ·obtain ⟨a,b,c,er,hab,hbc,hcN⟩:=hupW _ (RH hi)
  have h3l:(AH L i).length=3:=by rw [er]; rfl
  have hcS:∀ v,cS v (L.take i)≤8:=fun v=>by
   have:=List.length_filter_le (E9 v) (L.take i)
   have h2:(L.take i).length≤L.length:=List.length_take_le' ..
   unfold cS
   omega
  simp (disch:=omega) only [AA]
  refine Ag (fun _=>True) (fun j=>[.u,.u,.u,LI (Cb N fun v=>cS v (L.take i)+((AH L i).take j).count (v:Int)),.u,.u,.u,.u,LL L,.n L.length,.n i,.u,LI (AH L i),.n 3,.n j,.u]) 3 trivial ?_ (fun j hj _=>?_) (fun _=>?_)
  ·rw [h3l]
   simp
  ·obtain ⟨x,hx,hxN⟩:∃ x:Nat,AD (AH L i) j=x∧x<N:=by
    rw [er]
    have:j=0∨j=1∨j=2:=by omega
    rcases this with rfl | rfl | rfl
    ·exact ⟨a,rfl,by omega⟩
    ·exact ⟨b,rfl,by omega⟩
    ·exact ⟨c,rfl,by omega⟩
   have hfl:∀ v,cS v (L.take i)+((AH L i).take j).count (v:Int)≤11:=fun v=>by
    have h1:=hcS v
    have h2:=List.count_le_length (a:=(v:Int)) (l:=(AH L i).take j)
    have h3:((AH L i).take j).length≤3:=by simp; omega
    omega
   have hnx:(fun v:Nat=>cS v (L.take i)+((AH L i).take (j+1)).count (v:Int))=fun v=>(cS v (L.take i)+((AH L i).take j).count (v:Int))+if v=x then 1 else 0:=funext fun v=>by
    have hg:(AH L i)[j]'(by omega)=(x:Int):=by
     rw [← hx]
     simp [AD,show j<(AH L i).length by omega]
    rw [ED (by omega),List.count_append,hg,List.count_singleton]
    by_cases e:v=x
    ·subst e
     simp; omega
    ·have e2:¬ (x:Int)=(v:Int):=by omega
     simp [e,e2]
   rw [hnx]
   have hfx:=hfl x
   have hql:=QJ (N:=N) (f:=fun v=>cS v (L.take i)+((AH L i).take j).count (v:Int))
   have hat:=AOT (N:=N) (f:=fun v=>cS v (L.take i)+((AH L i).take j).count (v:Int)) hxN
   have hse:=ASI (N:=N) (f:=fun v=>cS v (L.take i)+((AH L i).take j).count (v:Int)) hxN
   generalize (fun v=>cS v (L.take i)+((AH L i).take j).count (v:Int))=g at hql hat hse ⊢
   simp (disch:=omega) only [AA,hx,hat,hse]
  ·have hnx:(fun v:Nat=>cS v (L.take i)+((AH L i).take 3).count (v:Int))=fun v=>cS v (L.take (i+1)):=funext fun v=>by
    rw [Zf hi,cnt3 ⟨a,b,c,er,hab,hbc,hcN⟩]
   rw [hnx]
   simp (disch:=omega) only [AA]
 ·simp (disch:=omega) only [AA]
  rw [List.take_length]
end Go.Cat
