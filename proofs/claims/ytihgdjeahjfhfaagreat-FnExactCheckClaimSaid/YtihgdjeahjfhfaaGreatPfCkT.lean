/-
 The triangles and how many there are at each corner: both sides, any rows.
-/
import Derived.Test.YtihgdjeahjfhfaaGreatPfCkQ
import Derived.Test.YtihgdjeahjfhfaaGreatPfCkS
import Derived.Test.YtihgdjeahjfhfaaGreatIrHas
set_option linter.unusedSimpArgs false
set_option linter.unusedVariables false
namespace Go.Cat
variable {K:Nat→List D→List D→Prop}
set_option maxRecDepth 100000
theorem LL_nilT:D.l []=LL []:=rfl
theorem oA_len {n:Int} {d:List (List Int)} {N:Nat}:∀ k,(oA n d N k).length≤k*(N*N)
 | 0=>by simp [oA]
 | k+1=>by
  rw [oA_s,qla,Nat.succ_mul]
  have:=oA_len (n:=n) (d:=d) (N:=N) k
  have h2:=oB_len (n:=n) (d:=d) (N:=N) (a:=k) (N-k-1)
  have h3:(N-k-1)*N≤N*N:=Nat.mul_le_mul_right _ (by omega)
  omega
theorem oA_len10 {n:Int} {d:List (List Int)} {N k:Nat} (hN:N≤10) (hk:k≤10):(oA n d N k).length≤1000:=by
 have h1:=oA_len (n:=n) (d:=d) (N:=N) k
 have h2:N*N≤10*10:=Nat.mul_le_mul hN hN
 have h3:k*(N*N)≤10*(10*10):=Nat.mul_le_mul hk h2
 omega
theorem oB_len10 {n:Int} {d:List (List Int)} {N a k:Nat} (hN:N≤10) (hk:k≤10):(oB n d N a k).length≤100:=by
 have h1:=oB_len (n:=n) (d:=d) (N:=N) (a:=a) k
 have h2:k*N≤10*10:=Nat.mul_le_mul hk hN
 omega
theorem tgs_s [HA K] {N:Nat} {d:List (List Int)} (h:triX N d=true):K 645 [.n N,LL d] [LL (oA N d N N),.b true]:=by
 have hN:=(triX_parts h).1
 have hdl:d.length≤1000:=by have:=(triX_parts h).2.1; omega
 have hr:=triX_rw h
 have hrl:∀ r∈d,r.length≤1099511627776:=fun r hx=>by have:=(hr r hx).1; omega
 have kt:=trs_x (K:=K) (n:=N) (d:=d) (by omega) (by omega) hrl
 rw [h] at kt
 refine body_by (f:=ir_spec_TrianglesOf) rfl ?_; simp only [ir_spec_TrianglesOf,zn,zs,zq,zi,zg,zp]
 simp (disch:=first|omega|simp only[vl];omega) only [vcd]
 refine call_by (kt) rfl ?_
 simp (disch:=first|omega|simp only[vl];omega) only [vcd]
 refine loop_ix (fun _=>True) (fun a=>[.n N,LL d,.u,.u,LL (oA N d N a),.n a,.u,.u,.u,.u,.u,.u,.u]) N trivial rfl (fun a ha _=>?_) (fun _=>?_)
 ·have la:=oA_len10 (n:=N) (d:=d) (N:=N) (k:=a) (by omega) (by omega)
  simp (disch:=first|omega|simp only[vl];omega) only [vcd]
  refine loop_ix (fun _=>True) (fun i=>[.n N,LL d,.u,.u,LL (oA N d N a++oB N d N a i),.n a,.n ((a+1+i:Nat):Int),.u,.u,.u,.u,.u,.u]) (N-a-1) trivial (by simp [oB]) (fun i hi _=>?_) (fun _=>?_)
  ·have lb:=oB_len10 (n:=N) (d:=d) (N:=N) (a:=a) (k:=i) (by omega) (by omega)
   have ob:oB N d N a (i+1)=oB N d N a i++oC N d a (a+1+i) (N-(a+1+i)-1):=oB_s
   rw [ob,← qaa]
   have hol:(oA N d N a++oB N d N a i).length≤1100:=by simp; omega
   generalize oA N d N a++oB N d N a i=o at hol ⊢
   obtain ⟨b,hb⟩:∃ b:Nat,b=a+1+i:=⟨_,rfl⟩
   rw [show a+1+(i+1)=b+1 by omega,← hb]
   simp (disch:=first|omega|simp only[vl];omega) only [vcd]
   refine loop_ix (fun _=>True) (fun j=>[.n N,LL d,.u,.u,LL (o++oC N d a b j),.n a,.n b,.n ((b+1+j:Nat):Int),.u,.u,.u,.u,.u]) (N-b-1) trivial (by simp [oC]) (fun j hj _=>?_) (fun _=>?_)
   ·have lc:=oC_len (n:=N) (d:=d) (a:=a) (b:=b) j
    have hol2:(o++oC N d a b j).length≤1200:=by simp; omega
    rw [oC_s,← qaa]
    generalize o++oC N d a b j=o2 at hol2 ⊢
    obtain ⟨c,hc⟩:∃ c:Nat,c=b+1+j:=⟨_,rfl⟩
    rw [show b+1+(j+1)=c+1 by omega,← hc]
    have s1:=sd_s (K:=K) (n:=N) (a:=a) (b:=b) (d:=d) (by omega) (by omega) (by omega) hdl hr
    have s2:=sd_s (K:=K) (n:=N) (a:=b) (b:=c) (d:=d) (by omega) (by omega) (by omega) hdl hr
    have s3:=sd_s (K:=K) (n:=N) (a:=a) (b:=c) (d:=d) (by omega) (by omega) (by omega) hdl hr
    cases q1:sdF N d a b
    ·rw [q1] at s1
     simp (disch:=first|omega|simp only[vl];omega) only [vcd]
     refine call_by (s1) rfl ?_
     simp (disch:=first|omega|simp only[vl];omega) only [vcd]
     simp
    ·rw [q1] at s1
     cases q2:sdF N d b c
     ·rw [q2] at s2
      simp (disch:=first|omega|simp only[vl];omega) only [vcd]
      refine call_by (s1) rfl ?_
      simp (disch:=first|omega|simp only[vl];omega) only [vcd]
      refine call_by (s2) rfl ?_
      simp (disch:=first|omega|simp only[vl];omega) only [vcd]
      simp
     ·rw [q2] at s2
      cases q3:sdF N d a c
      ·rw [q3] at s3
       simp (disch:=first|omega|simp only[vl];omega) only [vcd]
       refine call_by (s1) rfl ?_
       simp (disch:=first|omega|simp only[vl];omega) only [vcd]
       refine call_by (s2) rfl ?_
       simp (disch:=first|omega|simp only[vl];omega) only [vcd]
       refine call_by (s3) rfl ?_
       simp (disch:=first|omega|simp only[vl];omega) only [vcd]
       simp
      ·rw [q3] at s3
       simp (disch:=first|omega|simp only[vl];omega) only [vcd]
       refine call_by (s1) rfl ?_
       simp (disch:=first|omega|simp only[vl];omega) only [vcd]
       refine call_by (s2) rfl ?_
       simp (disch:=first|omega|simp only[vl];omega) only [vcd]
       refine call_by (s3) rfl ?_
       simp (disch:=first|omega|simp only[vl];omega) only [vcd,LL_appT]
   ·simp (disch:=first|omega|simp only[vl];omega) only [vcd]
  ·simp (disch:=first|omega|simp only[vl];omega) only [vcd]
   rw [oA_s]
 ·simp (disch:=first|omega|simp only[vl];omega) only [vcd]
def qcf (N:Nat) (f:Nat→Nat):List Int:=(List.range N).map fun v=>((f v:Nat):Int)
theorem qcf_len {N:Nat} {f:Nat→Nat}:(qcf N f).length=N:=by simp [qcf]
theorem qcf_s {N:Nat} {f:Nat→Nat}:qcf (N+1) f=qcf N f++[((f N:Nat):Int)]:=by simp [qcf,List.range_succ]
def hsV (v:Nat) (r:List Int):Bool:=decide (atI r 0=v) || (decide (atI r 1=v) || decide (atI r 2=v))
def cS (v:Nat) (L:List (List Int)):Nat:=(L.filter (hsV v)).length
theorem cS_s {v i:Nat} {L:List (List Int)} (h:i<L.length):cS v (L.take (i+1))=cS v (L.take i)+if hsV v (atL L i)=true then 1 else 0:=by
 unfold cS
 rw [takeLg h,List.filter_append,qla]
 congr 1
 simp only [List.filter_cons,List.filter_nil]
 split <;> rfl
theorem up3_len {r:List Int} (h:up3 r):r.length=3:=by
 obtain ⟨a,b,c,rfl,_⟩:=h
 rfl
theorem atL_in3 {L:List (List Int)} {i:Nat} (h:i<L.length):atL L i∈L:=by simp [atL,h]
theorem qds_s [HA K] {N:Nat} {d:List (List Int)} (h:triX N d=true) (h3:3≤N):K 636 [.n N,LL d] [LI (qcf N fun v=>cS v (oA N d N N))]:=by
 have kt:=tgs_s (K:=K) h
 have hN:=(triX_parts h).1
 have hup:∀ r∈oA N d N N,up3 r:=oA_up
 have hln:=oA_len10 (n:=N) (d:=d) (N:=N) (k:=N) (by omega) (by omega)
 generalize oA N d N N=L at kt hup hln ⊢
 refine body_by (f:=ir_spec_QuiddityOf) rfl ?_; simp only [ir_spec_QuiddityOf,zn,zs,zq,zi,zg,zp]
 simp (disch:=first|omega|simp only[vl];omega) only [vcd]
 refine call_by (kt) rfl ?_
 simp (disch:=first|omega|simp only[vl];omega) only [vcd]
 refine loop_ix (fun _=>True) (fun v=>[.n N,.u,.u,LI (qcf v fun v=>cS v L),LL L,.b true,.n v,.u,.u,.u,.u,.u,.u]) N trivial rfl (fun v hv _=>?_) (fun _=>?_)
 ·have hql:=qcf_len (N:=v) (f:=fun v=>cS v L)
  simp (disch:=first|omega|simp only[vl];omega) only [vcd]
  refine loop_ix (fun _=>True) (fun i=>[.n N,.u,.u,LI (qcf v fun v=>cS v L),LL L,.b true,.n v,.n (cS v (L.take i)),.n i,.u,.u,.u,.u]) L.length trivial rfl (fun i hi _=>?_) (fun _=>?_)
  ·have hr3:=up3_len (hup _ (atL_in3 hi))
   have hcl:cS v (L.take i)≤1000:=by
    have:=List.length_filter_le (hsV v) (L.take i)
    have h2:(L.take i).length≤L.length:=List.length_take_le' ..
    unfold cS
    omega
   rw [cS_s hi]
   generalize cS v (L.take i)=c at hcl ⊢
   by_cases a0:atI (atL L i) 0=v
   ·have e:hsV v (atL L i)=true:=by simp [hsV,a0]
    rw [e]
    simp (disch:=first|omega|simp only[vl];omega) only [vcd,a0]
   ·by_cases a1:atI (atL L i) 1=v
    ·have e:hsV v (atL L i)=true:=by simp [hsV,a1]
     rw [e]
     simp (disch:=first|omega|simp only[vl];omega) only [vcd,a1]
    ·by_cases a2:atI (atL L i) 2=v
     ·have e:hsV v (atL L i)=true:=by simp [hsV,a2]
      rw [e]
      simp (disch:=first|omega|simp only[vl];omega) only [vcd,a2]
     ·have e:hsV v (atL L i)=false:=by simp [hsV,a0,a1,a2]
      rw [e]
      simp (disch:=first|omega|simp only[vl];omega) only [vcd]
      simp
  ·simp (disch:=first|omega|simp only[vl];omega) only [vcd]
   rw [List.take_length,qcf_s]
 ·simp (disch:=first|omega|simp only[vl];omega) only [vcd]
class HTre (K:Nat→List D→List D→Prop):Prop where
 tr:∀ (n:Nat) (d:List (List Int)) (f a b:Nat),n≤10→d.length≤7→(∀ r∈d,rw3 r)→a<b→b+1≤n→b≤a+f→K 652 [.n n,LL d,.n a,.n b] [(ltF n d f a b).d]
def upN (N:Nat) (z:List Int):Prop:=∃ a b c:Nat,z=[(a:Int),(b:Int),(c:Int)]∧a<b∧b<c∧c<N
theorem upN_up {N:Nat} {z:List Int} (h:upN N z):up3 z:=by
 obtain ⟨a,b,c,e,h1,h2,_⟩:=h
 exact ⟨a,b,c,e,h1,h2⟩
theorem cnI_up {N:Nat}:∀ {x:BT} {l r:Nat},r=l+x.n+1→r<N→∀ z∈cnI x l r,upN N z
 | .lf,l,r,_,_,z,hz=>by simp [cnI] at hz
 | .nd a b,l,r,h,hN,z,hz=>by
  simp only [BT.n] at h
  have e:(l:Int)+a.n+1=((l+a.n+1:Nat):Int):=by simp
  simp only [cnI,e] at hz
  rcases qma.1 hz with q | q
  ·rw [List.mem_singleton] at q
   exact ⟨l,l+a.n+1,r,q,by omega,by omega,hN⟩
  ·rcases qma.1 q with q | q
   ·exact cnI_up (by omega) (by omega) z q
   ·exact cnI_up (by omega) (by omega) z q
theorem tgi_t [HA K] [HTre K] {N:Nat} {d:List (List Int)} (h:triX N d=true) (h3:3≤N):K 647 [.n N,LL d] [LL (srfW (cnI (btT N d) 0 ((N:Int)-1))),.b true]:=by
 have hN:=(triX_parts h).1
 have hdl:d.length≤7:=by have:=(triX_parts h).2.1; omega
 have hr:=triX_rw h
 have hrl:∀ r∈d,r.length≤1099511627776:=fun r hx=>by have:=(hr r hx).1; omega
 have kt:=ist_x (K:=K) (n:=N) (d:=d) (by omega) (by omega) hrl
 rw [h] at kt
 obtain ⟨ht,_⟩:=tri_tree h h3
 have k2:=HTre.tr (K:=K) N d ((N:Int)-1).toNat 0 (N-1) (by omega) hdl hr (by omega) (by omega) (by omega)
 have e1:((N-1:Nat):Int)=(N:Int)-1:=by omega
 rw [e1] at k2
 change K 652 _ [(btT N d).d] at k2
 have k3:=tri_i (K:=K) (x:=btT N d) (l:=0) (r:=(N:Int)-1) (c:=[]) (s:=[]) (by omega) (by omega) (by omega) (by omega) (by simp; omega) (by simp; omega)
 simp only [List.nil_append] at k3
 have hcl:=cnI_len (x:=btT N d) (l:=0) (r:=(N:Int)-1)
 have hup:=cnI_up (N:=N) (x:=btT N d) (l:=0) (r:=N-1) (by omega) (by omega)
 rw [e1] at hup
 have k4:=sortf3 (K:=K) (d:=cnI (btT N d) 0 ((N:Int)-1)) (by omega) (fun x hx=>up3_len (upN_up (hup x hx)))
 refine body_by (f:=ir_impl_TrianglesOf) rfl ?_; simp only [ir_impl_TrianglesOf,zn,zs,zq,zi,zg,zp]
 simp (disch:=first|omega|simp only[vl];omega) only [vcd]
 refine call_by (kt) rfl ?_
 simp (disch:=first|omega|simp only[vl];omega) only [vcd]
 refine call_by (k2) rfl ?_
 simp (disch:=first|omega|simp only[vl];omega) only [vcd,LL_nilT]
 refine call_by (k3) rfl ?_
 simp (disch:=first|omega|simp only[vl];omega) only [vcd]
 refine call_by (k4) rfl ?_
 simp (disch:=first|omega|simp only[vl];omega) only [vcd]
theorem qcf_at {N:Nat} {f:Nat→Nat} {c:Nat} (h:c<N):atI (qcf N f) c=f c:=by
 simp [atI,qcf,h]
theorem qcf_se {N:Nat} {f:Nat→Nat} {c:Nat} (h:c<N):seI (qcf N f) c ((f c:Int)+1)=qcf N (fun v=>f v+if v=c then 1 else 0):=by
 apply List.ext_getElem
 ·simp [seI,qcf]
 ·intro i h1 h2
  simp only [seI,qcf,qtn,List.getElem_set,List.getElem_map,List.getElem_range]
  by_cases e:i=c
  ·subst e
   simp
  ·have:¬ c=i:=fun q=>e q.symm
   simp [e,this]
theorem cS_perm {v:Nat} {L M:List (List Int)} (h:L.Perm M):cS v L=cS v M:=(h.filter _).length_eq
theorem qcf_0 {N:Nat} {f:Nat→Nat} (h:∀ v,f v=0):rep (N:Int) 0=qcf N f:=by
 apply List.ext_getElem
 ·simp [rep,qcf]
 ·intro i h1 h2
  simp [rep,qcf,h]
theorem cnt3 {N:Nat} {r:List Int} (h:upN N r) (v:Nat):(r.take 3).count (v:Int)=if hsV v r=true then 1 else 0:=by
 obtain ⟨a,b,c,rfl,h1,h2,_⟩:=h
 have ea:atI [(a:Int),(b:Int),(c:Int)] 0=a:=rfl
 have eb:atI [(a:Int),(b:Int),(c:Int)] 1=b:=rfl
 have ec:atI [(a:Int),(b:Int),(c:Int)] 2=c:=rfl
 simp only [hsV,ea,eb,ec,List.take,List.count_cons,List.count_nil,beq_iff_eq,Bool.or_eq_true,qde]
 by_cases p:(a:Int)=v
 ·have q1:¬ (b:Int)=v:=by omega
  have q2:¬ (c:Int)=v:=by omega
  simp [p,q1,q2]
 ·by_cases p1:(b:Int)=v
  ·have q2:¬ (c:Int)=v:=by omega
   simp [p,p1,q2]
  ·simp [p,p1]
theorem qdi_t [HA K] [HTre K] {N:Nat} {d:List (List Int)} (h:triX N d=true) (h3:3≤N):K 638 [.n N,LL d] [LI (qcf N fun v=>cS v (oA N d N N))]:=by
 have kt:=tgi_t (K:=K) h h3
 have hN:=(triX_parts h).1
 have hdl:d.length≤7:=by have:=(triX_parts h).2.1; omega
 have hr:=triX_rw h
 have hrl:∀ r∈d,r.length≤1099511627776:=fun r hx=>by have:=(hr r hx).1; omega
 have k0:=ist_x (K:=K) (n:=N) (d:=d) (by omega) (by omega) hrl
 rw [h] at k0
 obtain ⟨ht,hp⟩:=tri_tree h h3
 have e1:((N-1:Nat):Int)=(N:Int)-1:=by omega
 have hup:=cnI_up (N:=N) (x:=btT N d) (l:=0) (r:=N-1) (by omega) (by omega)
 rw [e1] at hup
 have hln:=cnI_len (x:=btT N d) (l:=0) (r:=(N:Int)-1)
 have hW:(oA N d N N).Perm (srfW (cnI (btT N d) 0 ((N:Int)-1))):=hp.trans srfW_perm.symm
 have hupW:∀ z∈srfW (cnI (btT N d) 0 ((N:Int)-1)),upN N z:=fun z hz=>hup z (srfW_perm.mem_iff.1 hz)
 have hlW:(srfW (cnI (btT N d) 0 ((N:Int)-1))).length≤8:=by rw [srfW_perm.length_eq]; omega
 have hf:(fun v=>cS v (oA N d N N))=fun v=>cS v (srfW (cnI (btT N d) 0 ((N:Int)-1))):=funext fun v=>cS_perm hW
 rw [hf]
 generalize srfW (cnI (btT N d) 0 ((N:Int)-1))=L at kt hupW hlW ⊢
 refine body_by (f:=ir_impl_QuiddityOf) rfl ?_; simp only [ir_impl_QuiddityOf,zn,zs,zq,zi,zg,zp]
 simp (disch:=first|omega|simp only[vl];omega) only [vcd]
 refine call_by (k0) rfl ?_
 simp (disch:=first|omega|simp only[vl];omega) only [vcd]
 refine call_by (kt) rfl ?_
 simp (disch:=first|omega|simp only[vl];omega) only [vcd]
 refine loop_ix (fun _=>True) (fun i=>[.u,.u,.u,LI (qcf N fun v=>cS v (L.take i)),.u,.u,.u,.u,LL L,.n L.length,.n i,.u,.u,.u,.u,.u]) L.length trivial ?_ (fun i hi _=>?_) (fun _=>?_)
 ·rw [qcf_0 (f:=fun v=>cS v (L.take 0)) (fun v=>rfl)]
  rfl
 ·obtain ⟨a,b,c,er,hab,hbc,hcN⟩:=hupW _ (atL_in3 hi)
  have h3l:(atL L i).length=3:=by rw [er]; rfl
  have hcS:∀ v,cS v (L.take i)≤8:=fun v=>by
   have:=List.length_filter_le (hsV v) (L.take i)
   have h2:(L.take i).length≤L.length:=List.length_take_le' ..
   unfold cS
   omega
  simp (disch:=first|omega|simp only[vl];omega) only [vcd]
  refine loop_ix (fun _=>True) (fun j=>[.u,.u,.u,LI (qcf N fun v=>cS v (L.take i)+((atL L i).take j).count (v:Int)),.u,.u,.u,.u,LL L,.n L.length,.n i,.u,LI (atL L i),.n 3,.n j,.u]) 3 trivial ?_ (fun j hj _=>?_) (fun _=>?_)
  ·rw [h3l]
   simp
  ·obtain ⟨x,hx,hxN⟩:∃ x:Nat,atI (atL L i) j=x∧x<N:=by
    rw [er]
    have:j=0∨j=1∨j=2:=by omega
    rcases this with rfl | rfl | rfl
    ·exact ⟨a,rfl,by omega⟩
    ·exact ⟨b,rfl,by omega⟩
    ·exact ⟨c,rfl,by omega⟩
   have hfl:∀ v,cS v (L.take i)+((atL L i).take j).count (v:Int)≤11:=fun v=>by
    have h1:=hcS v
    have h2:=List.count_le_length (a:=(v:Int)) (l:=(atL L i).take j)
    have h3:((atL L i).take j).length≤3:=by simp; omega
    omega
   have hnx:(fun v:Nat=>cS v (L.take i)+((atL L i).take (j+1)).count (v:Int))=fun v=>(cS v (L.take i)+((atL L i).take j).count (v:Int))+if v=x then 1 else 0:=funext fun v=>by
    have hg:(atL L i)[j]'(by omega)=(x:Int):=by
     rw [← hx]
     simp [atI,show j<(atL L i).length by omega]
    rw [qta (by omega),List.count_append,hg,List.count_singleton]
    by_cases e:v=x
    ·subst e
     simp; omega
    ·have e2:¬ (x:Int)=(v:Int):=by omega
     simp [e,e2]
   rw [hnx]
   have hfx:=hfl x
   have hql:=qcf_len (N:=N) (f:=fun v=>cS v (L.take i)+((atL L i).take j).count (v:Int))
   have hat:=qcf_at (N:=N) (f:=fun v=>cS v (L.take i)+((atL L i).take j).count (v:Int)) hxN
   have hse:=qcf_se (N:=N) (f:=fun v=>cS v (L.take i)+((atL L i).take j).count (v:Int)) hxN
   generalize (fun v=>cS v (L.take i)+((atL L i).take j).count (v:Int))=g at hql hat hse ⊢
   simp (disch:=first|omega|simp only[vl];omega) only [vcd,hx,hat,hse]
  ·have hnx:(fun v:Nat=>cS v (L.take i)+((atL L i).take 3).count (v:Int))=fun v=>cS v (L.take (i+1)):=funext fun v=>by
    rw [cS_s hi,cnt3 ⟨a,b,c,er,hab,hbc,hcN⟩]
   rw [hnx]
   simp (disch:=first|omega|simp only[vl];omega) only [vcd]
 ·simp (disch:=first|omega|simp only[vl];omega) only [vcd]
  rw [List.take_length]
end Go.Cat
