/-
 The law of Kreweras.
-/
import Derived.Test.YtjbonmaggidboaaPfKrN
set_option linter.unusedSimpArgs false
set_option linter.unusedVariables false
namespace Go.Cat
variable {K:Nat→List D→List D→Prop}
set_option maxRecDepth 100000
structure Wrap (G:Prop):Prop where
 g:G
theorem joinW {P G:Prop} (f:Wrap G→P) (g:G):P:=f ⟨g⟩
theorem catB:∀ r,r<16→0≤catL.getD r 0∧catL.getD r 0≤100000000:=by decide
set_option maxHeartbeats 4000000 in
theorem kre_law [HA K] (code:List Nat) (hb:∀ c∈code,c<256):K 399 [LB code] [.b true]:=by
 refine body_by (f:=ir_laws_FnKreweras) rfl ?_; simp only [ir_laws_FnKreweras,zn,zs,zq,zi,zg,zp]
 by_cases hl:code.length≤1048576
 ·obtain ⟨_,⟨p,rfl,hp6⟩,k1⟩:=DrawComplement_ok (K:=K) hl
  obtain ⟨_,⟨a,b,rfl,⟨ha,ha5⟩,hb6⟩,k2⟩:=DrawCoarserJoin_ok (K:=K) hl
  obtain ⟨_,⟨v,rfl,hv0,hv1⟩,k3⟩:=atN_ok (K:=K) hb
  obtain ⟨_,⟨g,h,rfl,hg,hh⟩,k4⟩:=DrawCountChains_ok (K:=K) hl
  obtain ⟨_,⟨e,f,rfl,⟨he,he5⟩,hf6⟩,k5⟩:=DrawMoebiusOf_ok (K:=K) hl
  obtain ⟨_,⟨t,rfl,ht6⟩,k6⟩:=DrawNoncrossingClosure_ok (K:=K) hl
  simp (disch:=first|omega|simp only[vl];omega) only [vcd]
  refine call_by (bigN_ok (K:=K)) rfl ?_
  simp (disch:=first|omega|simp only[vl];omega) only [vcd]
  refine call_by (k1) rfl ?_
  simp (disch:=first|omega|simp only[vl];omega) only [vcd]
  apply joinW
  ·intro T
   cases hp:ncF p
   ·refine call_by (cmp_i0 (K:=K) (by omega) hp) rfl ?_
    simp (disch:=first|omega|simp only[vl];omega) only [vcd]
    refine call_by (cmp_s0 (K:=K) (by omega) hp) rfl ?_
    simp (disch:=first|omega|simp only[vl];omega) only [vcd]
    refine call_by (sameN_ok (K:=K) (a:=[]) (by simp)) rfl ?_
    simp (disch:=first|omega|simp only[vl];omega) only [vcd]
    refine call_by (k2) rfl ?_
    simp (disch:=first|omega|simp only[vl];omega) only [vcd]
    exact T.1
   ·obtain ⟨d,hd1,hd2,hd3,hd4,hd5,x,hx1,hx2,hx3,hx4,hx5⟩:=cmp_all (K:=K) hp hp6
    refine call_by (hd4) rfl ?_
    simp (disch:=first|omega|simp only[vl];omega) only [vcd]
    refine call_by (hd5) rfl ?_
    simp (disch:=first|omega|simp only[vl];omega) only [vcd]
    refine call_by (sameN_ok (K:=K) (a:=d) (by omega)) rfl ?_
    simp (disch:=first|omega|simp only[vl];omega) only [vcd]
    refine call_by (hx3) rfl ?_
    simp (disch:=first|omega|simp only[vl];omega) only [vcd]
    refine call_by (hx4) rfl ?_
    simp (disch:=first|omega|simp only[vl];omega) only [vcd]
    refine call_by (nc_i (K:=K) (p:=d) (by omega)) rfl ?_
    rw [hd2]
    simp (disch:=first|omega|simp only[vl];omega) only [vcd]
    by_cases h0:0<p.length
    ·have hr:=hx5 h0
     have hrp:-1≤rkP p∧rkP p≤8:=by
      unfold rkP
      split
      ·rename_i hq
       have:=blF_le hq
       omega
      ·omega
     simp (disch:=first|omega|simp only[vl];omega) only [vcd]
     refine call_by (rkp_i (K:=K) (p:=p) (by omega)) rfl ?_
     simp (disch:=first|omega|simp only[vl];omega) only [vcd]
     refine call_by (rkp_i (K:=K) (p:=d) (by omega)) rfl ?_
     simp (disch:=first|omega|simp only[vl];omega) only [vcd]
     refine call_by (sameN_ok (K:=K) (a:=p) (by omega)) rfl ?_
     simp (disch:=first|omega|simp only[vl];omega) only [vcd]
     refine call_by (k2) rfl ?_
     simp (disch:=first|omega|simp only[vl];omega) only [vcd]
     exact T.1
    ·simp (disch:=first|omega|simp only[vl];omega) only [vcd]
     refine call_by (sameN_ok (K:=K) (a:=p) (by omega)) rfl ?_
     simp (disch:=first|omega|simp only[vl];omega) only [vcd]
     refine call_by (k2) rfl ?_
     simp (disch:=first|omega|simp only[vl];omega) only [vcd]
     exact T.1
  have hmm:=meF_same (b:=b) ha ha5
  have fm2:=fm_s (K:=K) (p:=a) (q:=b) (by omega) (by omega)
  rw [← hmm] at fm2
  apply joinW
  ·intro T
   cases hj:jnK a b
   ·have hml:(meF 100 a b).length≤1000:=by
     unfold meF
     split
     ·rw [rnL_len]; omega
     ·simp
    refine call_by (coj_i0 (K:=K) (by omega) (by omega) hj) rfl ?_
    simp (disch:=first|omega|simp only[vl];omega) only [vcd]
    refine call_by (coj_s0 (K:=K) (by omega) (by omega) hj) rfl ?_
    simp (disch:=first|omega|simp only[vl];omega) only [vcd]
    refine call_by (fm_i (K:=K) (p:=a) (q:=b) (by omega) (by omega)) rfl ?_
    simp (disch:=first|omega|simp only[vl];omega) only [vcd]
    refine call_by (fm2) rfl ?_
    simp (disch:=first|omega|simp only[vl];omega) only [vcd]
    refine call_by (sameN_ok (K:=K) (a:=[]) (by simp)) rfl ?_
    simp (disch:=first|omega|simp only[vl];omega) only [vcd]
    refine call_by (sameN_ok (K:=K) (a:=meF 100 a b) (by omega)) rfl ?_
    simp (disch:=first|omega|simp only[vl];omega) only [vcd]
    refine call_by (k3) rfl ?_
    simp (disch:=first|omega|simp only[vl];omega) only [vcd]
    exact T.1
   ·have hml:(meF 100 a b).length≤1000:=by
     unfold meF
     split
     ·rw [rnL_len]; omega
     ·simp
    obtain ⟨k,j1,j2,j3,j4,j5,j6,m1,m2,m3,x,y,x1,x2,x3⟩:=join_all (K:=K) hj ha5
    have hjt:=jnK_t hj
    have hxl:=cmR_len x1
    have hyl:=cmR_len x2
    obtain ⟨x',q1,_,_,_,q2,_⟩:=cmp_all (K:=K) (p:=a) ha (by omega)
    obtain ⟨y',r1,_,_,_,r2,_⟩:=cmp_all (K:=K) (p:=b) hjt.2.1 (by omega)
    rw [x1] at q1
    rw [x2] at r1
    cases q1
    cases r1
    refine call_by (j1) rfl ?_
    simp (disch:=first|omega|simp only[vl];omega) only [vcd]
    refine call_by (j2) rfl ?_
    simp (disch:=first|omega|simp only[vl];omega) only [vcd]
    refine call_by (fm_i (K:=K) (p:=a) (q:=b) (by omega) (by omega)) rfl ?_
    simp (disch:=first|omega|simp only[vl];omega) only [vcd]
    refine call_by (fm2) rfl ?_
    simp (disch:=first|omega|simp only[vl];omega) only [vcd]
    refine call_by (sameN_ok (K:=K) (a:=k) (by omega)) rfl ?_
    simp (disch:=first|omega|simp only[vl];omega) only [vcd]
    refine call_by (sameN_ok (K:=K) (a:=meF 100 a b) (by omega)) rfl ?_
    simp (disch:=first|omega|simp only[vl];omega) only [vcd]
    refine call_by (nc_i (K:=K) (p:=k) (by omega)) rfl ?_
    rw [j3]
    simp (disch:=first|omega|simp only[vl];omega) only [vcd]
    refine call_by (nc_i (K:=K) (p:=meF 100 a b) (by omega)) rfl ?_
    rw [m1]
    simp (disch:=first|omega|simp only[vl];omega) only [vcd]
    refine call_by (fin_i (K:=K) (p:=a) (q:=k) (by omega) (by omega)) rfl ?_
    rw [j4]
    simp (disch:=first|omega|simp only[vl];omega) only [vcd]
    refine call_by (fin_i (K:=K) (p:=b) (q:=k) (by omega) (by omega)) rfl ?_
    rw [j5]
    simp (disch:=first|omega|simp only[vl];omega) only [vcd]
    refine call_by (fin_i (K:=K) (p:=meF 100 a b) (q:=a) (by omega) (by omega)) rfl ?_
    rw [m2]
    simp (disch:=first|omega|simp only[vl];omega) only [vcd]
    refine call_by (fin_i (K:=K) (p:=meF 100 a b) (q:=b) (by omega) (by omega)) rfl ?_
    rw [m3]
    simp (disch:=first|omega|simp only[vl];omega) only [vcd]
    refine call_by (q2) rfl ?_
    simp (disch:=first|omega|simp only[vl];omega) only [vcd]
    refine call_by (r2) rfl ?_
    simp (disch:=first|omega|simp only[vl];omega) only [vcd]
    refine call_by (fin_i (K:=K) (p:=a) (q:=b) (by omega) (by omega)) rfl ?_
    simp (disch:=first|omega|simp only[vl];omega) only [vcd]
    refine call_by (fin_i (K:=K) (p:=y) (q:=x) (by omega) (by omega)) rfl ?_
    rw [x3]
    simp (disch:=first|omega|simp only[vl];omega) only [vcd]
    refine call_by (k3) rfl ?_
    simp (disch:=first|omega|simp only[vl];omega) only [vcd]
    exact T.1
  obtain ⟨s,hs,hs6⟩:∃ s:Nat,v % 6=(s:Int)∧s<6:=⟨(v % 6).toNat,by omega,by omega⟩
  obtain ⟨i,c1,c2,c3,c4⟩:=chain_all (K:=K) hg hh
  apply joinW
  ·intro T
   by_cases h0:s=0
   ·subst h0
    simp (disch:=first|omega|simp only[vl];omega) only [vcd,hs]
    refine call_by (k4) rfl ?_
    simp (disch:=first|omega|simp only[vl];omega) only [vcd]
    exact T.1
   ·simp (disch:=first|omega|simp only[vl];omega) only [vcd,hs]
    refine loop_ix (fun i=>True) (fun i=>[LB code,.u,.u,.u,.u,.u,.u,.u,.u,.u,.u,LI a,LI b,.u,.u,.u,.u,.u,.u,.u,.u,.u,.u,.n s,LI (lowF i),LI (List.replicate i 0),.n i,.u,.u,.u,.u,.u,.u,.u,.u,.u,.u,.u,.u,.u,.u,.u,.u,.u,.u,.u,.u,.u,.u,.u,.u,.u,.u,.u,.u,.u,.u]) s trivial rfl (fun i hi hP=>?_) (fun hP=>?_)
    ·have hli:(lowF i).length=i:=lowF_len
     have hri:(List.replicate i (0:Int)).length=i:=by simp
     simp (disch:=first|omega|simp only[vl];omega) only [vcd]
     have e1:lowF i++[(i:Int)]=lowF (i+1):=lowF_s.symm
     have e2:List.replicate i (0:Int)++[0]=List.replicate (i+1) 0:=List.replicate_succ'.symm
     rw [e1,e2]
     rfl
    ·have hls:(lowF s).length=s:=lowF_len
     have hv:=allB_spec mbV_low s hs6
     have hs0:(s == 0)=false:=by simp [h0]
     simp only [hs0,Bool.false_or,qba,qde] at hv
     obtain ⟨v1,v2,v3,v4⟩:=hv
     have hR:mbR (lowF s) (List.replicate s 0)=(catK s,true):=by
      unfold mbR
      rw [if_pos ⟨v1,v2,by simp [hls],by omega⟩,if_pos v3,hls,v4]
     have km:=mbo_i (K:=K) (p:=lowF s) (q:=List.replicate s 0) (by omega) (by simp; omega)
     rw [hR] at km
     obtain ⟨r,rfl⟩:∃ r,s=r+1:=⟨s-1,by omega⟩
     have kc:=cat_i (K:=K) (n:=r) (by omega)
     have er:(r:Int)+1-1=(r:Int):=by omega
     simp (disch:=first|omega|simp only[vl];omega) only [vcd]
     refine call_by (km) rfl ?_
     simp (disch:=first|omega|simp only[vl];omega) only [vcd]
     simp only [er]
     refine call_by (kc) rfl ?_
     have hcb:0≤catL.getD r 0∧catL.getD r 0≤100000000:=catB r (by omega)
     by_cases hpar:(r+1) % 2=0
     ·have ec:catK (r+1)=-(catL.getD r 0):=by simp [catK,hpar]
      have hpi:((r+1:Nat):Int) % 2=0:=by omega
      simp (disch:=first|omega|simp only[vl];omega) only [vcd,ec,hpi]
      refine call_by (k4) rfl ?_
      simp (disch:=first|omega|simp only[vl];omega) only [vcd]
      exact T.1
     ·have ec:catK (r+1)=catL.getD r 0:=by simp [catK,hpar]
      have hpi:((r+1:Nat):Int) % 2=1:=by omega
      simp (disch:=first|omega|simp only[vl];omega) only [vcd,ec,hpi]
      refine call_by (k4) rfl ?_
      simp (disch:=first|omega|simp only[vl];omega) only [vcd]
      exact T.1
  apply joinW
  ·intro T
   refine call_by (c1) rfl ?_
   simp (disch:=first|omega|simp only[vl];omega) only [vcd]
   refine call_by (c2) rfl ?_
   simp (disch:=first|omega|simp only[vl];omega) only [vcd]
   by_cases q1:0≤i
   ·by_cases q2:0<g
    ·obtain ⟨v,kv,hv⟩:=c4 q1 q2
     have b1:0≤g*i:=Int.mul_nonneg hg.1 q1
     have b2:g*i≤5*10000000:=Int.mul_le_mul hg.2 c3.2 q1 (by omega)
     have b3:0≤(h+1)*g:=Int.mul_nonneg (by omega) hg.1
     have b4:(h+1)*g≤7*5:=Int.mul_le_mul (by omega) hg.2 hg.1 (by omega)
     simp (disch:=first|omega|simp only[vl];omega) only [vcd]
     refine call_by (kv) rfl ?_
     by_cases q3:(h+1)*g-g+1≤15
     ·have hv:=hv q3
      simp (disch:=first|omega|simp only[vl];omega) only [vcd,hv]
      refine call_by (k5) rfl ?_
      simp (disch:=first|omega|simp only[vl];omega) only [vcd]
      exact T.1
     ·by_cases q4:g*i=v
      ·simp (disch:=first|omega|simp only[vl];omega) only [vcd,q4]
       refine call_by (k5) rfl ?_
       simp (disch:=first|omega|simp only[vl];omega) only [vcd]
       exact T.1
      ·simp (disch:=first|omega|simp only[vl];omega) only [vcd]
       refine call_by (k5) rfl ?_
       simp (disch:=first|omega|simp only[vl];omega) only [vcd]
       exact T.1
    ·simp (disch:=first|omega|simp only[vl];omega) only [vcd]
     refine call_by (k5) rfl ?_
     simp (disch:=first|omega|simp only[vl];omega) only [vcd]
     exact T.1
   ·simp (disch:=first|omega|simp only[vl];omega) only [vcd]
    refine call_by (k5) rfl ?_
    simp (disch:=first|omega|simp only[vl];omega) only [vcd]
    exact T.1
  have mi:=mbo_i (K:=K) (p:=e) (q:=f) (by omega) (by omega)
  have ms:=mbo_s (K:=K) (p:=e) (q:=f) (by omega) (by omega)
  have fa:=fin_i (K:=K) (p:=a) (q:=b) (by omega) (by omega)
  have fs:=fin_s (K:=K) (p:=a) (q:=b) (by omega) (by omega)
  have ra:=rkp_i (K:=K) (p:=t) (by omega)
  have rs:=rkp_s (K:=K) (p:=t) (by omega)
  obtain ⟨y,n1,n2,n3,n4⟩:=clo_all (K:=K) (t:=t) ht6
  have hrk:-1≤rkP t∧rkP t≤8:=by
   unfold rkP
   split
   ·rename_i hq
    have:=blF_le hq
    omega
   ·omega
  generalize mbR e f=w at mi ms
  obtain ⟨w1,w2⟩:=w
  generalize fiF a b=z at fa fs
  generalize rkP t=rk at ra rs hrk
  refine call_by (mi) rfl ?_
  simp (disch:=first|omega|simp only[vl];omega) only [vcd]
  refine call_by (ms) rfl ?_
  simp (disch:=first|omega|simp only[vl];omega) only [vcd]
  refine call_by (k6) rfl ?_
  simp (disch:=first|omega|simp only[vl];omega) only [vcd]
  refine call_by (n1) rfl ?_
  simp (disch:=first|omega|simp only[vl];omega) only [vcd]
  refine call_by (n2) rfl ?_
  cases hpt:isPt t
  ·cases w2 <;> cases z <;>
    ·simp (disch:=first|omega|simp only[vl];omega) only [vcd]
     refine call_by (sameN_ok (K:=K) (a:=y) (by omega)) rfl ?_
     simp (disch:=first|omega|simp only[vl];omega) only [vcd]
     refine call_by (fa) rfl ?_
     simp (disch:=first|omega|simp only[vl];omega) only [vcd]
     refine call_by (fs) rfl ?_
     simp (disch:=first|omega|simp only[vl];omega) only [vcd]
     refine call_by (ra) rfl ?_
     simp (disch:=first|omega|simp only[vl];omega) only [vcd]
     refine call_by (rs) rfl ?_
     simp (disch:=first|omega|simp only[vl];omega) only [vcd]
  ·obtain ⟨o1,o2⟩:=n4 hpt
   have fy:=fin_i (K:=K) (p:=t) (q:=y) (by omega) (by omega)
   have ny:=nc_i (K:=K) (p:=y) (by omega)
   rw [o2] at fy
   rw [o1] at ny
   cases w2 <;> cases z <;>
    ·simp (disch:=first|omega|simp only[vl];omega) only [vcd]
     refine call_by (sameN_ok (K:=K) (a:=y) (by omega)) rfl ?_
     simp (disch:=first|omega|simp only[vl];omega) only [vcd]
     refine call_by (ny) rfl ?_
     simp (disch:=first|omega|simp only[vl];omega) only [vcd]
     refine call_by (fy) rfl ?_
     simp (disch:=first|omega|simp only[vl];omega) only [vcd]
     refine call_by (fa) rfl ?_
     simp (disch:=first|omega|simp only[vl];omega) only [vcd]
     refine call_by (fs) rfl ?_
     simp (disch:=first|omega|simp only[vl];omega) only [vcd]
     refine call_by (ra) rfl ?_
     simp (disch:=first|omega|simp only[vl];omega) only [vcd]
     refine call_by (rs) rfl ?_
     simp (disch:=first|omega|simp only[vl];omega) only [vcd]
 ·simp (disch:=first|omega|simp only[vl];omega) only [vcd]
  refine call_by (bigN_ok (K:=K)) rfl ?_
  simp (disch:=first|omega|simp only[vl];omega) only [vcd]
