/-
 Draws of triangulations, quiddities, matchings.
-/
import Derived.Test.YtnjjceodpbhlmaaGreatPfRotB
set_option linter.unusedSimpArgs false
set_option linter.unusedVariables false
namespace Go.Cat
variable {K:Nat→List D→List D→Prop}
set_option maxRecDepth 100000
theorem AQ5 {d:List (List Int)} {r:List Int} (h:0<d.length):Aa [0] (LL d) (LI r)=some (LL (d.set 0 r)):=by
 exact JH LI h
theorem Mo [HA K] {d:D} (hd:BJ d) {l:List Int} (h0:0<l.length) (hl:l.length≤1000000):∃ rs,(∃ x d',rs=[.n x,d']∧x∈l∧BJ d')∧K 313 [d,LI l] rs:=by
 refine Bg (f:=IP) rfl ?_; simp only [IP,zu]
 obtain ⟨_,⟨x1,d1,rfl,hx1,hd1⟩,k1⟩:=CQ (K:=K) hd (n:=l.length)
 have hx:=hx1.2 (by omega)
 have hm:AD l x1∈l:=by
  have:x1.toNat<l.length:=by omega
  simp [AD,this]
 simp (disch:=omega) only [AA]
 refine AE (k1) rfl ?_
 simp (disch:=omega) only [AA]
 exact ⟨_,_,rfl,hm,hd1⟩
theorem ANI [HA K] {d:D} (hd:BJ d):∃ rs,(∃ n r d',rs=[.n n,LL r,d']∧((n=9223372036854775807∨-1≤n∧n≤9)∧r.length≤20∧∀ z∈r,z.length≤3)∧BJ d')∧K 650 [d] rs:=by
 refine Bg (f:=Na) rfl ?_; simp only [Na,zu]
 obtain ⟨_,⟨w,d1,rfl,hw,hd1⟩,k1⟩:=TJ (K:=K) hd
 obtain ⟨x,hxl,hx8,k2⟩:=QT (K:=K) hw.1
 have k3:=AOQ (K:=K) hx8
 have htl:=AJO (x:=x)
 have htl2:=Q0 (x:=x) (l:=0) (r:=(x.n:Int)+1)
 have hrow:∀ z∈Jn x,z.length≤3:=fun z hz=>by
  have:=Tz z (AHU.1 hz)
  have h2:z.length=2:=this
  omega
 generalize Jn x=t at k3 htl hrow
 obtain ⟨_,⟨m,d2,rfl,hm,hd2⟩,k4⟩:=CQ (K:=K) hd1 (n:=14)
 have hm:=hm.2 (by omega)
 have e1:(w.length:Int) / 2=x.n:=by omega
 have e2:Int.tdiv (w.length:Int) 2=x.n:=by rw [Int.tdiv_eq_ediv_of_nonneg (by omega)]; exact e1
 simp (disch:=first|omega|simp only[vl];omega) only [AA]
 refine AE (k1) rfl ?_
 simp (disch:=first|omega|simp only[vl];omega) only [AA]
 refine AE (k2) rfl ?_
 simp (disch:=first|omega|simp only[vl];omega) only [AA]
 refine AE (k3) rfl ?_
 simp (disch:=first|omega|simp only[vl];omega) only [AA,e2]
 refine AE (k4) rfl ?_
 simp (disch:=first|omega|simp only[vl];omega) only [AA]
 by_cases m0:m=0
 ·obtain ⟨_,⟨y,d3,rfl,hy,hd3⟩,k5⟩:=Mo (K:=K) hd2 (l:=[(w.length:Int) / 2+2+1,0,-1,9223372036854775807]) (by simp) (by simp)
  simp (disch:=first|omega|simp only[vl];omega) only [AA,m0,Gz,Gv]
  refine AE (k5) rfl ?_
  simp (disch:=first|omega|simp only[vl];omega) only [AA]
  refine ⟨_,_,_,rfl,⟨?_,by omega,hrow⟩,hd3⟩
  simp only [A5,Cg,or_false] at hy
  omega
 ·by_cases m1:m=1
  ·by_cases t0:0<t.length
   ·obtain ⟨_,⟨y,d3,rfl,hy,hd3⟩,k5⟩:=CQ (K:=K) hd2 (n:=5)
    have hy:=hy.2 (by omega)
    obtain ⟨_,⟨z,d4,rfl,hz,hd4⟩,k6⟩:=CQ (K:=K) hd3 (n:=6)
    simp (disch:=first|omega|simp only[vl];omega) only [AA,m1]
    refine AE (k5) rfl ?_
    simp (disch:=first|omega|simp only[vl];omega) only [AA]
    refine AE (k6) rfl ?_
    simp (disch:=first|omega|simp only[vl];omega) only [AA,AQ5]
    refine ⟨_,_,_,rfl,⟨by omega,by simp; omega,fun q hq=>?_⟩,hd4⟩
    rcases List.mem_or_eq_of_mem_set hq with h | h
    ·exact hrow q h
    ·rw [h]; simp
   ·simp (disch:=first|omega|simp only[vl];omega) only [AA,m1]
    exact ⟨_,_,_,rfl,⟨by omega,by omega,hrow⟩,hd2⟩
  ·by_cases m2:m=2
   ·simp (disch:=first|omega|simp only[vl];omega) only [AA,m2,Jd]
    refine ⟨_,_,_,rfl,⟨by omega,by simp; omega,fun q hq=>?_⟩,hd2⟩
    rcases A8.1 hq with h | h
    ·exact hrow q h
    ·rw [List.mem_singleton.1 h]; simp
   ·simp (disch:=first|omega|simp only[vl];omega) only [AA]
    exact ⟨_,_,_,rfl,⟨by omega,by omega,hrow⟩,hd2⟩
theorem AJW [HA K] {n:Int} {d:List (List Int)} (h:Ar 2 10 n=false):K 636 [.n n,LL d] [LI []]:=by
 have k1:=Cs (K:=K) (x:=n) (a:=2) (b:=10)
 rw [h] at k1
 have k2:K 600 [.n n,LL d] [.b false]:=by
  refine AG (f:=Il) rfl ?_; simp only [Il,zu]
  simp (disch:=omega) only [AA]
  refine AE (k1) rfl ?_
  simp (disch:=omega) only [AA]
 have k3:K 645 [.n n,LL d] [LL [],.b false]:=by
  refine AG (f:=GO) rfl ?_; simp only [GO,zu]
  simp (disch:=omega) only [AA]
  refine AE (k2) rfl ?_
  simp (disch:=omega) only [AA]
  rfl
 refine AG (f:=F5) rfl ?_; simp only [F5,zu]
 by_cases h3:n<3
 ·simp (disch:=omega) only [AA]
  rfl
 ·simp (disch:=omega) only [AA]
  refine AE (k3) rfl ?_
  simp (disch:=omega) only [AA]
  refine Ag (fun _=>True) (fun _=>[.n n,.u,.u,LI [],LL [],.b false,.n 0,.u,.u,.u,.u,.u,.u]) 0 trivial rfl (fun v hv _=>by omega) (fun _=>?_)
  simp (disch:=omega) only [AA]
theorem AL5 [HA K] {n:Int} {d:List (List Int)} (hn:n=9223372036854775807∨-1≤n∧n≤9) (hd:d.length≤20) (hr:∀ z∈d,z.length≤3):∃ q:List Int,q.length≤9∧K 636 [.n n,LL d] [LI q]:=by
 cases hb:Ar 2 10 n with
 | false=>exact ⟨[],by simp,AJW (K:=K) hb⟩
 | true=>
  have h2:=BG.1 hb
  by_cases h3:n<3
  ·exact ⟨[],by simp,AMA (K:=K) h3⟩
  ·obtain ⟨N,rfl⟩:=Fa (show 0≤n by omega)
   cases ht:Bh N d with
   | false=>exact ⟨[],by simp,AHN (K:=K) (by omega) (by omega) (fun z hz=>by have:=hr z hz; omega) ht⟩
   | true=>exact ⟨_,by rw [QJ]; omega,UR (K:=K) ht (by omega)⟩
theorem WC [HA K] {d:D} (hd:BJ d):∃ rs,(∃ x d',rs=[LI x,d']∧x.length≤9∧BJ d')∧K 641 [d] rs:=by
 refine Bg (f:=Kg) rfl ?_; simp only [Kg,zu]
 obtain ⟨_,⟨n,r,d1,rfl,⟨h1,h2,h3⟩,hd1⟩,k1⟩:=ANI (K:=K) hd
 obtain ⟨q,hq,k2⟩:=AL5 (K:=K) h1 h2 h3
 simp (disch:=omega) only [AA]
 refine AE (k1) rfl ?_
 simp (disch:=omega) only [AA]
 refine AE (k2) rfl ?_
 by_cases q0:0<q.length
 ·obtain ⟨_,⟨b,d2,rfl,hd2⟩,k3⟩:=Fw (K:=K) hd1 (n:=5)
  simp (disch:=omega) only [AA]
  refine AE (k3) rfl ?_
  cases b
  ·simp (disch:=omega) only [AA]
   exact ⟨_,_,rfl,hq,hd2⟩
  ·obtain ⟨_,⟨i,d3,rfl,hi,hd3⟩,k4⟩:=CQ (K:=K) hd2 (n:=q.length)
   have hi:=hi.2 (by omega)
   obtain ⟨_,⟨y,d4,rfl,_,hd4⟩,k5⟩:=Mo (K:=K) hd3 (l:=[0,1,2,3,101,-1]) (by simp) (by simp)
   simp (disch:=omega) only [AA]
   refine AE (k4) rfl ?_
   simp (disch:=omega) only [AA,Gz,Gv]
   refine AE (k5) rfl ?_
   simp (disch:=omega) only [AA]
   exact ⟨_,_,rfl,by rw [Eg]; exact hq,hd4⟩
 ·simp (disch:=omega) only [AA]
  exact ⟨_,_,rfl,hq,hd1⟩
end Go.Cat
namespace Go.Cat
variable {K:Nat→List D→List D→Prop}
set_option maxRecDepth 100000
theorem Sv:D.l []=LI []:=rfl
theorem Xp [HA K] {w:List Nat} (hd:BW w=true):∃ m:List Int,m.length≤16∧K 356 [.s w] [LI m,.b true]:=⟨_,AJI hd,(ASC (K:=K) hd).2⟩
def HN (n:Nat):List Int:=(List.range n).map fun j:Nat=>(j:Int)
theorem AFJ {n:Nat}:(HN n).length=n:=by simp [HN]
theorem APO {n:Nat}:HN (n+1)=HN n++[(n:Int)]:=by simp [HN,List.range_succ]
theorem APQ {n:Nat} {x:Int} (h:x∈HN n):0≤x∧x<n:=by
 obtain ⟨j,hj,rfl⟩:=List.mem_map.1 h
 have:=List.mem_range.1 hj
 omega
theorem Uc {l:List Int} {i j x:Int} (h:x∈sub l i j):x∈l:=List.mem_of_mem_take (List.mem_of_mem_drop h)
theorem AP3 [HA K] {d:D} (hd:BJ d):∃ rs,(∃ x d',rs=[LI x,d']∧x.length≤16∧BJ d')∧K 642 [d] rs:=by
 refine Bg (f:=Mv) rfl ?_; simp only [Mv,zu]
 obtain ⟨_,⟨w,d1,rfl,hw,hd1⟩,k1⟩:=TJ (K:=K) hd
 obtain ⟨m0,hm0,k2⟩:=Xp (K:=K) hw.1
 obtain ⟨_,⟨b1,d2,rfl,hd2⟩,k3⟩:=Fw (K:=K) hd1 (n:=3)
 have hfin:∀ {d:D} {p:List Int},BJ d→0<p.length→∃ (b:Bool) (d':D) (i:Int) (d'':D) (y:Int) (d''':D),BJ d'∧BJ d'''∧(0≤i∧i<p.length)∧K 307 [d,.n 12] [.b b,d']∧K 289 [d',.n p.length] [.n i,d'']∧K 313 [d'',LI [-1,0,1,9223372036854775807]] [.n y,d''']:=by
  intro d p hd hp
  obtain ⟨_,⟨b,d',rfl,hd'⟩,k⟩:=Fw (K:=K) hd (n:=12)
  obtain ⟨_,⟨i,d'',rfl,hi,hd''⟩,k'⟩:=CQ (K:=K) hd' (n:=p.length)
  obtain ⟨_,⟨y,d''',rfl,_,hd'''⟩,k''⟩:=Mo (K:=K) hd'' (l:=[-1,0,1,9223372036854775807]) (by simp) (by simp)
  exact ⟨b,d',i,d'',y,d''',hd',hd''',hi.2 (by omega),k,k',k''⟩
 simp (disch:=first|omega|simp only[vl];omega) only [AA,Sv]
 refine AE (k1) rfl ?_
 simp (disch:=first|omega|simp only[vl];omega) only [AA]
 refine AE (k2) rfl ?_
 simp (disch:=first|omega|simp only[vl];omega) only [AA]
 refine AE (k3) rfl ?_
 cases b1
 ·simp (disch:=first|omega|simp only[vl];omega) only [AA]
  by_cases h0:0<m0.length
  ·obtain ⟨b,e1,i,e2,y,e3,h1,h2,h3,k5,k6,k7⟩:=hfin (p:=m0) hd2 h0
   simp (disch:=first|omega|simp only[vl];omega) only [AA]
   refine AE (k5) rfl ?_
   cases b
   ·simp (disch:=first|omega|simp only[vl];omega) only [AA]
    exact ⟨_,_,rfl,by omega,h1⟩
   ·simp (disch:=first|omega|simp only[vl];omega) only [AA]
    refine AE (k6) rfl ?_
    simp (disch:=first|omega|simp only[vl];omega) only [AA,Gz,Gv]
    refine AE (k7) rfl ?_
    simp (disch:=first|omega|simp only[vl];omega) only [AA]
    exact ⟨_,_,rfl,by rw [Eg]; omega,h2⟩
  ·simp (disch:=first|omega|simp only[vl];omega) only [AA]
   exact ⟨_,_,rfl,by omega,hd2⟩
 ·obtain ⟨_,⟨n,d3,rfl,hn,hd3⟩,k4⟩:=CQ (K:=K) hd2 (n:=5)
  have hn:=hn.2 (by omega)
  obtain ⟨N,hN⟩:∃ N:Nat,2*n=(N:Int):=⟨(2*n).toNat,by omega⟩
  have hN8:N≤8:=by omega
  simp (disch:=first|omega|simp only[vl];omega) only [AA]
  refine AE (k4) rfl ?_
  simp (disch:=first|omega|simp only[vl];omega) only [AA,hN,Sv]
  refine Ag (fun _=>True) (fun i=>[d3,.u,LI (rep (N:Int) 0),.n N,LI (HN i),.n i,.u,.u,.u,.u,.u]) N trivial rfl (fun i hi _=>?_) (fun _=>?_)
  ·have hl:=AFJ (n:=i)
   simp (disch:=first|omega|simp only[vl];omega) only [AA]
   rw [APO]
  ·simp (disch:=first|omega|simp only[vl];omega) only [AA]
   refine B9 (fun (q:D×List Int×List Int×D)=>BJ q.1∧q.2.1.length=N∧q.2.2.1.length≤N∧∀ x∈q.2.2.1,0≤x∧x<N) (fun q=>[q.1,.u,LI q.2.1,q.2.2.2,LI q.2.2.1,q.2.2.2,.u,.u,.u,.u,.u]) (fun q=>q.2.2.1.length) (d3,rep (N:Int) 0,HN N,.n N) ⟨hd3,by simp [rep],by simp [AFJ],fun x hx=>APQ hx⟩ rfl ?_
   rintro ⟨d4,m,fr,du⟩ ⟨hd4,hm,hf,hx⟩
   simp only at hd4 hm hf hx ⊢
   by_cases hf1:1<fr.length
   ·obtain ⟨_,⟨k,d5,rfl,hk,hd5⟩,k5⟩:=CQ (K:=K) hd4 (n:=(fr.length:Int)-1)
    have hk:=hk.2 (by omega)
    have b0:=hx (AD fr 0) (by
     have:0<fr.length:=by omega
     have e:AD fr 0=fr[0]:=by simp [AD,this]
     rw [e]; exact List.getElem_mem _)
    have b1:=hx (AD fr (1+k)) (by
     have:(1+k).toNat<fr.length:=by omega
     have e:AD fr (1+k)=fr[(1+k).toNat]:=by simp [AD,this]
     rw [e]; exact List.getElem_mem _)
    have l1:(sub fr 1 (1+k)).length≤k.toNat:=by simp [sub]; omega
    have l2:(sub fr (1+k+1) fr.length).length≤fr.length-(k.toNat+2):=by simp [sub]; omega
    simp (disch:=first|omega|simp only[vl];omega) only [AA]
    refine AE (k5) rfl ?_
    simp (disch:=first|omega|simp only[vl];omega) only [AA,Sv]
    refine ⟨(d5,Aw (Aw m (AD fr 0) (AD fr (1+k))) (AD fr (1+k)) (AD fr 0),sub fr 1 (1+k)++sub fr (1+k+1) fr.length,.u),?_,⟨hd5,by simp only [Eg]; exact hm,?_,fun x hx2=>?_⟩,?_⟩
    ·simp only [Ad]; omega
    ·simp only [Ad]; omega
    ·rcases A8.1 hx2 with q | q
     ·exact hx x (Uc q)
     ·exact hx x (Uc q)
    ·rfl
   ·simp (disch:=first|omega|simp only[vl];omega) only [AA]
    by_cases h0:0<m.length
    ·obtain ⟨b,e1,i,e2,y,e3,h1,h2,h3,k5,k6,k7⟩:=hfin (p:=m) hd4 h0
     simp (disch:=first|omega|simp only[vl];omega) only [AA]
     refine AE (k5) rfl ?_
     cases b
     ·simp (disch:=first|omega|simp only[vl];omega) only [AA]
      exact ⟨_,_,rfl,by omega,h1⟩
     ·simp (disch:=first|omega|simp only[vl];omega) only [AA]
      refine AE (k6) rfl ?_
      simp (disch:=first|omega|simp only[vl];omega) only [AA,Gz,Gv]
      refine AE (k7) rfl ?_
      simp (disch:=first|omega|simp only[vl];omega) only [AA]
      exact ⟨_,_,rfl,by rw [Eg]; omega,h2⟩
    ·simp (disch:=first|omega|simp only[vl];omega) only [AA]
     exact ⟨_,_,rfl,by omega,hd4⟩
end Go.Cat
namespace Go.Cat
variable {K:Nat→List D→List D→Prop}
end Go.Cat
