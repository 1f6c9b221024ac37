/-
 Draws of triangulations, quiddities, matchings.
-/
import Derived.Test.YthoilpmggmenbaaGreatQd0LawReports
import Derived.Test.YthoilpmggmenbaaGreatQd1LawReports
import Derived.Test.YthoilpmggmenbaaGreatQd2LawReports
import Derived.Test.YthoilpmggmenbaaGreatQd3LawReports
import Derived.Test.YthoilpmggmenbaaGreatPfCkQ
import Derived.Test.YthoilpmggmenbaaGreatPfPLine
import Derived.Test.YthoilpmggmenbaaGreatPfAp2
import Derived.Test.YthoilpmggmenbaaGreatPfRotC
import Derived.Test.YthoilpmggmenbaaGreatPfPairB
import Derived.Test.YthoilpmggmenbaaGreatPfCntL
import Derived.Test.YthoilpmggmenbaaGreatPfFrzJ
import Derived.Test.YthoilpmggmenbaaGreatPfSvC
set_option linter.unusedSimpArgs false
set_option linter.unusedVariables false
namespace Go.Cat
variable{K:Nat→List D→List D→Prop}
set_option maxRecDepth 100000
theorem AYD{d:List (List Int)}{r:List Int}(h:0<d.length):Ao [0] (LL d) (LI r)=some (LL (d.set 0 r)):=by exact JA LI h
theorem AJ5[HA K]{d:D}(hd:Br d){l:List Int}(h0:0<l.length)(hl:l.length≤1000000):∃rs,(∃x d',rs=[.n x,d']∧x∈l∧Br d')∧K 313 [d,LI l] rs:=by
 refine qx AAP rfl ?_;simp only[AAP];obtain⟨_,⟨x1,d1,rfl,hx1,hd1⟩,k1⟩:=DT (K:=K) hd (n:=l.length);have hx:=hx1.2 (by omega);have hm:AE l x1∈l:=by
  have:x1.toNat<l.length:=by omega
  simp[AE,this]
 simp(disch:=omega) only[AA];refine AD (k1) rfl ?_;simp(disch:=omega) only[AA];exact⟨_,_,rfl,hm,hd1⟩
theorem AXV[HA K]{d:D}(hd:Br d):∃rs,(∃n r d',rs=[.n n,LL r,d']∧((n=9223372036854775807∨-1≤n∧n≤9)∧r.length≤20∧∀z∈r,z.length≤3)∧Br d')∧K 650 [d] rs:=by
 refine qx ANC rfl ?_;simp only[ANC];obtain⟨_,⟨w,d1,rfl,hw,hd1⟩,k1⟩:=XF (K:=K) hd;obtain⟨x,hxl,hx8,k2⟩:=Ob (K:=K) hw.1;have k3:=MT (K:=K) hx8;have htl:=Tj (x:=x);have htl2:=LQ (x:=x) (l:=0) (r:=(x.n:Int)+1);have hrow:∀z∈BP x,z.length≤3:=fun z hz=>by have:=JO z (Ps.1 hz);have h2:z.length=2:=this;omega
 generalize BP x=t at k3 htl hrow;obtain⟨_,⟨m,d2,rfl,hm,hd2⟩,k4⟩:=DT (K:=K) hd1 (n:=14);have hm:=hm.2 (by omega);have e1:(w.length:Int)/2=x.n:=by omega
 have e2:Int.tdiv (w.length:Int) 2=x.n:=by rw[Int.tdiv_eq_ediv_of_nonneg (by omega)];exact e1
 simp(disch:=first|omega|simp only[vl];omega) only[AA];refine AD (k1) rfl ?_;simp(disch:=first|omega|simp only[vl];omega) only[AA];refine AD (k2) rfl ?_;simp(disch:=first|omega|simp only[vl];omega) only[AA];refine AD (k3) rfl ?_;simp(disch:=first|omega|simp only[vl];omega) only[AA,e2];refine AD (k4) rfl ?_;simp(disch:=first|omega|simp only[vl];omega) only[AA];by_cases m0:m=0
 ·obtain⟨_,⟨y,d3,rfl,hy,hd3⟩,k5⟩:=AJ5 (K:=K) hd2 (l:=[(w.length:Int)/2+2+1,0,-1,9223372036854775807]) (by simp) (by simp);simp(disch:=first|omega|simp only[vl];omega) only[AA,m0,AFQ,AF5];refine AD (k5) rfl ?_;simp(disch:=first|omega|simp only[vl];omega) only[AA];refine⟨_,_,_,rfl,⟨?_,by omega,hrow⟩,hd3⟩;simp only[Aa,DA,or_false]at hy;omega
 ·by_cases m1:m=1
  ·by_cases t0:0<t.length
   ·obtain⟨_,⟨y,d3,rfl,hy,hd3⟩,k5⟩:=DT (K:=K) hd2 (n:=5);have hy:=hy.2 (by omega);obtain⟨_,⟨z,d4,rfl,hz,hd4⟩,k6⟩:=DT (K:=K) hd3 (n:=6);simp(disch:=first|omega|simp only[vl];omega) only[AA,m1];refine AD (k5) rfl ?_;simp(disch:=first|omega|simp only[vl];omega) only[AA];refine AD (k6) rfl ?_;simp(disch:=first|omega|simp only[vl];omega) only[AA,AYD];refine⟨_,_,_,rfl,⟨by omega,by simp;omega,fun q hq=>?_⟩,hd4⟩;rcases List.mem_or_eq_of_mem_set hq with h|h
    ·exact hrow q h
    ·rw[h];simp
   ·simp(disch:=first|omega|simp only[vl];omega) only[AA,m1];exact⟨_,_,_,rfl,⟨by omega,by omega,hrow⟩,hd2⟩
  ·by_cases m2:m=2
   ·simp(disch:=first|omega|simp only[vl];omega) only[AA,m2,Li];refine⟨_,_,_,rfl,⟨by omega,by simp;omega,fun q hq=>?_⟩,hd2⟩;rcases Af.1 hq with h|h
    ·exact hrow q h
    ·rw[List.mem_singleton.1 h];simp
   ·simp(disch:=first|omega|simp only[vl];omega) only[AA];exact⟨_,_,_,rfl,⟨by omega,by omega,hrow⟩,hd2⟩
theorem AcV[HA K]{n:Int}{d:List (List Int)}(h:AV 2 10 n=false):K 636 [.n n,LL d] [LI []]:=by
 have k1:=Bj (K:=K) (x:=n) (a:=2) (b:=10);rw[h]at k1;have k2:K 600 [.n n,LL d] [.b false]:=by refine qb Kp rfl ?_;simp only[Kp];simp(disch:=omega) only[AA];refine AD (k1) rfl ?_;simp(disch:=omega) only[AA]
 have k3:K 645 [.n n,LL d] [LL [],.b false]:=by refine qb LY rfl ?_;simp only[LY];simp(disch:=omega) only[AA];refine AD (k2) rfl ?_;simp(disch:=omega) only[AA];rfl
 refine qb I7 rfl ?_;simp only[I7];by_cases h3:n<3
 ·simp(disch:=omega) only[AA];rfl
 ·simp(disch:=omega) only[AA];refine AD (k3) rfl ?_;simp(disch:=omega) only[AA];refine AL (fun _=>True) (fun _=>[.n n,.u,.u,LI [],LL [],.b false,.n 0,.u,.u,.u,.u,.u,.u]) 0 trivial rfl (fun v hv _=>by omega) (fun _=>?_);simp(disch:=omega) only[AA]
theorem AbV[HA K]{n:Int}{d:List (List Int)}(hn:n=9223372036854775807∨-1≤n∧n≤9)(hd:d.length≤20)(hr:∀z∈d,z.length≤3):∃q:List Int,q.length≤9∧K 636 [.n n,LL d] [LI q]:=by
 cases hb:AV 2 10 n with
 |false=>exact⟨[],by simp,AcV (K:=K) hb⟩
 |true=>
  have h2:=A8.1 hb
  by_cases h3:n<3
  ·exact⟨[],by simp,AXX (K:=K) h3⟩
  ·obtain⟨N,rfl⟩:=Cd (show 0≤n by omega)
   cases ht:Dx N d with
   |false=>exact⟨[],by simp,AQK (K:=K) (by omega) (by omega) (fun z hz=>by have:=hr z hz;omega) ht⟩
   |true=>exact⟨_,by rw[AOG];omega,ASA (K:=K) ht (by omega)⟩
theorem AbS[HA K]{d:D}(hd:Br d):∃rs,(∃x d',rs=[LI x,d']∧x.length≤9∧Br d')∧K 641 [d] rs:=by
 refine qx AOC rfl ?_;simp only[AOC];obtain⟨_,⟨n,r,d1,rfl,⟨h1,h2,h3⟩,hd1⟩,k1⟩:=AXV (K:=K) hd;obtain⟨q,hq,k2⟩:=AbV (K:=K) h1 h2 h3;simp(disch:=omega) only[AA];refine AD (k1) rfl ?_;simp(disch:=omega) only[AA];refine AD (k2) rfl ?_;by_cases q0:0<q.length
 ·obtain⟨_,⟨b,d2,rfl,hd2⟩,k3⟩:=Lm (K:=K) hd1 (n:=5);simp(disch:=omega) only[AA];refine AD (k3) rfl ?_
  cases b
  ·simp(disch:=omega) only[AA];exact⟨_,_,rfl,hq,hd2⟩
  ·obtain⟨_,⟨i,d3,rfl,hi,hd3⟩,k4⟩:=DT (K:=K) hd2 (n:=q.length);have hi:=hi.2 (by omega);obtain⟨_,⟨y,d4,rfl,_,hd4⟩,k5⟩:=AJ5 (K:=K) hd3 (l:=[0,1,2,3,101,-1]) (by simp) (by simp);simp(disch:=omega) only[AA];refine AD (k4) rfl ?_;simp(disch:=omega) only[AA,AFQ,AF5];refine AD (k5) rfl ?_;simp(disch:=omega) only[AA];exact⟨_,_,rfl,by rw[Cv];exact hq,hd4⟩
 ·simp(disch:=omega) only[AA];exact⟨_,_,rfl,hq,hd1⟩
end Go.Cat
namespace Go.Cat
variable{K:Nat→List D→List D→Prop}
set_option maxRecDepth 100000
theorem AVQ[HA K]{d:D}(hd:Br d):∃rs,(∃x d',rs=[.s x,d']∧Br d')∧K 676 [d] rs:=by
 refine qx AKW rfl ?_;simp only[AKW];obtain⟨_,⟨b,d1,rfl,hd1⟩,k1⟩:=Lm (K:=K) hd (n:=14);simp(disch:=first|omega|simp only[vl];omega) only[AA];refine AD (k1) rfl ?_
 cases b
 ·obtain⟨_,⟨n,d2,rfl,hn,hd2⟩,k2⟩:=DT (K:=K) hd1 (n:=3);have hn:=hn.2 (by omega);have kf:K 685 [] [LS [[109,97,116,99,104,105,110,103,115],[112,97,114,116,105,116,105,111,110,115],[116,114,105,97,110,103,117,108,97,116,105,111,110,115]]]:=by refine qb Wg rfl ?_;simp only[Wg];simp(disch:=first|omega|simp only[vl];omega) only[AA,PY,QM]
  simp(disch:=first|omega|simp only[vl];omega) only[AA];refine AD (kf) rfl ?_;simp(disch:=first|omega|simp only[vl];omega) only[AA];refine AD (k2) rfl ?_;have hb:(n.toNat:Int)=n:=by omega
  simp(disch:=first|omega|simp only[vl];omega) only[AA];exact⟨_,_,rfl,hd2⟩
 ·obtain⟨_,⟨x,d2,rfl,hx,hd2⟩,k2⟩:=S8 (K:=K) hd1 (l:=[[],[116,114,101,101,115]]) (by simp) (by simp);simp(disch:=first|omega|simp only[vl];omega) only[AA,PY,QM];refine AD (k2) rfl ?_;simp(disch:=first|omega|simp only[vl];omega) only[AA];exact⟨_,_,rfl,hd2⟩
theorem AYM[HA K]{code:List Nat}(h:code.length≤1048576):∃rs,(∃a b,rs=[.s a,.n b])∧K 671 [LB code] rs:=by refine qx AEB rfl ?_;simp only[AEB];obtain⟨_,⟨d,rfl,hd⟩,k1⟩:=Ul (K:=K) h;obtain⟨_,⟨a,d2,rfl,hd2⟩,k2⟩:=AVQ (K:=K) hd;obtain⟨_,⟨b,d3,rfl,hb,hd3⟩,k3⟩:=DT (K:=K) hd2 (n:=7);simp(disch:=first|omega|simp only[vl];omega) only[AA];refine AD (k1) rfl ?_;simp(disch:=first|omega|simp only[vl];omega) only[AA];refine AD (k2) rfl ?_;simp(disch:=first|omega|simp only[vl];omega) only[AA];refine AD (k3) rfl ?_;simp(disch:=first|omega|simp only[vl];omega) only[AA];exact⟨_,_,rfl⟩
theorem AbB[HA K]{code:List Nat}(h:code.length≤1048576):∃rs,(∃a b,rs=[.s a,.s b])∧K 640 [LB code,.n 6] rs:=by refine qx Zk rfl ?_;simp only[Zk];obtain⟨_,⟨d,rfl,hd⟩,k1⟩:=Ul (K:=K) h;obtain⟨_,⟨a,b,d2,rfl,hab,hd2⟩,k2⟩:=AQ0 (K:=K) hd (m:=6) (by omega);simp(disch:=first|omega|simp only[vl];omega) only[AA];refine AD (k1) rfl ?_;simp(disch:=first|omega|simp only[vl];omega) only[AA];refine AD (k2) rfl ?_;simp(disch:=first|omega|simp only[vl];omega) only[AA];exact⟨_,_,rfl⟩
theorem Xe[HA K]{code:List Nat}:K 220 [LB code] [.b (decide (1048576<(code.length:Int)))]:=by refine qb AAI rfl ?_;simp only[AAI];simp(disch:=first|omega|simp only[vl];omega) only[vc]
theorem ATZ[HA K][El K][MD K][IJ K](code:List Nat):K 656 [LB code] [.b true]:=by
 by_cases hl:code.length≤1048576
 ·obtain⟨_,⟨d,rfl,hd⟩,kn⟩:=Ul (K:=K) hl;obtain⟨_,⟨a,d1,rfl,ha,_⟩,ka⟩:=AVV (K:=K) hd;have da:K 660 [LB code] [.s a]:=by refine qb AJZ rfl ?_;simp only[AJZ];simp(disch:=first|omega|simp only[vl];omega) only[AA];refine AD (kn) rfl ?_;simp(disch:=first|omega|simp only[vl];omega) only[AA];refine AD (ka) rfl ?_;simp(disch:=first|omega|simp only[vl];omega) only[AA]
  have db:K 661 [LB code] [.s a]:=by refine qb WK rfl ?_;simp only[WK];simp(disch:=first|omega|simp only[vl];omega) only[AA];refine AD (kn) rfl ?_;simp(disch:=first|omega|simp only[vl];omega) only[AA];refine AD (ka) rfl ?_;simp(disch:=first|omega|simp only[vl];omega) only[AA]
  obtain⟨_,⟨c,d2,rfl,hc,_⟩,kc⟩:=AIQ (K:=K) hd;have dc:K 662 [LB code] [.s c]:=by refine qb ZP rfl ?_;simp only[ZP];simp(disch:=first|omega|simp only[vl];omega) only[AA];refine AD (kn) rfl ?_;simp(disch:=first|omega|simp only[vl];omega) only[AA];refine AD (kc) rfl ?_;simp(disch:=first|omega|simp only[vl];omega) only[AA]
  obtain⟨_,⟨p,q,rfl⟩,kp⟩:=AbB (K:=K) hl;have dp:K 663 [LB code] [.s p,.s q]:=by refine qb AIV rfl ?_;simp only[AIV];simp(disch:=first|omega|simp only[vl];omega) only[AA];refine AD (kp) rfl ?_;simp(disch:=first|omega|simp only[vl];omega) only[AA]
  obtain⟨_,⟨n,d3,rfl,hn,_⟩,kb⟩:=DT (K:=K) hd (n:=8);have hn:=hn.2 (by omega);have dn:K 664 [LB code] [.n (n-1)]:=by refine qb AJC rfl ?_;simp only[AJC];simp(disch:=first|omega|simp only[vl];omega) only[AA];refine AD (kn) rfl ?_;simp(disch:=first|omega|simp only[vl];omega) only[AA];refine AD (kb) rfl ?_;simp(disch:=first|omega|simp only[vl];omega) only[AA]
  obtain⟨_,⟨z,d4,rfl,hz,_⟩,kz⟩:=AbS (K:=K) hd;have dz:K 665 [LB code] [LI z]:=by refine qb AME rfl ?_;simp only[AME];simp(disch:=first|omega|simp only[vl];omega) only[AA];refine AD (kn) rfl ?_;simp(disch:=first|omega|simp only[vl];omega) only[AA];refine AD (kz) rfl ?_;simp(disch:=first|omega|simp only[vl];omega) only[AA]
  obtain⟨_,⟨s,m,rfl⟩,ks⟩:=AYM (K:=K) hl;have ds:K 666 [LB code] [.s s,.n m]:=by refine qb AHH rfl ?_;simp only[AHH];simp(disch:=first|omega|simp only[vl];omega) only[AA];refine AD (ks) rfl ?_;simp(disch:=first|omega|simp only[vl];omega) only[AA]
  have e1:=Aa7 (K:=K) (w:=a) (by omega);have e2:=AdD (K:=K) (w:=a) (by omega);have e3:=kl_i (K:=K) (w:=a) (by omega);have e4:=kl_s (K:=K) (w:=a) (by omega);generalize (if AM a=true then Gj a 9 else [])=v1 at e1 e2;generalize (if AM a=true then GU a 9 else [])=v2 at e3 e4;obtain⟨v3,e5,e6⟩:=Ac9 (K:=K) c;obtain⟨v4,e7,e8⟩:=ASZ (K:=K) p q;obtain⟨v5,e9,e10⟩:=AR2 (K:=K) (n-1);have e11:=AW3 (K:=K) (q:=z) (by omega);have e12:=AWM (K:=K) (q:=z) (by omega);generalize JW z=v6 at e11 e12;obtain⟨v7,e13,e14⟩:=AVX (K:=K) s m;have eq0:∀v:List Nat,(v==v)=true:=fun v=>by simp
  refine qb Ok rfl ?_;simp only[Ok];simp(disch:=first|omega|simp only[vl];omega) only[AA]
  repeat(first|(refine AD (Xe (K:=K)) rfl ?_;try simp(disch:=first|omega|simp only[vl];omega) only[AA,eq0])|(refine AD (da) rfl ?_;try simp(disch:=first|omega|simp only[vl];omega) only[AA,eq0])|(refine AD (db) rfl ?_;try simp(disch:=first|omega|simp only[vl];omega) only[AA,eq0])|(refine AD (dc) rfl ?_;try simp(disch:=first|omega|simp only[vl];omega) only[AA,eq0])|(refine AD (dp) rfl ?_;try simp(disch:=first|omega|simp only[vl];omega) only[AA,eq0])|(refine AD (dn) rfl ?_;try simp(disch:=first|omega|simp only[vl];omega) only[AA,eq0])|(refine AD (dz) rfl ?_;try simp(disch:=first|omega|simp only[vl];omega) only[AA,eq0])|(refine AD (ds) rfl ?_;try simp(disch:=first|omega|simp only[vl];omega) only[AA,eq0])|(refine AD (e1) rfl ?_;try simp(disch:=first|omega|simp only[vl];omega) only[AA,eq0])|(refine AD (e2) rfl ?_;try simp(disch:=first|omega|simp only[vl];omega) only[AA,eq0])|(refine AD (e3) rfl ?_;try simp(disch:=first|omega|simp only[vl];omega) only[AA,eq0])|(refine AD (e4) rfl ?_;try simp(disch:=first|omega|simp only[vl];omega) only[AA,eq0])|(refine AD (e5) rfl ?_;try simp(disch:=first|omega|simp only[vl];omega) only[AA,eq0])|(refine AD (e6) rfl ?_;try simp(disch:=first|omega|simp only[vl];omega) only[AA,eq0])|(refine AD (e7) rfl ?_;try simp(disch:=first|omega|simp only[vl];omega) only[AA,eq0])|(refine AD (e8) rfl ?_;try simp(disch:=first|omega|simp only[vl];omega) only[AA,eq0])|(refine AD (e9) rfl ?_;try simp(disch:=first|omega|simp only[vl];omega) only[AA,eq0])|(refine AD (e10) rfl ?_;try simp(disch:=first|omega|simp only[vl];omega) only[AA,eq0])|(refine AD (e11) rfl ?_;try simp(disch:=first|omega|simp only[vl];omega) only[AA,eq0])|(refine AD (e12) rfl ?_;try simp(disch:=first|omega|simp only[vl];omega) only[AA,eq0])|(refine AD (e13) rfl ?_;try simp(disch:=first|omega|simp only[vl];omega) only[AA,eq0])|(refine AD (e14) rfl ?_;try simp(disch:=first|omega|simp only[vl];omega) only[AA,eq0]))
 ·refine qb Ok rfl ?_;simp only[Ok];simp(disch:=first|omega|simp only[vl];omega) only[AA];refine AD (Xe (K:=K)) rfl ?_;simp(disch:=first|omega|simp only[vl];omega) only[AA]
end Go.Cat
