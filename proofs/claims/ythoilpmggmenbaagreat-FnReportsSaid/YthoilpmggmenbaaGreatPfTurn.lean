/-
 Turns of matchings, of partitions, of triangulations.
-/
import Derived.Test.YthoilpmggmenbaaGreatPfRdG
import Derived.Test.YthoilpmggmenbaaGreatPfRefl
import Derived.Test.YthoilpmggmenbaaGreatPfPart
import Derived.Test.YthoilpmggmenbaaGreatPfSrt
import Derived.Test.YthoilpmggmenbaaGreatPfTri2
import Derived.Test.YthoilpmggmenbaaGreatQd0LawReports
import Derived.Test.YthoilpmggmenbaaGreatQd1LawReports
import Derived.Test.YthoilpmggmenbaaGreatQd2LawReports
import Derived.Test.YthoilpmggmenbaaGreatQd3LawReports
set_option linter.unusedSimpArgs false
set_option linter.unusedVariables false
namespace Go.Cat
variable{K:Nat→List D→List D→Prop}
theorem AZ2{rs:List (List Int)}{j:Int}(h:0≤j∧j≤rs.length):E8 (LL rs) none (some (.n j))=some (LL (sub rs 0 j)):=I6 LI JZ (FG h.1) (by omega) (by omega)
def H6(m:List Int)(k:Nat):List Int:=iter (fun i out=>BM out (((i:Int)-k+m.length)%m.length) ((AE m i-k+m.length)%m.length)) m.length (rep m.length 0)
theorem XN{m:List Int}{k:Nat}:(H6 m k).length=m.length:=by unfold H6;exact S3 (fun(l:List Int)=>l.length=m.length) (by simp[rep]) (fun i s h=>by rw[Cv];exact h) _
theorem Is{a n:Int}(h:0<n):0≤a%n∧a%n<n:=⟨Int.emod_nonneg _ (by omega),Int.emod_lt_of_pos _ h⟩
theorem ATL[HA K]{m:List Int}{k:Nat}(hm:CQ m=true)(hl:0<m.length)(hk:k<m.length)(hr:∀i:Nat,i<m.length→0≤AE m i∧AE m i<m.length):K 474 [LI m,.n k] [LI (H6 m k),.b true]:=by
 have h16:=(GH hm).1;have hin:AV 0 ((m.length:Int)-1) k=true:=A8.2 (by omega);refine qb AJ8 rfl ?_;simp only[AJ8];simp(disch:=first|omega|simp only[vl];omega) only[AA];refine AD (AAG (K:=K) (m:=m) (by omega)) rfl ?_;rw[hm];simp(disch:=first|omega|simp only[vl];omega) only[AA];have e1:max 0 ((m.length:Int)-1)=(m.length:Int)-1:=by omega
 simp(disch:=first|omega|simp only[vl];omega) only[AA,e1];refine AD (CK (K:=K)) rfl ?_;simp(disch:=first|omega|simp only[vl];omega) only[AA,hin];refine MZ (fun i out=>BM out (((i:Int)-k+m.length)%m.length) ((AE m i-k+m.length)%m.length)) (fun _ s=>s.length=m.length) (fun i s=>[.u,.n k,.u,.u,.n m.length,LI s,.u,.u,.u,LI m,.n m.length,.n i,.u]) m.length (rep m.length 0) (by simp[rep]) rfl (fun i s _ h=>by rw[Cv];exact h) (fun i s hi hs _=>?_) (fun s hs _=>?_)
 ·have r1:=hr i hi;have q1:=Is (a:=(i:Int)-k+m.length) (n:=m.length) (by omega);have q2:=Is (a:=AE m i-k+m.length) (n:=m.length) (by omega);simp(disch:=first|omega|simp only[vl];omega) only[AA]
 ·simp(disch:=first|omega|simp only[vl];omega) only[AA];rw[hs];rfl
theorem AZU[HA K]{m:List Int}{k:Nat}(hm:CQ m=true)(hl:0<m.length)(hk:k<m.length)(hr:∀i:Nat,i<m.length→0≤AE m i∧AE m i<m.length):K 477 [LI m,.n k] [LI (H6 m k),.b true]:=by
 have h16:=(GH hm).1;have hin:AV 0 ((m.length:Int)-1) k=true:=A8.2 (by omega);refine qb Zs rfl ?_;simp only[Zs];simp(disch:=first|omega|simp only[vl];omega) only[AA];refine AD (QC (K:=K) (m:=m) (by omega)) rfl ?_;rw[hm];have e1:max 0 ((m.length:Int)-1)=(m.length:Int)-1:=by omega
 simp(disch:=first|omega|simp only[vl];omega) only[AA,e1];refine AD (Bj (K:=K)) rfl ?_;simp(disch:=first|omega|simp only[vl];omega) only[AA,hin];refine MZ (fun i out=>BM out (((i:Int)-k+m.length)%m.length) ((AE m i-k+m.length)%m.length)) (fun _ s=>s.length=m.length) (fun i s=>[LI m,.n k,.u,.u,.n m.length,LI s,.n i,.u,.u]) m.length (rep m.length 0) (by simp[rep]) rfl (fun i s _ h=>by rw[Cv];exact h) (fun i s hi hs _=>?_) (fun s hs _=>?_)
 ·have r1:=hr i hi;have q1:=Is (a:=(i:Int)-k+m.length) (n:=m.length) (by omega);have q2:=Is (a:=AE m i-k+m.length) (n:=m.length) (by omega);simp(disch:=first|omega|simp only[vl];omega) only[AA]
 ·simp(disch:=first|omega|simp only[vl];omega) only[AA];rw[hs];rfl
def La(p:List Int):List Int:=[AE p ((p.length:Int)-1)]++sub p 0 ((p.length:Int)-1)
def Fy(p:List Int):List Int:=C8 (La p) (La p).length
theorem AF9{p:List Int}(h:0<p.length):(La p).length=p.length:=by simp only[La,A7,AY,Ap,KH];omega
theorem AR7[HA K]{p:List Int}(hp:CJ p=true)(hl:0<p.length):K 435 [LI p] [LI (Fy p),.b true]:=by
 have h8:p.length≤8:=by simp[CJ]at hp;exact hp.1
 have hl2:=AF9 hl;refine qb ANG rfl ?_;simp only[ANG];simp(disch:=first|omega|simp only[vl];omega) only[AA];refine AD (APG (K:=K) (p:=p) (by omega)) rfl ?_;rw[hp];simp(disch:=first|omega|simp only[vl];omega) only[AA];refine AD (AJ4 (K:=K) (l:=La p) (by omega)) rfl ?_;simp(disch:=first|omega|simp only[vl];omega) only[AA];rfl
theorem AYC[HA K]{p:List Int}(hp:CJ p=true)(hl:0<p.length):K 594 [LI p] [LI (Fy p),.b true]:=by
 have h8:p.length≤8:=by simp[CJ]at hp;exact hp.1
 have hl2:=AF9 hl;refine qb AN5 rfl ?_;simp only[AN5];simp(disch:=first|omega|simp only[vl];omega) only[AA];refine AD (N2 (K:=K) (p:=p) (by omega)) rfl ?_;rw[hp];simp(disch:=first|omega|simp only[vl];omega) only[AA];refine AD (Ys (K:=K) (l:=La p) (by omega)) rfl ?_;simp(disch:=first|omega|simp only[vl];omega) only[AA];rfl
theorem AS3[HA K]{n:Int}{r:List Int}(hn:0≤n∧n≤1000)(hr:ED r):K 605 [.n n,LI r] [.b (Cg n r)]:=by
 obtain⟨h1,h2,h3⟩:=hr;refine qb WL rfl ?_;simp only[WL];simp(disch:=first|omega|simp only[vl];omega) only[AA];refine AD (CK (K:=K)) rfl ?_
 cases q1:AV 0 (n-1) (AE r 0)
 ·simp(disch:=first|omega|simp only[vl];omega) only[AA];simp[Cg,q1]
 simp(disch:=first|omega|simp only[vl];omega) only[AA];refine AD (CK (K:=K)) rfl ?_
 cases q2:AV 0 (n-1) (AE r 1)
 ·have e:Cg n r=false:=by
   simp only[Cg,Bool.and_eq_false_iff]
   refine .inl (.inr ?_)
   rw[Bool.eq_false_iff]
   intro q
   have a:=A8.1 q1
   have b:=A8.1 q
   have:AV 0 (n-1) (AE r 1)=true:=A8.2 (by omega)
   rw[this]at q2;cases q2
  simp(disch:=first|omega|simp only[vl];omega) only[AA]
  rw[e]
 have a1:=A8.1 q1;have a2:=A8.1 q2;by_cases q3:AE r 1-AE r 0≥2
 ·have q3':AV (AE r 0+2) (n-1) (AE r 1)=true:=A8.2 (by omega);by_cases q4:AE r 0=0
  ·by_cases q5:AE r 1=n-1
   ·simp(disch:=first|omega|simp only[vl];omega) only[AA];simp[Cg,q4,q5]
   ·simp(disch:=first|omega|simp only[vl];omega) only[AA];have q6:decide (AE r 1=n-1)=false:=decide_eq_false q5;simp only[Cg,q1,q3',q6,Bool.and_false];rfl
  ·simp(disch:=first|omega|simp only[vl];omega) only[AA];simp[Cg,q1,q3',q4]
 ·have q3':AV (AE r 0+2) (n-1) (AE r 1)=false:=by
   rw[Bool.eq_false_iff];intro q;have:=A8.1 q;omega
  simp(disch:=first|omega|simp only[vl];omega) only[AA]
  simp[Cg,q3']
theorem Aa2[HA K]{n:Int}{d:List (List Int)}(h:D7 n d=true)(hr:∀r∈d,ED r):K 602 [.n n,LL d] [.b true]:=by
 simp only[D7,AX,Aj]at h;obtain⟨⟨h1,h2⟩,h3⟩:=h;have hn:=A8.1 h1;have e0:max 0 (n-3)=(d.length:Int):=h2.symm;refine qb ANF rfl ?_;simp only[ANF];simp(disch:=first|omega|simp only[vl];omega) only[AA];refine AD (CK (K:=K)) rfl ?_;rw[h1];simp(disch:=first|omega|simp only[vl];omega) only[AA,e0];refine AL (fun i=>Ce n (d.take i) (d.drop i)=true) (fun i=>[.n n,LL d,.u,.u,.u,.u,.u,LL d,.n d.length,.n i,.u,.u,.u,.u,.u,.u,.u]) d.length (by simpa using h3) rfl (fun i hi hP=>?_) (fun _=>?_)
 ·rw[AMP hi]at hP;simp only[AX,Bool.or_eq_true,Aj,Aw,Bool.not_eq_true']at hP;obtain⟨⟨⟨p1,p2⟩,p3⟩,p4⟩:=hP;have hx:ED (AG d i):=hr _ (by simp[AG,hi]);have hxl:=hx.1;simp(disch:=first|omega|simp only[vl];omega) only[AA];refine AD (AS3 (K:=K) (n:=n) (r:=AG d i) (by omega) hx) rfl ?_;rw[p1];have fin:∀k:Nat,k<i→CE (AG d k) (AG d i)=false∧ED (AG d k):=fun k hk=>by
   have hm:AG d k∈d.take i:=by rw[List.mem_iff_getElem];exact⟨k,by simp;omega,by simp[AG,show k<d.length by omega]⟩
   exact⟨p3 _ hm,hr _ (List.mem_of_mem_take hm)⟩
  have es:sub d 0 (i:Int)=d.take i:=by simp[sub]
  have el:(d.take i).length=i:=by simp;omega
  have ea:∀k:Nat,k<i→AG (d.take i) k=AG d k:=fun k hk=>by simp[AG,Al,hk]
  by_cases h0:i=0
  ·subst h0;simp(disch:=first|omega|simp only[vl];omega) only[AA,es];refine AL (fun _=>True) (fun k=>[.n n,LL d,.u,.u,LI (AG d 0),.u,.u,LL d,.n d.length,.n 0,.u,.u,LL (sub d 0 (0:Int)),.n 0,.n k,.u,.u]) 0 trivial rfl (fun k hk _=>by omega) (fun _=>?_);simp(disch:=first|omega|simp only[vl];omega) only[AA];exact p4
  ·have hlt:B9 (AG d ((i:Int)-1)) (AG d i)=true:=p2.resolve_left h0;have hy:ED (AG d ((i:Int)-1)):=hr _ (by
    have:((i:Int)-1).toNat=i-1:=by omega
    simp[AG,this,show i-1<d.length by omega])
   have hcm:decide (Iq (AG d ((i:Int)-1)) (AG d i)≥0)=false:=by have:=Wm (x:=AG d ((i:Int)-1)) (y:=AG d i);rw[hlt]at this;simp only[Aj]at this;exact decide_eq_false (by omega)
   have ksc:=Xp (K:=K) (x:=AG d ((i:Int)-1)) (y:=AG d i) hy.1 hx.1;simp(disch:=first|omega|simp only[vl];omega) only[AA];refine AD (ksc) rfl ?_;simp(disch:=first|omega|simp only[vl];omega) only[AA,hcm,AZ2,es];refine AL (fun _=>True) (fun k=>[.n n,LL d,.u,.u,LI (AG d i),.u,.u,LL d,.n d.length,.n i,.u,.u,LL (d.take i),.n i,.n k,.u,.u]) i trivial ?_ (fun k hk _=>?_) (fun _=>?_)
   ·rw[el];rfl
   ·obtain⟨c1,c2⟩:=fin k hk;have c3:=c2.1;have c4:=ea k hk;simp only[CE,Bool.or_eq_false_iff,Bool.and_eq_false_iff,decide_eq_false_iff_not]at c1;rw[←c4]at c1 c2 c3;obtain⟨y,ey⟩:∃y,AG (d.take i) (k:Int)=y:=⟨_,rfl⟩;rw[ey]at c1 c2 c3;by_cases a1:AE y 0<AE (AG d i) 0
    ·by_cases a2:AE (AG d i) 0<AE y 1
     ·by_cases a3:AE y 1<AE (AG d i) 1
      ·omega
      ·simp(disch:=first|omega|simp only[vl];omega) only[AA,ey]
     ·simp(disch:=first|omega|simp only[vl];omega) only[AA,ey]
    ·by_cases b1:AE (AG d i) 0<AE y 0
     ·by_cases b2:AE y 0<AE (AG d i) 1
      ·by_cases b3:AE (AG d i) 1<AE y 1
       ·omega
       ·simp(disch:=first|omega|simp only[vl];omega) only[AA,ey]
      ·simp(disch:=first|omega|simp only[vl];omega) only[AA,ey]
     ·simp(disch:=first|omega|simp only[vl];omega) only[AA,ey]
   ·simp(disch:=first|omega|simp only[vl];omega) only[AA];exact p4
 ·simp(disch:=first|omega|simp only[vl];omega) only[AA]
def IW(n k:Int)(r:List Int):List Int:=[min ((AE r 0+k)%n) ((AE r 1+k)%n),max ((AE r 0+k)%n) ((AE r 1+k)%n)]
def HU(n k:Int)(d:List (List Int)):List (List Int):=DN (d.map (IW n k))
theorem Ab6{l:List (List Int)}{x:List Int}:DN (l++[x])=(BY x (DN l).reverse).reverse:=by simp only[DN,Hj,List.foldl_append,List.foldl_cons,List.foldl_nil,List.reverse_reverse]
theorem AD7{α:Type}{l:List (List Int)}{f:List Int→α}{i:Nat}(h:i<l.length):(l.take (i+1)).map f=(l.take i).map f++[f (AG l i)]:=by rw[VL h,List.map_append];rfl
theorem NM{n:Int}{d:List (List Int)}(h:D7 n d=true):d.length≤7∧2≤n∧n≤10:=by simp only[D7,AX,Aj]at h;have:=A8.1 h.1.1;have:=h.1.2;omega
theorem Y1{n:Int}:∀{d o:List (List Int)},Ce n o d=true→∀r∈d,Cg n r=true
 |[],_,_,r,hr=>by cases hr
 |x::d,o,h,r,hr=>by
  simp only[Ce,AX]at h
  rcases Aa.1 hr with rfl|hr
  ·exact h.1.1.1
  ·exact Y1 h.2 r hr
theorem AN0{n:Int}{d:List (List Int)}(h:D7 n d=true){i:Nat}(hi:i<d.length):(0≤AE (AG d i) 0∧AE (AG d i) 0≤n-1)∧0≤AE (AG d i) 1∧AE (AG d i) 1≤n-1:=by simp only[D7,AX]at h;have:=Y1 h.2 (AG d i) (by simp[AG,hi]);simp only[Cg,AX]at this;have a:=A8.1 this.1.1;have b:=A8.1 this.1.2;omega
theorem AaX[HA K]{n k:Int}{d:List (List Int)}(h:D7 n d=true)(hr:∀r∈d,ED r)(hk:0≤k∧k<n):K 598 [.n n,LL d,.n k] [LL (HU n k d),.b true]:=by
 obtain⟨hl,hn⟩:=NM h;refine qb ADF rfl ?_;simp only[ADF];simp(disch:=first|omega|simp only[vl];omega) only[AA];refine AD (Aa2 (K:=K) h hr) rfl ?_;simp(disch:=first|omega|simp only[vl];omega) only[AA];refine AD (CK (K:=K)) rfl ?_;rw[show AV 0 (n-1) k=true from A8.2 (by omega)];simp(disch:=first|omega|simp only[vl];omega) only[AA];refine Au (fun i (o:List (List Int))=>o=(d.take i).map (IW n k)) (fun i o=>[.n n,.u,.n k,.u,.u,LL o,.u,.u,.u,.u,LL d,.n d.length,.n i,.u]) d.length [] rfl rfl (fun i o hi hP=>?_) (fun o hP=>?_)
 ·have hx:=hr (AG d i) (by simp[AG,hi]);have hxl:=hx.1;have r1:=AN0 h hi;have ho:o.length=i:=by rw[hP];simp;omega
  have q1:=Is (a:=AE (AG d i) 0+k) (n:=n) (by omega);have q2:=Is (a:=AE (AG d i) 1+k) (n:=n) (by omega);simp(disch:=first|omega|simp only[vl];omega) only[AA,Fm];have e:EB false (LL o) (LL [IW n k (AG d i)])=some (LL (o++[IW n k (AG d i)])):=Ii ⟨by simp;omega,rfl⟩;simp only[IW]at e;simp(disch:=first|omega|simp only[vl];omega) only[AA,e];refine⟨_,?_,rfl⟩;rw[hP,AD7 hi];rfl
 ·rw[List.take_of_length_le (by omega)]at hP;have hs:=Vs (K:=K) (d:=o) (by rw[hP];simp;omega) (by intro x hx;rw[hP]at hx;obtain⟨r,_,rfl⟩:=List.mem_map.1 hx;rfl);simp(disch:=first|omega|simp only[vl];omega) only[AA];refine AD (hs) rfl ?_;simp(disch:=first|omega|simp only[vl];omega) only[AA];rw[hP];rfl
theorem AYO[HA K]{n k:Int}{d:List (List Int)}(h:D7 n d=true)(hr:∀r∈d,ED r)(hk:0≤k∧k<n):K 595 [.n n,LL d,.n k] [LL (HU n k d),.b true]:=by
 obtain⟨hl,hn⟩:=NM h;refine qb AGN rfl ?_;simp only[AGN];simp(disch:=first|omega|simp only[vl];omega) only[AA];refine AD (YZ (K:=K) (n:=n) (d:=d) (by omega) (by omega) hr) rfl ?_;rw[h];simp(disch:=first|omega|simp only[vl];omega) only[AA];refine AD (Bj (K:=K)) rfl ?_;rw[show AV 0 (n-1) k=true from A8.2 (by omega)];simp(disch:=first|omega|simp only[vl];omega) only[AA];refine Au (fun i (o:List (List Int))=>o=DN ((d.take i).map (IW n k))) (fun i o=>[.n n,LL d,.n k,.u,.u,LL o,.n i,.u,.u,.u,.u]) d.length [] rfl rfl (fun i o hi hP=>?_) (fun o hP=>?_)
 ·have hx:=hr (AG d i) (by simp[AG,hi]);have hxl:=hx.1;have r1:=AN0 h hi;have ho:o.length=i:=by rw[hP,AAB];simp;omega
  have q1:=Is (a:=AE (AG d i) 0+k) (n:=n) (by omega);have q2:=Is (a:=AE (AG d i) 1+k) (n:=n) (by omega);have hrow:∀z∈o,CT z:=fun z hz=>by rw[hP,Ps]at hz;obtain⟨r,_,rfl⟩:=List.mem_map.1 hz;rfl
  have hput:=AHJ (K:=K) (l:=o) (x:=IW n k (AG d i)) (by omega) hrow rfl;simp only[IW]at hput;simp(disch:=first|omega|simp only[vl];omega) only[AA];refine AD (hput) rfl ?_;simp(disch:=first|omega|simp only[vl];omega) only[AA];refine⟨_,?_,rfl⟩;rw[AD7 hi,Ab6,←hP];rfl
 ·rw[List.take_of_length_le (by omega)]at hP;simp(disch:=first|omega|simp only[vl];omega) only[AA];rw[hP];rfl
end Go.Cat
