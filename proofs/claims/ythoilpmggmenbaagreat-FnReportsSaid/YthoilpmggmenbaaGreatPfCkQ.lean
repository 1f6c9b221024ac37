/-
 Triangulations: the triangles that the reference finds are those of the tree; by the kernel, over all triangulations.
-/
import Derived.Test.YthoilpmggmenbaaGreatQd0LawReports
import Derived.Test.YthoilpmggmenbaaGreatQd1LawReports
import Derived.Test.YthoilpmggmenbaaGreatQd2LawReports
import Derived.Test.YthoilpmggmenbaaGreatQd3LawReports
import Derived.Test.YthoilpmggmenbaaGreatPfCkA
import Derived.Test.YthoilpmggmenbaaGreatPfSrt
import Derived.Test.YthoilpmggmenbaaGreatPfStat
import Derived.Test.YthoilpmggmenbaaGreatPfRankA
import Derived.Test.YthoilpmggmenbaaGreatPfPLine
import Derived.Test.YthoilpmggmenbaaGreatPfRotB
import Derived.Test.YthoilpmggmenbaaGreatPfTri2
import Derived.Test.YthoilpmggmenbaaGreatPfMatP
set_option linter.unusedSimpArgs false
set_option linter.unusedVariables false
namespace Go.Cat
variable{K:Nat→List D→List D→Prop}
set_option maxRecDepth 100000
def oC(n:Int)(d:List (List Int))(a b k:Nat):List (List Int):=if EF n d a b=true then(List.range k).flatMap (fun(i:Nat)=>if EF n d b (b+1+i:Nat)=true then(if EF n d a (b+1+i:Nat)=true then [[(a:Int),(b:Int),((b+1+i:Nat):Int)]]else [])else [])else []
def oB(n:Int)(d:List (List Int))(N a k:Nat):List (List Int):=(List.range k).flatMap fun i=>oC n d a (a+1+i) (N-(a+1+i)-1)
def oA(n:Int)(d:List (List Int))(N k:Nat):List (List Int):=(List.range k).flatMap fun i=>oB n d N i (N-i-1)
theorem AAK{n:Int}{d:List (List Int)}{a b k:Nat}:oC n d a b (k+1)=oC n d a b k++(if EF n d a b=true then(if EF n d b (b+1+k:Nat)=true then(if EF n d a (b+1+k:Nat)=true then [[(a:Int),(b:Int),((b+1+k:Nat):Int)]]else [])else [])else []):=by
 unfold oC;split
 ·rw[List.range_succ,List.flatMap_append];simp
 ·rfl
theorem AMN{n:Int}{d:List (List Int)}{N a k:Nat}:oB n d N a (k+1)=oB n d N a k++oC n d a (a+1+k) (N-(a+1+k)-1):=by unfold oB;rw[List.range_succ,List.flatMap_append];simp
theorem AK5{n:Int}{d:List (List Int)}{N k:Nat}:oA n d N (k+1)=oA n d N k++oB n d N k (N-k-1):=by unfold oA;rw[List.range_succ,List.flatMap_append];simp
def N7(r:List Int):Prop:=∃a b c:Nat,r=[(a:Int),(b:Int),(c:Int)]∧a<b∧b<c
theorem AWZ{n:Int}{d:List (List Int)}{a b k:Nat}(h:a<b):∀r∈oC n d a b k,N7 r:=by
 intro r hr;unfold oC at hr;split at hr
 ·obtain⟨i,_,hi⟩:=List.mem_flatMap.1 hr;split at hi
  ·split at hi
   ·rw[List.mem_singleton]at hi;exact⟨a,b,b+1+i,hi,h,by omega⟩
   ·simp at hi
  ·simp at hi
 ·simp at hr
theorem Ad8{n:Int}{d:List (List Int)}{N k:Nat}:∀r∈oA n d N k,N7 r:=by intro r hr;obtain⟨i,_,hi⟩:=List.mem_flatMap.1 hr;obtain⟨j,_,hj⟩:=List.mem_flatMap.1 hi;exact AWZ (by omega) r hj
theorem TW{n:Int}{d:List (List Int)}{a b:Nat}:∀k,(oC n d a b k).length≤k
 |0=>by unfold oC;split<;>simp
 |k+1=>by
  rw[AAK,A7]
  have:=TW (n:=n) (d:=d) (a:=a) (b:=b) k
  split
  ·split
   ·split<;>simp<;>omega
   ·simp;omega
  ·simp;omega
theorem U3{n:Int}{d:List (List Int)}{N a:Nat}:∀k,(oB n d N a k).length≤k*N
 |0=>by simp[oB]
 |k+1=>by
  rw[AMN,A7,Nat.succ_mul]
  have:=U3 (n:=n) (d:=d) (N:=N) (a:=a) k
  have:=TW (n:=n) (d:=d) (a:=a) (b:=a+1+k) (N-(a+1+k)-1)
  omega
end Go.Cat
namespace Go.Cat
variable{K:Nat→List D→List D→Prop}
end Go.Cat
namespace Go.Cat
variable{K:Nat→List D→List D→Prop}
set_option maxRecDepth 100000
theorem AIA{n:Int}{d:List (List Int)}{N:Nat}:∀k,(oA n d N k).length≤k*(N*N)
 |0=>by simp[oA]
 |k+1=>by
  rw[AK5,A7,Nat.succ_mul]
  have:=AIA (n:=n) (d:=d) (N:=N) k
  have h2:=U3 (n:=n) (d:=d) (N:=N) (a:=k) (N-k-1)
  have h3:(N-k-1)*N≤N*N:=Nat.mul_le_mul_right _ (by omega)
  omega
theorem AET{n:Int}{d:List (List Int)}{N k:Nat}(hN:N≤10)(hk:k≤10):(oA n d N k).length≤1000:=by have h1:=AIA (n:=n) (d:=d) (N:=N) k;have h2:N*N≤10*10:=Nat.mul_le_mul hN hN;have h3:k*(N*N)≤10*(10*10):=Nat.mul_le_mul hk h2;omega
theorem AWT{n:Int}{d:List (List Int)}{N a k:Nat}(hN:N≤10)(hk:k≤10):(oB n d N a k).length≤100:=by have h1:=U3 (n:=n) (d:=d) (N:=N) (a:=a) k;have h2:k*N≤10*10:=Nat.mul_le_mul hk hN;omega
theorem ASX[HA K]{N:Nat}{d:List (List Int)}(h:Dx N d=true):K 645 [.n N,LL d] [LL (oA N d N N),.b true]:=by
 have hN:=(NW h).1;have hdl:d.length≤1000:=by have:=(NW h).2.1;omega
 have hr:=AXA h;have hrl:∀r∈d,r.length≤1099511627776:=fun r hx=>by have:=(hr r hx).1;omega
 have kt:=AAL (K:=K) (n:=N) (d:=d) (by omega) (by omega) hrl;rw[h]at kt;refine qb LY rfl ?_;simp only[LY];simp(disch:=first|omega|simp only[vl];omega) only[AA];refine AD (kt) rfl ?_;simp(disch:=first|omega|simp only[vl];omega) only[AA];refine AL (fun _=>True) (fun a=>[.n N,LL d,.u,.u,LL (oA N d N a),.n a,.u,.u,.u,.u,.u,.u,.u]) N trivial rfl (fun a ha _=>?_) (fun _=>?_)
 ·have la:=AET (n:=N) (d:=d) (N:=N) (k:=a) (by omega) (by omega);simp(disch:=first|omega|simp only[vl];omega) only[AA];refine AL (fun _=>True) (fun i=>[.n N,LL d,.u,.u,LL (oA N d N a++oB N d N a i),.n a,.n ((a+1+i:Nat):Int),.u,.u,.u,.u,.u,.u]) (N-a-1) trivial (by simp[oB]) (fun i hi _=>?_) (fun _=>?_)
  ·have lb:=AWT (n:=N) (d:=d) (N:=N) (a:=a) (k:=i) (by omega) (by omega);have ob:oB N d N a (i+1)=oB N d N a i++oC N d a (a+1+i) (N-(a+1+i)-1):=AMN;rw[ob,←CI];have hol:(oA N d N a++oB N d N a i).length≤1100:=by simp;omega
   generalize oA N d N a++oB N d N a i=o at hol⊢;obtain⟨b,hb⟩:∃b:Nat,b=a+1+i:=⟨_,rfl⟩;rw[show a+1+(i+1)=b+1 by omega,←hb];simp(disch:=first|omega|simp only[vl];omega) only[AA];refine AL (fun _=>True) (fun j=>[.n N,LL d,.u,.u,LL (o++oC N d a b j),.n a,.n b,.n ((b+1+j:Nat):Int),.u,.u,.u,.u,.u]) (N-b-1) trivial (by simp[oC]) (fun j hj _=>?_) (fun _=>?_)
   ·have lc:=TW (n:=N) (d:=d) (a:=a) (b:=b) j;have hol2:(o++oC N d a b j).length≤1200:=by simp;omega
    rw[AAK,←CI];generalize o++oC N d a b j=o2 at hol2⊢;obtain⟨c,hc⟩:∃c:Nat,c=b+1+j:=⟨_,rfl⟩;rw[show b+1+(j+1)=c+1 by omega,←hc];have s1:=NT (K:=K) (n:=N) (a:=a) (b:=b) (d:=d) (by omega) (by omega) (by omega) hdl hr;have s2:=NT (K:=K) (n:=N) (a:=b) (b:=c) (d:=d) (by omega) (by omega) (by omega) hdl hr;have s3:=NT (K:=K) (n:=N) (a:=a) (b:=c) (d:=d) (by omega) (by omega) (by omega) hdl hr
    cases q1:EF N d a b
    ·rw[q1]at s1;simp(disch:=first|omega|simp only[vl];omega) only[AA];refine AD (s1) rfl ?_;simp(disch:=first|omega|simp only[vl];omega) only[AA];simp
    ·rw[q1]at s1
     cases q2:EF N d b c
     ·rw[q2]at s2;simp(disch:=first|omega|simp only[vl];omega) only[AA];refine AD (s1) rfl ?_;simp(disch:=first|omega|simp only[vl];omega) only[AA];refine AD (s2) rfl ?_;simp(disch:=first|omega|simp only[vl];omega) only[AA];simp
     ·rw[q2]at s2
      cases q3:EF N d a c
      ·rw[q3]at s3;simp(disch:=first|omega|simp only[vl];omega) only[AA];refine AD (s1) rfl ?_;simp(disch:=first|omega|simp only[vl];omega) only[AA];refine AD (s2) rfl ?_;simp(disch:=first|omega|simp only[vl];omega) only[AA];refine AD (s3) rfl ?_;simp(disch:=first|omega|simp only[vl];omega) only[AA];simp
      ·rw[q3]at s3;simp(disch:=first|omega|simp only[vl];omega) only[AA];refine AD (s1) rfl ?_;simp(disch:=first|omega|simp only[vl];omega) only[AA];refine AD (s2) rfl ?_;simp(disch:=first|omega|simp only[vl];omega) only[AA];refine AD (s3) rfl ?_;simp(disch:=first|omega|simp only[vl];omega) only[AA,Li]
   ·simp(disch:=first|omega|simp only[vl];omega) only[AA]
  ·simp(disch:=first|omega|simp only[vl];omega) only[AA];rw[AK5]
 ·simp(disch:=first|omega|simp only[vl];omega) only[AA]
theorem ARY[HA K]{n:Int}{d:List (List Int)}(hn:-2000000000000≤n∧n≤2000000000000)(hd:d.length≤1099511627776)(hl:∀r∈d,r.length≤1099511627776)(h:Dx n d=false):K 645 [.n n,LL d] [LL [],.b false]:=by have kt:=AAL (K:=K) hn hd hl;rw[h]at kt;refine qb LY rfl ?_;simp only[LY];simp(disch:=omega) only[AA];refine AD (kt) rfl ?_;simp(disch:=omega) only[AA];rfl
def Hz(N:Nat)(f:Nat→Nat):List Int:=(List.range N).map fun v=>((f v:Nat):Int)
theorem AOG{N:Nat}{f:Nat→Nat}:(Hz N f).length=N:=by simp[Hz]
theorem AZF{N:Nat}{f:Nat→Nat}:Hz (N+1) f=Hz N f++[((f N:Nat):Int)]:=by simp[Hz,List.range_succ]
def G9(v:Nat)(r:List Int):Bool:=decide (AE r 0=v)||(decide (AE r 1=v)||decide (AE r 2=v))
def cS(v:Nat)(L:List (List Int)):Nat:=(L.filter (G9 v)).length
theorem cS_s{v i:Nat}{L:List (List Int)}(h:i<L.length):cS v (L.take (i+1))=cS v (L.take i)+if G9 v (AG L i)=true then 1 else 0:=by unfold cS;rw[VL h,List.filter_append,A7];congr 1;simp only[List.filter_cons,List.filter_nil];split<;>rfl
theorem AW8{r:List Int}(h:N7 r):r.length=3:=by obtain⟨a,b,c,rfl,_⟩:=h;rfl
theorem ARK{L:List (List Int)}{i:Nat}(h:i<L.length):AG L i∈L:=by simp[AG,h]
theorem ASA[HA K]{N:Nat}{d:List (List Int)}(h:Dx N d=true)(h3:3≤N):K 636 [.n N,LL d] [LI (Hz N fun v=>cS v (oA N d N N))]:=by
 have kt:=ASX (K:=K) h;have hN:=(NW h).1;have hup:∀r∈oA N d N N,N7 r:=Ad8;have hln:=AET (n:=N) (d:=d) (N:=N) (k:=N) (by omega) (by omega);generalize oA N d N N=L at kt hup hln⊢;refine qb I7 rfl ?_;simp only[I7];simp(disch:=first|omega|simp only[vl];omega) only[AA];refine AD (kt) rfl ?_;simp(disch:=first|omega|simp only[vl];omega) only[AA];refine AL (fun _=>True) (fun v=>[.n N,.u,.u,LI (Hz v fun v=>cS v L),LL L,.b true,.n v,.u,.u,.u,.u,.u,.u]) N trivial rfl (fun v hv _=>?_) (fun _=>?_)
 ·have hql:=AOG (N:=v) (f:=fun v=>cS v L);simp(disch:=first|omega|simp only[vl];omega) only[AA];refine AL (fun _=>True) (fun i=>[.n N,.u,.u,LI (Hz v fun v=>cS v L),LL L,.b true,.n v,.n (cS v (L.take i)),.n i,.u,.u,.u,.u]) L.length trivial rfl (fun i hi _=>?_) (fun _=>?_)
  ·have hr3:=AW8 (hup _ (ARK hi));have hcl:cS v (L.take i)≤1000:=by have:=List.length_filter_le (G9 v) (L.take i);have h2:(L.take i).length≤L.length:=List.length_take_le' ..;unfold cS;omega
   rw[cS_s hi];generalize cS v (L.take i)=c at hcl⊢;by_cases a0:AE (AG L i) 0=v
   ·have e:G9 v (AG L i)=true:=by simp[G9,a0]
    rw[e];simp(disch:=first|omega|simp only[vl];omega) only[AA,a0]
   ·by_cases a1:AE (AG L i) 1=v
    ·have e:G9 v (AG L i)=true:=by simp[G9,a1]
     rw[e];simp(disch:=first|omega|simp only[vl];omega) only[AA,a1]
    ·by_cases a2:AE (AG L i) 2=v
     ·have e:G9 v (AG L i)=true:=by simp[G9,a2]
      rw[e];simp(disch:=first|omega|simp only[vl];omega) only[AA,a2]
     ·have e:G9 v (AG L i)=false:=by simp[G9,a0,a1,a2]
      rw[e];simp(disch:=first|omega|simp only[vl];omega) only[AA];simp
  ·simp(disch:=first|omega|simp only[vl];omega) only[AA];rw[List.take_length,AZF]
 ·simp(disch:=first|omega|simp only[vl];omega) only[AA]
theorem AQK[HA K]{n:Int}{d:List (List Int)}(hn:-2000000000000≤n∧n≤2000000000000)(hd:d.length≤1099511627776)(hl:∀r∈d,r.length≤1099511627776)(h:Dx n d=false):K 636 [.n n,LL d] [LI []]:=by
 have kt:=ARY (K:=K) hn hd hl h;refine qb I7 rfl ?_;simp only[I7];by_cases h3:n<3
 ·simp(disch:=omega) only[AA];rfl
 ·simp(disch:=omega) only[AA];refine AD (kt) rfl ?_;simp(disch:=omega) only[AA];refine AL (fun _=>True) (fun _=>[.n n,.u,.u,LI [],LL [],.b false,.n 0,.u,.u,.u,.u,.u,.u]) 0 trivial rfl (fun v hv _=>by omega) (fun _=>?_);simp(disch:=omega) only[AA]
theorem AXX[HA K]{n:Int}{d:List (List Int)}(h3:n<3):K 636 [.n n,LL d] [LI []]:=by refine qb I7 rfl ?_;simp only[I7];simp(disch:=omega) only[AA];rfl
end Go.Cat
namespace Go.Cat
variable{K:Nat→List D→List D→Prop}
set_option maxRecDepth 100000
theorem RG:∀(a b:List Nat)(h k:Int),BZ a h=some k→BZ (a++b) h=BZ b k
 |[],b,h,k,e=>by
  simp only[BZ]at e
  injection e with e
  rw[e];rfl
 |c::a,b,h,k,e=>by
  simp only[BZ,List.cons_append]at e⊢
  split
  ·rename_i h1
   rw[if_pos h1]at e
   exact RG a b _ k e
  ·rename_i h1
   rw[if_neg h1]at e
   split
   ·rename_i h2
    rw[if_pos h2]at e
    split
    ·rename_i h3
     rw[if_pos h3]at e;cases e
    ·rename_i h3
     rw[if_neg h3]at e
     exact RG a b _ k e
   ·rename_i h2
    rw[if_neg h2]at e;cases e
theorem Uo[HA K]{d:D}(hd:Br d){n:Int}(hn:0≤n∧n≤8):∃rs,(∃x d',rs=[.s x,d']∧(AM x=true∧(x.length:Int)=2*n)∧Br d')∧K 306 [d,.n n] rs:=by
 refine qx P1 rfl ?_;simp only[P1];simp(disch:=first|omega|simp only[vl];omega) only[AA];refine Be (fun(q:D×List Nat×Int×Int)=>Br q.1∧(q.2.2.1≤n∧0≤q.2.2.2∧q.2.2.2≤q.2.2.1)∧(q.2.1.length:Int)=q.2.2.1+q.2.2.2∧BZ q.2.1 0=some (q.2.2.1-q.2.2.2)) (fun q=>[q.1,.n n,.u,.s q.2.1,.n q.2.2.1,.n q.2.2.2,.u,.u]) (fun q=>(2*n-q.2.2.1-q.2.2.2).toNat) (d,[],0,0) ⟨hd,by simp;omega,by simp,rfl⟩ rfl ?_;rintro⟨d1,x,u,v⟩ ⟨hd1,hr,hx,hw⟩;simp only at hd1 hr hx hw⊢;have up:BZ (x++[117]) 0=some (u+1-v):=by rw[RG x [117] 0 _ hw];show some (u-v+1)=_;congr 1;omega
 have dn:v<u→BZ (x++[100]) 0=some (u-(v+1)):=fun q=>by rw[RG x [100] 0 _ hw];simp only[BZ];rw[if_neg (by omega),if_pos trivial,if_neg (by omega)];congr 1;omega
 by_cases h0:v<n
 ·by_cases h1:u<n
  ·by_cases h2:u=v
   ·simp(disch:=first|omega|simp only[vl];omega) only[AA,h2];exact⟨(d1,x++[117],v+1,v),by simp only[];omega,⟨hd1,by simp only[];omega,by simp;omega,by rw[←h2];rw[←h2]at up;exact up⟩,rfl⟩
   ·obtain⟨_,⟨b,d2,rfl,hd2⟩,k2⟩:=Lm (K:=K) hd1 (n:=2);simp(disch:=first|omega|simp only[vl];omega) only[AA];refine AD (k2) rfl ?_
    cases b
    ·simp(disch:=first|omega|simp only[vl];omega) only[AA];exact⟨(d2,x++[100],u,v+1),by simp only[];omega,⟨hd2,by simp only[];omega,by simp;omega,dn (by omega)⟩,rfl⟩
    ·simp(disch:=first|omega|simp only[vl];omega) only[AA];exact⟨(d2,x++[117],u+1,v),by simp only[];omega,⟨hd2,by simp only[];omega,by simp;omega,up⟩,rfl⟩
  ·simp(disch:=first|omega|simp only[vl];omega) only[AA];exact⟨(d1,x++[100],u,v+1),by simp only[];omega,⟨hd1,by simp only[];omega,by simp;omega,dn (by omega)⟩,rfl⟩
 ·simp(disch:=first|omega|simp only[vl];omega) only[AA];have e1:u=n:=by omega
  have e2:v=n:=by omega
  refine⟨x,d1,rfl,⟨?_,by omega⟩,hd1⟩;rw[e1,e2,Int.sub_self]at hw;simp only[AM,hw,AX,Aj];simp;omega
theorem XF[HA K]{d:D}(hd:Br d):∃rs,(∃x d',rs=[.s x,d']∧(AM x=true∧x.length≤12)∧Br d')∧K 317 [d] rs:=by refine qx P8 rfl ?_;simp only[P8];obtain⟨_,⟨n,d1,rfl,hn,hd1⟩,k1⟩:=DT (K:=K) hd (n:=7);have hn:=hn.2 (by omega);obtain⟨_,⟨x,d2,rfl,hx,hd2⟩,k2⟩:=Uo (K:=K) hd1 (n:=n) (by omega);simp(disch:=first|omega|simp only[vl];omega) only[AA];refine AD (k1) rfl ?_;simp(disch:=first|omega|simp only[vl];omega) only[AA];refine AD (k2) rfl ?_;simp(disch:=first|omega|simp only[vl];omega) only[AA];exact⟨_,_,rfl,⟨hx.1,by omega⟩,hd2⟩
theorem Ob[HA K]{w:List Nat}(h:AM w=true):∃x:BT,w.length=2*x.n∧x.n≤8∧K 513 [.s w] [.s x.t]:=by obtain⟨x,rfl,hx⟩:=IY h;exact⟨x,BT.pl x,hx,Kj (K:=K) hx⟩
theorem AIQ[HA K]{d:D}(hd:Br d):∃rs,(∃x d',rs=[.s x,d']∧x.length≤100∧Br d')∧K 653 [d] rs:=by
 refine qx AFI rfl ?_;simp only[AFI];obtain⟨_,⟨w,d1,rfl,hw,hd1⟩,k1⟩:=XF (K:=K) hd;obtain⟨x,hxl,hx8,k2⟩:=Ob (K:=K) hw.1;have htl:=BT.tl x;obtain⟨_,⟨n,d2,rfl,hn,hd2⟩,k3⟩:=DT (K:=K) hd1 (n:=12);have hn:=hn.2 (by omega);simp(disch:=first|omega|simp only[vl];omega) only[AA];refine AD (k1) rfl ?_;simp(disch:=first|omega|simp only[vl];omega) only[AA];refine AD (k2) rfl ?_;simp(disch:=first|omega|simp only[vl];omega) only[AA];refine AD (k3) rfl ?_;simp(disch:=first|omega|simp only[vl];omega) only[AA];by_cases n0:n=0
 ·obtain⟨_,⟨y,d3,rfl,hy,hd3⟩,k4⟩:=ACL (K:=K) hd2 (w:=x.t) (by omega);simp(disch:=first|omega|simp only[vl];omega) only[AA,n0];refine AD (k4) rfl ?_;simp(disch:=first|omega|simp only[vl];omega) only[AA];exact⟨_,_,rfl,by omega,hd3⟩
 ·by_cases n1:n=1
  ·obtain⟨_,⟨y,d3,rfl,hy,hd3⟩,k4⟩:=S8 (K:=K) hd2 (l:=[[],[46],[40,46,46,41],[46,46],[40,46,41],[40,46,46,46,41],[40,46,46],[40,46,46,41,41]]) (by simp) (by simp);have hyl:y.length≤100:=by
    have:∀z∈([[],[46],[40,46,46,41],[46,46],[40,46,41],[40,46,46,46,41],[40,46,46],[40,46,46,41,41]]:List (List Nat)),z.length≤100:=by decide
    exact this y hy
   simp(disch:=first|omega|simp only[vl];omega) only[AA,n1,PY,QM];refine AD (k4) rfl ?_;simp(disch:=first|omega|simp only[vl];omega) only[AA];exact⟨_,_,rfl,hyl,hd3⟩
  ·simp(disch:=first|omega|simp only[vl];omega) only[AA];exact⟨_,_,rfl,by omega,hd2⟩
theorem AQ0[HA K]{d:D}(hd:Br d){m:Int}(hm:0≤m∧m≤6):∃rs,(∃a b d',rs=[.s a,.s b,d']∧(a.length≤100∧b.length≤100)∧Br d')∧K 649 [d,.n m] rs:=by
 refine qx AEF rfl ?_;simp only[AEF];obtain⟨_,⟨n,d1,rfl,hn,hd1⟩,k1⟩:=DT (K:=K) hd (n:=m+1);have hn:=hn.2 (by omega);obtain⟨_,⟨w,d2,rfl,hw,hd2⟩,k2⟩:=Uo (K:=K) hd1 (n:=n) (by omega);obtain⟨x,hxl,hx8,k3⟩:=Ob (K:=K) hw.1;have htl:=BT.tl x;obtain⟨_,⟨b1,d3,rfl,hd3⟩,k4⟩:=Lm (K:=K) hd2 (n:=14);simp(disch:=first|omega|simp only[vl];omega) only[AA];refine AD (k1) rfl ?_;simp(disch:=first|omega|simp only[vl];omega) only[AA];refine AD (k2) rfl ?_;simp(disch:=first|omega|simp only[vl];omega) only[AA];refine AD (k3) rfl ?_;simp(disch:=first|omega|simp only[vl];omega) only[AA];refine AD (k4) rfl ?_
 cases b1
 ·obtain⟨_,⟨b2,d4,rfl,hd4⟩,k5⟩:=Lm (K:=K) hd3 (n:=2);simp(disch:=first|omega|simp only[vl];omega) only[AA];refine AD (k5) rfl ?_
  cases b2
  ·obtain⟨_,⟨w2,d5,rfl,hw2,hd5⟩,k6⟩:=Uo (K:=K) hd4 (n:=n) (by omega);obtain⟨y,hyl,hy8,k7⟩:=Ob (K:=K) hw2.1;have htl2:=BT.tl y;simp(disch:=first|omega|simp only[vl];omega) only[AA];refine AD (k6) rfl ?_;simp(disch:=first|omega|simp only[vl];omega) only[AA];refine AD (k7) rfl ?_;simp(disch:=first|omega|simp only[vl];omega) only[AA];exact⟨_,_,_,rfl,⟨by omega,by omega⟩,hd5⟩
  ·obtain⟨_,⟨k,d5,rfl,hk,hd5⟩,k6⟩:=DT (K:=K) hd4 (n:=4);have hk:=hk.2 (by omega);simp(disch:=first|omega|simp only[vl];omega) only[AA];refine AD (k6) rfl ?_;simp(disch:=first|omega|simp only[vl];omega) only[AA];refine Be (fun(q:D×BT×Int)=>Br q.1∧q.2.1.n=x.n∧0≤q.2.2∧q.2.2≤4) (fun q=>[q.1,.u,.u,.u,.n n,.s x.t,.s q.2.1.t,.n q.2.2,.u,.u,.u,.u,.u,.u]) (fun q=>q.2.2.toNat) (d5,x,k) ⟨hd5,rfl,by simp only[];omega,by simp only[];omega⟩ rfl ?_;rintro⟨d6,y,j⟩ ⟨hd6,hy,hj0,hj4⟩;simp only at hd6 hy hj0 hj4⊢;have htl2:=BT.tl y;by_cases j0:0<j
   ·by_cases n0:0<n
    ·obtain⟨_,⟨v,d7,rfl,hv,hd7⟩,k7⟩:=DT (K:=K) hd6 (n:=n);have hv:=hv.2 (by omega);have k8:=Tz (K:=K) (x:=y) (v:=v) (by omega) (by omega);simp(disch:=first|omega|simp only[vl];omega) only[AA];refine AD (k7) rfl ?_
     cases hz:BF y v with
     |none=>
      rw[hz]at k8
      simp only[Dp,Option.elim,Option.isSome]at k8
      simp(disch:=first|omega|simp only[vl];omega) only[AA]
      refine AD (k8) rfl ?_
      simp(disch:=first|omega|simp only[vl];omega) only[AA]
      exact⟨(d7,y,j-1),by simp only[];omega,⟨hd7,hy,by simp only[];omega,by simp only[];omega⟩,rfl⟩
     |some z=>
      rw[hz]at k8
      simp only[Dp,Option.elim,Option.isSome]at k8
      simp(disch:=first|omega|simp only[vl];omega) only[AA]
      refine AD (k8) rfl ?_
      simp(disch:=first|omega|simp only[vl];omega) only[AA]
      exact⟨(d7,z,j-1),by simp only[];omega,⟨hd7,by simp only[];rw[Fa hz];exact hy,by simp only[];omega,by simp only[];omega⟩,rfl⟩
    ·simp(disch:=first|omega|simp only[vl];omega) only[AA];exact⟨_,_,_,rfl,⟨by omega,by omega⟩,hd6⟩
   ·simp(disch:=first|omega|simp only[vl];omega) only[AA];exact⟨_,_,_,rfl,⟨by omega,by omega⟩,hd6⟩
 ·obtain⟨_,⟨y,d4,rfl,hy,hd4⟩,k5⟩:=AIQ (K:=K) hd3;simp(disch:=first|omega|simp only[vl];omega) only[AA];refine AD (k5) rfl ?_;simp(disch:=first|omega|simp only[vl];omega) only[AA];exact⟨_,_,_,rfl,⟨by omega,hy⟩,hd4⟩
end Go.Cat
