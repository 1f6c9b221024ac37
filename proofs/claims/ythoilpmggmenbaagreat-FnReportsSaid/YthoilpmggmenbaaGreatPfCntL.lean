/-
 The table of loops, on both sides.
-/
import Derived.Test.YthoilpmggmenbaaGreatQd0LawReports
import Derived.Test.YthoilpmggmenbaaGreatQd1LawReports
import Derived.Test.YthoilpmggmenbaaGreatQd2LawReports
import Derived.Test.YthoilpmggmenbaaGreatQd3LawReports
import Derived.Test.YthoilpmggmenbaaGreatPfBin
import Derived.Test.YthoilpmggmenbaaGreatPfRotC
import Derived.Test.YthoilpmggmenbaaGreatPfPLine
set_option linter.unusedSimpArgs false
set_option linter.unusedVariables false
namespace Go.Cat
set_option maxRecDepth 100000
variable{K:Nat→List D→List D→Prop}
def Mf(a:List Int)(s:List Bool):Prop:=∀j:Nat,j<a.length→CM s (j:Nat)=true→CM s (AE a (j:Nat))=true
theorem Md{s:List Bool}{i j:Nat}(hi:i<s.length):(s.set i true).getD j false=if i=j then true else s.getD j false:=by
 simp only[Al,List.getElem?_set];by_cases h:i=j
 ·subst h;simp[hi]
 ·simp[h]
theorem AcP{a:List Int}{s:List Bool}{n:Nat}(hm:CQ a=true)(hs:s.length=a.length)(hn:n<a.length)(hc:Mf a s)(hf:CM s (n:Nat)=false):
  DJ (CR (CR s (n:Nat) true) (AE a (n:Nat)) true)+2=DJ s∧Mf a (CR (CR s (n:Nat) true) (AE a (n:Nat)) true):=by
 obtain⟨q1,q2,q3⟩:=(GH hm).2 n hn;have q1:=A8.1 q1;obtain⟨k,hk⟩:=Cd q1.1;rw[hk]at q2 q3⊢;have hkn:k≠n:=fun e=>q2 (by rw[e]);have hkl:k<s.length:=by omega
 have hfk:s.getD k false=false:=by
  cases h:s.getD k false with
  |false=>rfl
  |true=>
   have:=hc k (by omega) (by rw[Iy];exact h)
   rw[q3,hf]at this
   cases this
 rw[Iy]at hf;have e1:=OM (s:=s) (i:=n) (by omega) hf;have e2:=OM (s:=s.set n true) (i:=k) (by rw[List.length_set];omega) (by rw[Md (by omega),if_neg (fun e=>hkn e.symm)];exact hfk);rw[PI,PI];refine⟨by omega,fun j hj hjt=>?_⟩;rw[Iy,Md (by rw[List.length_set];omega),Md (by omega)]at hjt;have g:∀m:Nat,CM ((s.set n true).set k true) (m:Nat)=if k=m then true else if n=m then true else s.getD m false:=fun m=>by rw[Iy,Md (by rw[List.length_set];omega),Md (by omega)]
 by_cases h1:k=j
 ·subst h1;rw[q3,g];simp
 ·by_cases h2:n=j
  ·subst h2;rw[hk,g];simp
  ·rw[if_neg h1,if_neg h2]at hjt;have h3:=hc j hj (by rw[Iy];exact hjt);have q4:=A8.1 ((GH hm).2 j hj).1;obtain⟨m,hm2⟩:=Cd q4.1;rw[hm2]at h3⊢;rw[Iy]at h3;rw[g,h3];simp
theorem AD0{a b:List Int}(hm:CQ a=true)(hb:IZ b)(hab:b.length=a.length):∀(f:Nat)(s:List Bool)(n:Nat),s.length=a.length→n<a.length→Mf a s→
  Mf a (Ei a b f s (n:Nat))∧DJ (Ei a b f s (n:Nat))≤DJ s∧(0<f→CM s (n:Nat)=false→DJ (Ei a b f s (n:Nat))+2≤DJ s)
 |0,s,n,_,_,hc=>⟨hc,Nat.le_refl _,fun h=>absurd h (by omega)⟩
 |f+1,s,n,hs,hn,hc=>by
  simp only[Ei]
  cases hx:CM s (n:Nat)with
  |true=>
   simp only[if_true]
   exact⟨hc,Nat.le_refl _,fun _ h=>by cases h⟩
  |false=>
   simp only[HF,if_false]
   obtain⟨e1,e2⟩:=AcP hm hs hn hc hx
   have hin:=Kx hm n hn
   have hin2:=NN hb (x:=AE a (n:Nat)) (by omega)
   obtain⟨m,hm2⟩:=Cd hin2.1
   rw[hm2]at hin2⊢
   have ih:=AD0 hm hb hab f (CR (CR s (n:Nat) true) (AE a (n:Nat)) true) m (by rw[Fe,Fe,hs]) (by omega) e2
   exact⟨ih.1,by omega,fun _ _=>by omega⟩
theorem APZ{a b:List Int}(hm:CQ a=true)(hb:IZ b)(hab:b.length=a.length):∀i:Nat,i≤a.length→Mf a (Cj a b i).1∧2*(Cj a b i).2+DJ (Cj a b i).1≤a.length
 |0,_=>by
  refine⟨fun j hj h=>?_,?_⟩
  ·rw[Iy]at h
   simp[Cj,rep,hj]at h
  ·have:=List.countP_le_length (p:=fun b=>!b) (l:=rep a.length false)
   simp only[Cj,DJ]
   have e:(rep a.length false).length=a.length:=by simp[rep]
   omega
 |i+1,hi=>by
  have ih:=APZ hm hb hab i (by omega)
  have hl:=(Nd (a:=a) (b:=b) i).1
  unfold Cj
  cases hx:CM (Cj a b i).1 (i:Nat)with
  |true=>
   simp only[if_true]
   exact ih
  |false=>
   simp only[HF,if_false]
   have:=AD0 hm hb hab (a.length+1) (Cj a b i).1 i hl (by omega) ih.1
   have h2:=this.2.2 (by omega) hx
   exact⟨this.1,by omega⟩
theorem AWF{a b:List Int}(hm:CQ a=true)(hb:IZ b)(hab:b.length=a.length):2*GB a b≤a.length:=by have:=(APZ hm hb hab a.length (Nat.le_refl _)).2;simp only[GB];omega
def Ht(a:List Int)(ms:List (List Int))(o:List Int):Nat→List Int
 |0=>o
 |j+1=>BM (Ht a ms o j) (GB a (AG ms (j:Nat)):Nat) (AE (Ht a ms o j) (GB a (AG ms (j:Nat)):Nat)+1)
def Er(ms:List (List Int))(n:Nat):Nat→List Int
 |0=>rep (n+1) 0
 |i+1=>Ht (AG ms (i:Nat)) ms (Er ms n i) ms.length
theorem MC{a:List Int}{ms:List (List Int)}{o:List Int}:∀j,(Ht a ms o j).length=o.length
 |0=>rfl
 |j+1=>by simp only[Ht,Cv,MC j]
theorem Lz{ms:List (List Int)}{n:Nat}:∀i,(Er ms n i).length=n+1
 |0=>by simp[Er,rep]
 |i+1=>by simp only[Er,MC,Lz i]
def Pe(o:List Int)(k:Nat):Prop:=∀j:Nat,j<o.length→0≤AE o (j:Nat)∧AE o (j:Nat)≤k
theorem Nm{a:List Int}{ms:List (List Int)}{o:List Int}{k:Nat}(h:Pe o k)(hc:∀j:Nat,j<ms.length→GB a (AG ms (j:Nat))<o.length):∀j,j≤ms.length→Pe (Ht a ms o j) (k+j)
 |0,_=>h
 |j+1,hj=>by
  have ih:=Nm h hc j (by omega)
  have hcj:=hc j (by omega)
  have hl:=MC (a:=a) (ms:=ms) (o:=o) j
  intro i hi
  simp only[Ht]at hi⊢
  rw[Cv]at hi
  rw[GX (by omega)]
  have h1:=ih i hi
  have h2:=ih (GB a (AG ms (j:Nat))) (by omega)
  split<;>omega
theorem AD8{ms:List (List Int)}{n:Nat}(hc:∀i j:Nat,i<ms.length→j<ms.length→GB (AG ms (i:Nat)) (AG ms (j:Nat))<n+1):∀i,i≤ms.length→Pe (Er ms n i) (i*ms.length)
 |0,_=>fun j hj=>by
  simp only[Er,rep,List.length_replicate]at hj⊢
  have e:(List.replicate (((n:Nat):Int)+1).toNat (0:Int))[j]?=some 0:=by rw[List.getElem?_replicate,if_pos hj]
  simp only[AE,BH,Al]
  rw[e]
  simp
 |i+1,hi=>by
  have ih:=AD8 hc i (by omega)
  have:=Nm (a:=AG ms (i:Nat)) (ms:=ms) ih (fun j hj=>by rw[Lz];exact hc i j (by omega) hj) ms.length (Nat.le_refl _)
  simp only[Er,Nat.add_mul,Nat.one_mul]
  exact this
theorem AYI:∀n:Nat,n<6→(AN n).length≤42:=by decide
theorem AWV{ws:List (List Nat)}{ms:List (List Int)}(h:HC ws ms):∀i:Nat,i<ms.length→PP (AO ws i) (AG ms i):=fun i hi=>AZY h i (by rw[←PD h];exact hi)
theorem Ac5[HA K]{n:Nat}(h:n≤5):∃l:List Int,l.length=n+1∧(∀x∈l,0≤x∧x≤1764)∧K 493 [.n n] [LI l,.b true]∧K 488 [.n n] [LI l,.b true]:=by
 obtain⟨_,⟨ms,rfl,hms⟩,k1⟩:=ATN (K:=K) (n:=n) (by omega);have hlen:=PD hms;have h42:=AYI n (by omega);have hin:AV 0 5 (n:Int)=true:=A8.2 (by omega);have hdy:∀i:Nat,i<ms.length→AM (AO (AN n) i)=true∧(AO (AN n) i).length=2*n:=fun i hi=>apd (n:=n) (by omega) (APY (ws:=AN n) (i:=i) (by omega));have hpp:∀i:Nat,i<ms.length→PP (AO (AN n) i) (AG ms i):=AWV hms;have hnc:∀i:Nat,i<ms.length→Ef (AG ms i)=true∧(AG ms i).length=2*n:=fun i hi=>by have h1:=hdy i hi;exact⟨AWX (by omega) (hpp i hi),by rw[(hpp i hi).1];exact h1.2⟩
 have hmt:∀i:Nat,i<ms.length→CQ (AG ms i)=true:=fun i hi=>by have:=(hnc i hi).1;simp[Ef]at this;exact this.1
 have hcy:∀i j:Nat,i<ms.length→j<ms.length→GB (AG ms (i:Nat)) (AG ms (j:Nat))<n+1:=fun i j hi hj=>by have:=AWF (hmt i hi) (Kx (hmt j hj)) (by rw[(hnc i hi).2,(hnc j hj).2]);rw[(hnc i hi).2]at this;omega
 have hbd:∀i,i≤ms.length→Pe (Er ms n i) 1764:=fun i hi j hj=>by have h1:=AD8 hcy i hi j hj;have h2:i*ms.length≤42*42:=Nat.mul_le_mul (by omega) (by omega);omega
 refine⟨Er ms n ms.length,Lz _,fun x hx=>?_,?_,?_⟩
 ·obtain⟨j,hj,e⟩:=List.getElem_of_mem hx;have:=hbd ms.length (Nat.le_refl _) j hj;have e2:AE (Er ms n ms.length) (j:Nat)=x:=by simp[AE,hj,e]
  rw[e2]at this;exact this
 ·refine qb AD1 rfl ?_;simp only[AD1];simp(disch:=first|omega|simp only[vl];omega) only[AA];refine AD (CK (K:=K)) rfl ?_;rw[hin];simp(disch:=first|omega|simp only[vl];omega) only[AA];refine AD (k1) rfl ?_;simp(disch:=first|omega|simp only[vl];omega) only[AA];refine AL (fun _=>True) (fun i=>[.u,.u,.u,LI (Er ms n i),LL ms,.u,.u,.u,LL ms,.n ms.length,.n i,.u,.u,.u,.u,.u]) ms.length trivial ?_ (fun i hi _=>?_) (fun _=>?_)
  ·rfl
  ·have l2:=Lz (ms:=ms) (n:=n) i;have b2:=hbd i (by omega);simp(disch:=first|omega|simp only[vl];omega) only[AA];refine AL (fun _=>True) (fun j=>[.u,.u,.u,LI (Ht (AG ms (i:Nat)) ms (Er ms n i) j),LL ms,LI (AG ms (i:Nat)),.u,.u,LL ms,.n ms.length,.n i,.u,LL ms,.n ms.length,.n j,.u]) ms.length trivial rfl (fun j hj _=>?_) (fun _=>?_)
   ·have l1:=MC (a:=AG ms (i:Nat)) (ms:=ms) (o:=Er ms n i) j;have hci:=hcy i j hi hj;have b1:=Nm (a:=AG ms (i:Nat)) (ms:=ms) b2 (fun j hj=>by rw[l2];exact hcy i j hi hj) j (by omega) (GB (AG ms (i:Nat)) (AG ms (j:Nat))) (by omega);have h1:=hnc i hi;have h2:=hnc j hj;simp(disch:=first|omega|simp only[vl];omega) only[AA];refine AD (ATS (K:=K) (a:=AG ms (i:Nat)) (b:=AG ms (j:Nat)) (by omega) (by omega) (Kx (hmt i hi)) (Kx (hmt j hj))) rfl ?_;simp(disch:=first|omega|simp only[vl];omega) only[AA];rfl
   ·simp(disch:=first|omega|simp only[vl];omega) only[AA];rfl
  ·simp(disch:=first|omega|simp only[vl];omega) only[AA]
 ·have k2:=OS (K:=K) (n:=n) (by omega);refine qb X1 rfl ?_;simp only[X1];simp(disch:=first|omega|simp only[vl];omega) only[AA];refine AD (Bj (K:=K)) rfl ?_;rw[hin];simp(disch:=first|omega|simp only[vl];omega) only[AA];refine AD (k2) rfl ?_;simp(disch:=first|omega|simp only[vl];omega) only[AA];refine AL (fun _=>True) (fun i=>[.n n,.u,.u,LS (AN n),LL (ms.take i),.n i,.u,.u,.u,.u,.u,.u,.u,.u,.u]) (AN n).length trivial rfl (fun i hi _=>?_) (fun _=>?_)
  ·have hpi:=hpp i (by omega);have hdi:=hdy i (by omega);have et:(ms.take i).length=i:=by rw[List.length_take];omega
   have et2:ms.take (i+1)=ms.take i++[AG ms (i:Nat)]:=by rw[CU (by omega)];simp[AG,show i<ms.length by omega]
   rw[et2];obtain⟨zs,hz⟩:∃zs,zs=ms.take i:=⟨_,rfl⟩;rw[←hz]at et⊢;simp(disch:=first|omega|simp only[vl];omega) only[AA];refine AD (UG (K:=K) (w:=AO (AN n) (i:Nat)) (m:=AG ms (i:Nat)) hdi.1 hpi) rfl ?_;simp(disch:=first|omega|simp only[vl];omega) only[AA,AHB]
  ·rw[←hlen,List.take_length];simp(disch:=first|omega|simp only[vl];omega) only[AA];refine AL (fun _=>True) (fun i=>[.u,.u,.u,.u,LL ms,.u,.u,LI (Er ms n i),.n i,.u,.u,.u,.u,.u,.u]) ms.length trivial ?_ (fun i hi _=>?_) (fun _=>?_)
   ·rfl
   ·have l2:=Lz (ms:=ms) (n:=n) i;have b2:=hbd i (by omega);simp(disch:=first|omega|simp only[vl];omega) only[AA];refine AL (fun _=>True) (fun j=>[.u,.u,.u,.u,LL ms,.u,.u,LI (Ht (AG ms (i:Nat)) ms (Er ms n i) j),.n i,.n j,.u,.u,.u,.u,.u]) ms.length trivial rfl (fun j hj _=>?_) (fun _=>?_)
    ·have l1:=MC (a:=AG ms (i:Nat)) (ms:=ms) (o:=Er ms n i) j;have hci:=hcy i j hi hj;have b1:=Nm (a:=AG ms (i:Nat)) (ms:=ms) b2 (fun j hj=>by rw[l2];exact hcy i j hi hj) j (by omega) (GB (AG ms (i:Nat)) (AG ms (j:Nat))) (by omega);have h1:=hnc i hi;have h2:=hnc j hj;simp(disch:=first|omega|simp only[vl];omega) only[AA];refine AD (AdJ (K:=K) (a:=AG ms (i:Nat)) (b:=AG ms (j:Nat)) h1.1 h2.1 (by omega)) rfl ?_;simp(disch:=first|omega|simp only[vl];omega) only[AA];rfl
    ·simp(disch:=first|omega|simp only[vl];omega) only[AA];rfl
   ·simp(disch:=first|omega|simp only[vl];omega) only[AA]
end Go.Cat
namespace Go.Cat
set_option maxRecDepth 100000
variable{K:Nat→List D→List D→Prop}
theorem AQL{a0 a1 a2 a3 a4 a5 a6 a7 a8 a9 a10 a11 a12 a13 a14 a15:List Nat}:C2 [.s a0,.s a1,.s a2,.s a3,.s a4,.s a5,.s a6,.s a7,.s a8,.s a9,.s a10,.s a11,.s a12,.s a13,.s a14,.s a15]=some (LS [a0,a1,a2,a3,a4,a5,a6,a7,a8,a9,a10,a11,a12,a13,a14,a15]):=rfl
theorem AaW:∀n,n<6→(0≤Jh.getD n 0∧Jh.getD n 0≤100000)∧(0≤J5.getD n 0∧J5.getD n 0≤100000)∧(0≤JQ.getD n 0∧JQ.getD n 0≤100000)∧(0≤JT.getD n 0∧JT.getD n 0≤100000)∧(0≤JB.getD n 0∧JB.getD n 0≤100000):=by decide
theorem ARX[HA K][MD K]{n:Nat}(h:n≤5):∃v,K 456 [.n n] [.s v]∧K 455 [.n n] [.s v]:=by
 obtain⟨b1,b2,b3,b4,b5⟩:=AaW n (by omega);obtain⟨ci,ci1,ci2,cii,cis⟩:=AZP (K:=K) h;obtain⟨l,l1,l2,li,ls⟩:=Ac5 (K:=K) h;have mzi:=AdV (K:=K) (n:=n) (by omega);have mzs:=AbN (K:=K) (n:=n) (by omega);have shi:=MD.sch (K:=K) n h;have shs:=AZR (K:=K) (n:=n) (by omega);have fui:=AU6 (K:=K) (n:=n) (by omega);have fus:=AWC (K:=K) (n:=n) (by omega);have pki:=AU1 (K:=K) (n:=n) (by omega);have pks:=AY1 (K:=K) (n:=n) (by omega);have cai:=AQS (K:=K) (n:=n) (by omega);have cas:=ARD (K:=K) (n:=n) (by omega);generalize Jh.getD n 0=ca at*;generalize J5.getD n 0=sh at*;generalize JQ.getD n 0=fu at*;generalize JT.getD n 0=pk at*;generalize JB.getD n 0=mz at*;have hi:Gl l:=fun y hy=>by have:=l2 y hy;omega
 have hin:AV 0 5 (n:Int)=true:=A8.2 (by omega);have f1:=BB (n:=(n:Int)) (by omega);have f2:=BB (n:=ca) (by omega);have f3:=BB (n:=mz) (by omega);have f4:=BB (n:=sh) (by omega);have f5:=BB (n:=fu) (by omega);have f6:=BB (n:=pk) (by omega);have f7:=BB (n:=ci) (by omega);have f8:=Il hi;refine⟨[115,105,122,101,32]++Ai n++[32,99,97,116,97,108,97,110,32]++Ai ca++[32,109,111,116,122,107,105,110,32]++Ai mz++[32,115,99,104,114,111,101,100,101,114,32]++Ai sh++[32,116,101,114,110,97,114,121,32]++Ai fu++[32,112,97,114,107,105,110,103,32]++Ai pk++[32,105,110,116,101,114,118,97,108,115,32]++Ai ci++[32,108,111,111,112,115,32]++EI l,?_,?_⟩
 ·refine qb Nq rfl ?_;simp only[Nq];simp(disch:=first|omega|simp only[vl];omega) only[AA];refine AD (CK (K:=K)) rfl ?_;rw[hin];simp(disch:=first|omega|simp only[vl];omega) only[AA];refine AD (li) rfl ?_;simp(disch:=first|omega|simp only[vl];omega) only[AA];refine AD (CZ (K:=K) (n:=(n:Int)) (by omega)) rfl ?_;simp(disch:=first|omega|simp only[vl];omega) only[AA];refine AD (cai) rfl ?_;simp(disch:=first|omega|simp only[vl];omega) only[AA];refine AD (CZ (K:=K) (n:=ca) (by omega)) rfl ?_;simp(disch:=first|omega|simp only[vl];omega) only[AA];refine AD (mzi) rfl ?_;simp(disch:=first|omega|simp only[vl];omega) only[AA];refine AD (CZ (K:=K) (n:=mz) (by omega)) rfl ?_;simp(disch:=first|omega|simp only[vl];omega) only[AA];refine AD (shi) rfl ?_;simp(disch:=first|omega|simp only[vl];omega) only[AA];refine AD (CZ (K:=K) (n:=sh) (by omega)) rfl ?_;simp(disch:=first|omega|simp only[vl];omega) only[AA];refine AD (fui) rfl ?_;simp(disch:=first|omega|simp only[vl];omega) only[AA];refine AD (CZ (K:=K) (n:=fu) (by omega)) rfl ?_;simp(disch:=first|omega|simp only[vl];omega) only[AA];refine AD (pki) rfl ?_;simp(disch:=first|omega|simp only[vl];omega) only[AA];refine AD (CZ (K:=K) (n:=pk) (by omega)) rfl ?_;simp(disch:=first|omega|simp only[vl];omega) only[AA];refine AD (cii) rfl ?_;simp(disch:=first|omega|simp only[vl];omega) only[AA];refine AD (CZ (K:=K) (n:=ci) (by omega)) rfl ?_;simp(disch:=first|omega|simp only[vl];omega) only[AA];refine AD (Ml (K:=K) (l:=l) (by omega) hi) rfl ?_;simp(disch:=first|omega|simp only[vl];omega) only[AA,AQL];have hln:=Gb (K:=K) (ws:=[[115,105,122,101],Ai n,[99,97,116,97,108,97,110],Ai ca,[109,111,116,122,107,105,110],Ai mz,[115,99,104,114,111,101,100,101,114],Ai sh,[116,101,114,110,97,114,121],Ai fu,[112,97,114,107,105,110,103],Ai pk,[105,110,116,101,114,118,97,108,115],Ai ci,[108,111,111,112,115],EI l]) (by simp) (by simp;omega);refine AD (hln) rfl ?_;simp(disch:=first|omega|simp only[vl];omega) only[AA];simp[glue,BN,AO]
 ·refine qb Qp rfl ?_;simp only[Qp];simp(disch:=first|omega|simp only[vl];omega) only[AA];refine AD (Bj (K:=K)) rfl ?_;rw[hin];simp(disch:=first|omega|simp only[vl];omega) only[AA];refine AD (ls) rfl ?_;simp(disch:=first|omega|simp only[vl];omega) only[AA];refine AD (Bp (K:=K) (n:=(n:Int)) (by omega)) rfl ?_;simp(disch:=first|omega|simp only[vl];omega) only[AA];refine AD (cas) rfl ?_;simp(disch:=first|omega|simp only[vl];omega) only[AA];refine AD (Bp (K:=K) (n:=ca) (by omega)) rfl ?_;simp(disch:=first|omega|simp only[vl];omega) only[AA];refine AD (mzs) rfl ?_;simp(disch:=first|omega|simp only[vl];omega) only[AA];refine AD (Bp (K:=K) (n:=mz) (by omega)) rfl ?_;simp(disch:=first|omega|simp only[vl];omega) only[AA];refine AD (shs) rfl ?_;simp(disch:=first|omega|simp only[vl];omega) only[AA];refine AD (Bp (K:=K) (n:=sh) (by omega)) rfl ?_;simp(disch:=first|omega|simp only[vl];omega) only[AA];refine AD (fus) rfl ?_;simp(disch:=first|omega|simp only[vl];omega) only[AA];refine AD (Bp (K:=K) (n:=fu) (by omega)) rfl ?_;simp(disch:=first|omega|simp only[vl];omega) only[AA];refine AD (pks) rfl ?_;simp(disch:=first|omega|simp only[vl];omega) only[AA];refine AD (Bp (K:=K) (n:=pk) (by omega)) rfl ?_;simp(disch:=first|omega|simp only[vl];omega) only[AA];refine AD (cis) rfl ?_;simp(disch:=first|omega|simp only[vl];omega) only[AA];refine AD (Bp (K:=K) (n:=ci) (by omega)) rfl ?_;simp(disch:=first|omega|simp only[vl];omega) only[AA];refine AD (MU (K:=K) (l:=l) (by omega) hi) rfl ?_;simp(disch:=first|omega|simp only[vl];omega) only[AA]
theorem AR2[HA K][MD K](a:Int):∃v,K 456 [.n a] [.s v]∧K 455 [.n a] [.s v]:=by
 by_cases h:0≤a∧a≤5
 ·obtain⟨m,rfl⟩:=Cd h.1;exact ARX (by omega)
 ·have e:AV 0 5 a=false:=Nc.2 h;refine⟨[],?_,?_⟩
  ·refine qb Nq rfl ?_;simp only[Nq];simp(disch:=first|omega|simp only[vl];omega) only[AA];refine AD (CK (K:=K)) rfl ?_;rw[e];simp(disch:=first|omega|simp only[vl];omega) only[AA]
  ·refine qb Qp rfl ?_;simp only[Qp];simp(disch:=first|omega|simp only[vl];omega) only[AA];refine AD (Bj (K:=K)) rfl ?_;rw[e];simp(disch:=first|omega|simp only[vl];omega) only[AA]
end Go.Cat
