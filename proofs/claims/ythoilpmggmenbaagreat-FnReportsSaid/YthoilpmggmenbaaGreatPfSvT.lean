/-
 The sieve: turns, what is kept, orbits.
-/
import Derived.Test.YthoilpmggmenbaaGreatQd0LawReports
import Derived.Test.YthoilpmggmenbaaGreatQd1LawReports
import Derived.Test.YthoilpmggmenbaaGreatQd2LawReports
import Derived.Test.YthoilpmggmenbaaGreatQd3LawReports
import Derived.Test.YthoilpmggmenbaaGreatPfRdD
set_option linter.unusedSimpArgs false
set_option linter.unusedVariables false
namespace Go.Cat
variable{K:Nat→List D→List D→Prop}
theorem ALT{n:Nat}(hn:1≤n∧n≤5){w:List Nat}(hw:w∈AN n):AM w=true∧w.length=2*n:=apd (by omega) hw
theorem AAU{w:List Nat}(hd:AM w=true)(hl:w.length≤16):CQ (Ck w)=true∧(Ck w).length=w.length∧∀i:Nat,i<(Ck w).length→0≤AE (Ck w) i∧AE (Ck w) i<(Ck w).length:=by have hp:=RW hd;rw[QI hd]at hp;have hm:CQ (Ck w)=true:=AP3 hl hp;refine⟨hm,hp.1,fun i hi=>?_⟩;have:=A8.1 ((GH hm).2 i hi).1;omega
theorem AB9[HA K]{f n k:Nat}(hf:f<3)(hn:1≤n∧n≤5){w:List Nat}(hw:w∈AN n)(hk:k<BS f n∨k=1):K 584 [.s (BG f),.s w,.n k] [.s (t15 f n k w)]:=by
 obtain⟨hd,hl⟩:=ALT hn hw;obtain⟨c1,c2,c3⟩:=AOV hn hw;have hl2:(w.length:Int)/2=n:=by omega
 refine qb AF2 rfl ?_;simp only[AF2];simp(disch:=first|omega|simp only[vl];omega) only[AA,hl2];rcases f3 hf with rfl|rfl|rfl
 ·obtain⟨m1,m2,m3⟩:=AAU hd (by omega);have hkk:k%(2*n)<2*n:=Nat.mod_lt _ (by omega);have em:(k:Int)%(2*(n:Int))=((k%(2*n):Nat):Int):=by simp[Int.natCast_emod]
  have kt:=AZU (K:=K) (m:=Ck w) (k:=k%(2*n)) m1 (by omega) (by omega) m3;have km:=(VR (K:=K) hd).2;rw[QI hd]at km;simp(disch:=first|omega|simp only[vl];omega) only[AA,show(BG 0==[109,97,116,99,104,105,110,103,115])=true from rfl];refine AD (km) rfl ?_;simp(disch:=first|omega|simp only[vl];omega) only[AA,em];refine AD (kt) rfl ?_;simp(disch:=first|omega|simp only[vl];omega) only[AA];have kq:=AYG (K:=K) (m:=H6 (Ck w) (k%(2*n))) (by rw[XN];omega);refine AD (kq) rfl ?_;simp(disch:=first|omega|simp only[vl];omega) only[AA];rfl
 ·have kp:=(N9 (K:=K) hd).2;rw[AFT hd]at kp;simp(disch:=first|omega|simp only[vl];omega) only[AA,show(BG 1==[109,97,116,99,104,105,110,103,115])=false from rfl,show(BG 1==[112,97,114,116,105,116,105,111,110,115])=true from rfl];refine AD (kp) rfl ?_;simp(disch:=first|omega|simp only[vl];omega) only[AA];have hkn:k<n+1:=by simp only[BS]at hk;omega
  refine MZ (fun _ p=>Fy p) (fun _ _=>True) (fun i p=>[.u,.u,.n k,.u,.u,.u,.u,.u,LI p,.n i,.u,.u,.u,.u,.u,.u,.u,.u,.u,.u]) k (EW w) trivial rfl (fun _ _ _ _=>trivial) (fun i p hi _ hp=>?_) (fun p hp _=>?_)
  ·have q:=c3 i (by omega);rw[Kf,←hp,AX,Aj]at q;simp(disch:=first|omega|simp only[vl];omega) only[AA];refine AD (AYC (K:=K) (p:=p) q.1 q.2) rfl ?_;simp(disch:=first|omega|simp only[vl];omega) only[AA]
  ·have q:=c3 k (by omega);rw[Kf,←hp,AX,Aj]at q;have q8:p.length≤8:=by have:=q.1;simp[CJ]at this;exact this.1
   simp(disch:=first|omega|simp only[vl];omega) only[AA];refine AD (AbL (K:=K) (p:=p) (by omega)) rfl ?_;simp(disch:=first|omega|simp only[vl];omega) only[AA];rw[t15,←hp]
 ·simp only[RK,AX,Aj]at c1;obtain⟨a1,a2,a3⟩:=c1;have hbt:H4 w=Cc w:=by rw[←a1,KG,a1]
  have hbn:(Cc w).n≤8:=by have:=BT.pl (Cc w);rw[a1]at this;omega
  have hkk:k%(n+2)<n+2:=Nat.mod_lt _ (by omega);have em:(k:Int)%((n:Int)+2)=((k%(n+2):Nat):Int):=by rw[Int.natCast_emod];rfl
  have hb:=ABV (K:=K) hd;rw[hbt]at hb;have c4:=c2 _ hkk;simp only[OF,AX]at c4;have h3:=NR c4.2;have htl:=NM c4.1;have hbo:=AdQ (K:=K) (n:=(n:Int)+2) (d:=HU ((n:Int)+2) ((k%(n+2):Nat):Int) (BP (Cc w))) (by omega) (by omega) h3;rw[if_pos c4.1]at hbo;simp(disch:=first|omega|simp only[vl];omega) only[AA,show(BG 2==[109,97,116,99,104,105,110,103,115])=false from rfl,show(BG 2==[112,97,114,116,105,116,105,111,110,115])=false from rfl];refine AD (hb) rfl ?_;simp(disch:=first|omega|simp only[vl];omega) only[AA];refine AD (MT (K:=K) (x:=Cc w) hbn) rfl ?_;simp(disch:=first|omega|simp only[vl];omega) only[AA,em];refine AD (AYO (K:=K) (n:=(n:Int)+2) (k:=((k%(n+2):Nat):Int)) a2 (NR a3) (by omega)) rfl ?_;simp(disch:=first|omega|simp only[vl];omega) only[AA];refine AD (hbo) rfl ?_;simp(disch:=first|omega|simp only[vl];omega) only[AA];refine AD (AUY (K:=K) (AZ1 c4.1)) rfl ?_;simp(disch:=first|omega|simp only[vl];omega) only[AA];rfl
def GO(f n k:Nat):Nat:=(AN n).countP fun w=>decide (t15 f n k w=w)
theorem AaA{α:Type}{l:List (List Nat)}{p:List Nat→Bool}{i:Nat}(h:i<l.length):(l.take (i+1)).countP p=(l.take i).countP p+if p (AO l i)=true then 1 else 0:=by rw[CU h,List.countP_append];simp[AO,h,List.countP_cons]
theorem MW{l:List (List Nat)}{i:Nat}(h:i<l.length):AO l i∈l:=by simp[AO,h]
theorem KB{n:Nat}(h:n<7):(AN n).length≤132:=by have:=BQ UQ n h;simp only[AX,Aj]at this;exact this.2
theorem AHP[HA K]{f n k:Nat}(hf:f<3)(hn:1≤n∧n≤5)(hk:k<BS f n):K 568 [.s (BG f),.n n,.n k] [.n (GO f n k)]:=by
 have ho:=Uy hf hn.2;have hp:=KB (n:=n) (by omega);refine qb AL2 rfl ?_;simp only[AL2];simp(disch:=first|omega|simp only[vl];omega) only[AA];refine AD (PV (K:=K) hf hn) rfl ?_;simp(disch:=first|omega|simp only[vl];omega) only[AA];refine AD (Bj (K:=K)) rfl ?_;rw[show AV 0 ((BS f n:Int)-1) k=true from A8.2 (by omega)];simp(disch:=first|omega|simp only[vl];omega) only[AA];refine AD (OS (K:=K) (n:=n) (by omega)) rfl ?_;simp(disch:=first|omega|simp only[vl];omega) only[AA];refine Au (fun i (c:Nat)=>c=((AN n).take i).countP (fun w=>decide (t15 f n k w=w))) (fun i c=>[.s (BG f),.u,.n k,.u,.u,LS (AN n),.n c,.n i,.u,.u,.u]) (AN n).length 0 rfl rfl (fun i c hi hP=>?_) (fun c hP=>?_)
 ·have hw:=MW hi;have hc:c≤132:=by rw[hP];have:=List.countP_le_length (p:=fun w=>decide (t15 f n k w=w)) (l:=(AN n).take i);simp only[List.length_take]at this;omega
  have hs:=AaA (p:=fun w=>decide (t15 f n k w=w)) hi (α:=Nat);simp(disch:=first|omega|simp only[vl];omega) only[AA];refine AD (AB9 (K:=K) hf hn hw (.inl hk)) rfl ?_;by_cases he:t15 f n k (AO (AN n) i)=AO (AN n) i
  ·simp(disch:=first|omega|simp only[vl];omega) only[AA,show(t15 f n k (AO (AN n) i)==AO (AN n) i)=true from beq_iff_eq.2 he];refine⟨c+1,?_,by simp⟩;rw[hs,hP];simp[he]
  ·simp(disch:=first|omega|simp only[vl];omega) only[AA,show(t15 f n k (AO (AN n) i)==AO (AN n) i)=false from beq_eq_false_iff_ne.2 he];refine⟨c,?_,rfl⟩;rw[hs,hP];simp[he]
 ·rw[List.take_of_length_le (by omega)]at hP;simp(disch:=first|omega|simp only[vl];omega) only[AA];rw[hP];rfl
theorem AEY[HA K]{l:List (List Nat)}{x:List Nat}(h:l.length≤100000):K 378 [LS l,.s x] [.b (l.contains x)]:=by
 refine qb OY rfl ?_;simp only[OY];simp(disch:=first|omega|simp only[vl];omega) only[AA];refine AL (fun i=>l.contains x=(l.drop i).contains x) (fun i=>[LS l,.s x,.u,.n i,.u,.u]) l.length (by simp) rfl (fun i hi hP=>?_) (fun hP=>?_)
 ·have hd:l.drop i=AO l i::l.drop (i+1):=by rw[List.drop_eq_getElem_cons hi];simp[AO,hi]
  rw[hd,List.contains_cons]at hP;by_cases he:AO l i=x
  ·simp(disch:=first|omega|simp only[vl];omega) only[AA,show(AO l i==x)=true from beq_iff_eq.2 he];rw[hP];simp[he]
  ·simp(disch:=first|omega|simp only[vl];omega) only[AA,show(AO l i==x)=false from beq_eq_false_iff_ne.2 he];rw[hP];simp[Ne.symm he]
 ·rw[List.drop_length]at hP;simp(disch:=first|omega|simp only[vl];omega) only[AA];rw[hP];simp
end Go.Cat
namespace Go.Cat
variable{K:Nat→List D→List D→Prop}
def An(f n:Nat):List Int:=(AN n).map fun w=>(((AN n).idxOf (t15 f n 1 w):Nat):Int)
def cvB(f n:Nat):Bool:=(List.range (AN n).length).all fun j=>decide ((AN n).idxOf (AO (AN n) j)=j)&&decide ((AN n).idxOf (t15 f n 1 (AO (AN n) j))<(AN n).length)
theorem cv0:BO 3 (fun f=>BO 4 fun n=>cvB f (n+1))=true:=by kernel_rfl
theorem cv5:BO 3 (fun f=>cvB f 5)=true:=by kernel_rfl
theorem RP{f n:Nat}(hf:f<3)(hn:1≤n∧n≤5){j:Nat}(hj:j<(AN n).length):(AN n).idxOf (AO (AN n) j)=j∧(AN n).idxOf (t15 f n 1 (AO (AN n) j))<(AN n).length:=by
 have h:cvB f n=true:=by
  rcases Bh (n-1) 4 with q|q
  ·have:=BQ (BQ cv0 f hf) (n-1) q;rwa [show n-1+1=n by omega]at this
  ·rw[show n=5 by omega];exact BQ cv5 f hf
 have:=Aw.1 h j (List.mem_range.2 hj);simpa using this
theorem AVO{n:Nat}(hn:1≤n∧n≤5){i j:Nat}(hi:i<(AN n).length)(hj:j<(AN n).length)(h:AO (AN n) i=AO (AN n) j):i=j:=by rw[←(RP (f:=0) (by omega) hn hi).1,h,(RP (f:=0) (by omega) hn hj).1]
theorem Nw{f n:Nat}(hf:f<3)(hn:1≤n∧n≤5){j:Nat}(hj:j<(AN n).length):∃k:Nat,AE (An f n) j=k∧k<(AN n).length∧AO (AN n) k=t15 f n 1 (AO (AN n) j):=by
 have h:=(RP hf hn hj).2;have e:AO (AN n) j=(AN n)[j]:=by simp[AO,hj]
 refine⟨(AN n).idxOf (t15 f n 1 (AO (AN n) j)),?_,h,?_⟩
 ·rw[e];simp[AE,An,hj]
 ·have:=List.getElem_idxOf h;rw[←this];have e2:∀k,(hk:k<(AN n).length)→AO (AN n) (k:Int)=(AN n)[k]:=fun k hk=>by simp[AO,hk]
  rw[this];exact(e2 _ h).trans this
theorem Ld{f n:Nat}:(An f n).length=(AN n).length:=by simp[An]
def E5(L:List Int):Nat→List Bool→Nat→Nat→List Bool×Nat
 |0,B,_,s=>(B,s)
 |f+1,B,a,s=>if CM B a=true then(B,s)else E5 L f (CR B a true) (AE L a).toNat (s+1)
def Cz(L:List Int)(i:Nat)(x:List Int×List Bool):List Int×List Bool:=
 (if 0<(E5 L L.length x.2 i 0).2 then x.1++[((E5 L L.length x.2 i 0).2:Int)]else x.1,(E5 L L.length x.2 i 0).1)
def G7(L:List Int):List Int:=(iter (Cz L) L.length ([],List.replicate L.length false)).1
def Gx(B:List Bool):Nat:=B.countP fun b=>!b
theorem WA{B:List Bool}:Gx B≤B.length:=List.countP_le_length
theorem AB2:∀k,Gx (List.replicate k false)=k
 |0=>rfl
 |k+1=>by
  have:=AB2 k
  simp only[Gx,List.replicate_succ,List.countP_cons]at this⊢
  simp[this]
theorem Ng:∀{B:List Bool}{a:Nat},a<B.length→CM B a=false→Gx (CR B a true)+1=Gx B
 |b::B,0,_,h=>by
  have hb:b=false:=by simpa[CM]using h
  subst hb
  simp[Gx,CR]
 |b::B,a+1,hl,h=>by
  have ih:=Ng (B:=B) (a:=a) (by simpa using hl) (by simpa[CM]using h)
  simp only[Gx,CR,BH,List.set_cons_succ,List.countP_cons]at ih⊢
  omega
 |[],_,hl,_=>by simp at hl
theorem NS{L:List Int}{f a s:Nat}{B:List Bool}(h:CM B a=true):E5 L f B a s=(B,s):=by
 cases f with
 |zero=>rfl
 |succ f=>rw[E5,if_pos h]
theorem AW9{B:List Bool}{i j:Nat}(h:i<B.length):CM (CR B i true) j=(decide (i=j)||CM B j):=by rw[ASI h];by_cases q:i=j<;>simp[q]
def Nk(ws S:List (List Nat))(B:List Bool):Prop:=B.length=ws.length∧S.length+Gx B=ws.length∧∀j,j<ws.length→S.contains (AO ws j)=CM B j
theorem Ab7{n:Nat}(hn:1≤n∧n≤5){S:List (List Nat)}{B:List Bool}(h:Nk (AN n) S B){a:Nat}(ha:a<(AN n).length)(hb:CM B a=false):Nk (AN n) (S++[AO (AN n) a]) (CR B a true):=by
 obtain⟨h1,h2,h3⟩:=h;have hu:=Ng (B:=B) (a:=a) (by omega) hb;refine⟨by rw[Fe];exact h1,by rw[A7,List.length_singleton];omega,fun j hj=>?_⟩;rw[AW9 (by omega),←h3 j hj];by_cases q:a=j
 ·subst q;simp
 ·have hne:AO (AN n) j≠AO (AN n) a:=fun e=>q (AVO hn hj ha e).symm;simp[q,hne]
theorem P6{L:List Int}:∀{f a s:Nat}{B:List Bool},(E5 L f B a s).1.length=B.length∧s≤(E5 L f B a s).2∧(E5 L f B a s).2≤s+f
 |0,_,_,_=>⟨rfl,Nat.le_refl _,Nat.le_refl _⟩
 |f+1,a,s,B=>by
  rw[E5]
  split
  ·exact⟨rfl,Nat.le_refl _,by simp only;omega⟩
  ·have ih:=P6 (L:=L) (f:=f) (a:=(AE L a).toNat) (s:=s+1) (B:=CR B a true)
   rw[Fe]at ih
   exact⟨ih.1,by omega,by omega⟩
theorem ARJ[HA K]{f n:Nat}(hf:f<3)(hn:1≤n∧n≤5):K 569 [.s (BG f),.n n] [LI (G7 (An f n)),.b true]:=by
 have hp:=KB (n:=n) (by omega);have hL:=Ld (f:=f) (n:=n);refine qb Xo rfl ?_;simp only[Xo];simp(disch:=first|omega|simp only[vl];omega) only[AA];refine AD (PV (K:=K) hf hn) rfl ?_;simp(disch:=first|omega|simp only[vl];omega) only[AA];refine AD (OS (K:=K) (n:=n) (by omega)) rfl ?_;simp(disch:=first|omega|simp only[vl];omega) only[AA]
 refine Au (fun i (x:List (List Nat)×(List Int×List Bool))=>x.2=iter (Cz (An f n)) i ([],List.replicate (An f n).length false)∧Nk (AN n) x.1 x.2.2∧x.2.1.length≤i)
  (fun i x=>[.s (BG f),.u,.u,.u,LI x.2.1,LS (AN n),LS x.1,.n i,.u,.u,.u,.u,.u,.u]) (AN n).length ([],([],List.replicate (An f n).length false)) ⟨rfl,⟨by simp[hL],by rw[AB2,hL];simp,fun j hj=>by simp[CM,hL,hj]⟩,by simp⟩ rfl (fun i x hi hP=>?_) (fun x hP=>?_)
 ·obtain⟨S,out,B⟩:=x;obtain⟨p1,p2,p3⟩:=hP;simp only at p1 p2 p3⊢;obtain⟨b1,b2,b3⟩:=p2;simp(disch:=first|omega|simp only[vl];omega) only[AA];refine AD (AEY (K:=K) (l:=S) (x:=AO (AN n) i) (by omega)) rfl ?_;rw[b3 i hi]
  cases hB:CM B i
  ·simp(disch:=first|omega|simp only[vl];omega) only[AA]
   refine Be (fun(y:Nat×List (List Nat)×List Bool×Nat×Nat)=>Nk (AN n) y.2.1 y.2.2.1∧y.2.2.2.1<(AN n).length∧Gx y.2.2.1≤y.1∧y.2.2.2.2+y.1≤132∧E5 (An f n) y.1 y.2.2.1 y.2.2.2.1 y.2.2.2.2=E5 (An f n) (An f n).length B i 0)
    (fun y=>[.s (BG f),.u,.u,.u,LI out,LS (AN n),LS y.2.1,.n i,.n y.2.2.2.2,.s (AO (AN n) y.2.2.2.1),.u,.u,.u,.u]) (fun y=>y.1) ((An f n).length,S,B,i,0) ⟨⟨b1,b2,b3⟩,hi,by have:=WA (B:=B);simp only;omega,by simp only;omega,rfl⟩ rfl ?_
   rintro⟨g,S',B',a,s⟩ ⟨q1,q2,q3,q4,q5⟩;simp only at q1 q2 q3 q4 q5⊢;obtain⟨r1,r2,r3⟩:=q1;simp(disch:=first|omega|simp only[vl];omega) only[AA];refine AD (AEY (K:=K) (l:=S') (x:=AO (AN n) a) (by omega)) rfl ?_;rw[r3 a q2]
   cases hB':CM B' a
   ·have hu:=Ng (B:=B') (a:=a) (by omega) hB'
    cases g with
    |zero=>omega
    |succ g=>
     have hk:=AB9 (K:=K) (f:=f) (k:=1) hf hn (MW q2) (.inr rfl)
     obtain⟨k,k1,k2,k3⟩:=Nw hf hn q2
     simp(disch:=first|omega|simp only[vl];omega) only[AA]
     refine AD (hk) rfl ?_
     simp(disch:=first|omega|simp only[vl];omega) only[AA]
     rw[←k3]
     refine⟨(g,S'++[AO (AN n) a],CR B' a true,k,s+1),by simp,⟨Ab7 hn ⟨r1,r2,r3⟩ q2 hB',k2,by simp only;omega,by simp only;omega,?_⟩,by simp⟩
     rw[←q5,E5,if_neg (by rw[hB'];simp),k1];rfl
   ·rw[NS hB']at q5;have hs:0<s:=by
     have e:=congrArg Prod.snd q5;simp only at e;rw[e];have hl0:(An f n).length=((An f n).length-1)+1:=by omega
     rw[hl0,E5,if_neg (by rw[hB];simp)];have:=(P6 (L:=An f n) (f:=(An f n).length-1) (a:=(AE (An f n) i).toNat) (s:=0+1) (B:=CR B i true)).2.1;omega
    simp(disch:=first|omega|simp only[vl];omega) only[AA];refine⟨(S',Cz (An f n) i (out,B)),⟨?_,?_,?_⟩,?_⟩
    ·rw[iter,←p1]
    ·simp only[Cz,←q5];exact⟨r1,r2,r3⟩
    ·simp only[Cz,←q5,if_pos hs,A7,AY,Ap];omega
    ·simp only[Cz,←q5,if_pos hs]
  ·simp(disch:=first|omega|simp only[vl];omega) only[AA];refine⟨(S,Cz (An f n) i (out,B)),⟨?_,?_,?_⟩,?_⟩
   ·rw[iter,←p1]
   ·simp only[Cz,NS hB];exact⟨b1,b2,b3⟩
   ·simp only[Cz,NS hB,Nat.lt_irrefl,if_false];omega
   ·simp only[Cz,NS hB,Nat.lt_irrefl,if_false]
 ·obtain⟨S,out,B⟩:=x;obtain⟨p1,p2,p3⟩:=hP;simp(disch:=first|omega|simp only[vl];omega) only[AA];have e:G7 (An f n)=(iter (Cz (An f n)) (AN n).length ([],List.replicate (An f n).length false)).1:=by rw[←hL];rfl
  simp only at p1⊢;rw[e,←p1]
end Go.Cat
