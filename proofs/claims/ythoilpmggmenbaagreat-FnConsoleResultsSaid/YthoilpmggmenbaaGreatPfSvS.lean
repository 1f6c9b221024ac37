/-
 The sieve: what the reference reckons.
-/
import Derived.Test.YthoilpmggmenbaaGreatPfRdE
set_option linter.unusedSimpArgs false
set_option linter.unusedVariables false
namespace Go.Cat
variable{K:Nat->List D->List D->Prop}
def Bg(f:Nat):List Nat:=match f with
 |0=>[109,97,116,99,104,105,110,103,115]
 |1=>[112,97,114,116,105,116,105,111,110,115]
 |_=>[116,114,105,97,110,103,117,108,97,116,105,111,110,115]
def BZ(f n:Nat):Nat:=match f with
 |0=>2*n
 |1=>n
 |_=>n+2
theorem f3{f:Nat}(h:f<3):f=0\/f=1\/f=2:=by omega
theorem TV{f n:Nat}(h:f<3)(H:n<=5):BZ f n<=10:=by rcases f3 h with rfl|rfl|rfl<;>simp only[BZ]<;>omega
theorem QT[HA K]{f n:Nat}(H:f<3)(a:1<=n/\n<=5):K 567 [.s (Bg f),.n n] [.n (BZ f n)]:=by have h:A4 1 5 n=true:=Af.2 (by omega);refine qw I567 ?_;refine cB Cl ?_;rcases f3 H with rfl|rfl|rfl;simp(disch:=try exact dV) only[AD,h,show(Bg 0==[109,97,116,99,104,105,110,103,115])=true from rfl];rfl;simp(disch:=try exact dV) only[AD,h,show(Bg 1==[109,97,116,99,104,105,110,103,115])=false from rfl,show(Bg 1==[112,97,114,116,105,116,105,111,110,115])=true from rfl];rfl;simp(disch:=try exact dV) only[AD,h,show(Bg 2==[109,97,116,99,104,105,110,103,115])=false from rfl,show(Bg 2==[112,97,114,116,105,116,105,111,110,115])=false from rfl,show(Bg 2==[116,114,105,97,110,103,117,108,97,116,105,111,110,115])=true from rfl];rfl
def t15(f n k:Nat)(w:List Nat):List Nat:=match f with
 |0=>Hp (Ie (C1 w) (k%(2*n)))
 |1=>IX (iter (λ_ p=>HB p) k (Dw w))
 |_=>(Je ((n:Int)+2) (IT ((n:Int)+2) ((k%(n+2):Nat):Int) (BG (CP w)))).p
def O1(r:List Int):Bool:=decide (r.length=2)&&(A4 0 10 (AB r 0)&&A4 0 10 (AB r 1))
theorem N0{d:List (List Int)}(h:d.all O1=true):∀r∈d,FF r:=by intro r H;have:=Aj.1 h r H;simp only[O1,AU,Ad]at this;have a:=Af.1 this.2.1;have b:=Af.1 this.2.2;exact⟨this.1,by omega,by omega⟩
def Pv(n:Nat)(w:List Nat):Bool:=decide ((CP w).p=w)&&(DU ((n:Int)+2) (BG (CP w))&&((BG (CP w)).all O1))
def Pq(n:Nat)(w:List Nat)(k:Nat):Bool:=DU ((n:Int)+2) (IT ((n:Int)+2) (k:Int) (BG (CP w)))&&(IT ((n:Int)+2) (k:Int) (BG (CP w))).all O1
def MK(w:List Nat)(k:Nat):Bool:=CJ (iter (λ_ p=>HB p) k (Dw w))&&decide (0<(iter (λ_ p=>HB p) k (Dw w)).length)
noncomputable def svC(n:Nat):Bool:=(AG (n+1)).all λw=>Pv (n+1) w&&(BH (n+3) (Pq (n+1) w)&&BH (n+2) (MK w))
theorem sv0:BH 4 svC=true:=by kernel_rfl
theorem sv4:svC 4=true:=by kernel_rfl
theorem XV{n:Nat}(b:1<=n/\n<=5){w:List Nat}(a:w∈AG n):Pv n w=true/\(∀k,k<n+2->Pq n w k=true)/\∀k,k<n+1->MK w k=true:=by
 have h:svC (n-1)=true:=by rcases B7 (n-1) 4 with q|q;exact BQ sv0 _ q;rw[show n-1=4 by omega];exact sv4
 have:=Aj.1 h w (by rw[show n-1+1=n by omega];exact a);simp only[AU]at this;rw[show n-1+1=n by omega,show n-1+3=n+2 by omega,show n-1+2=n+1 by omega]at this;exact⟨this.1,λk H=>BQ this.2.1 k H,λk H=>BQ this.2.2 k H⟩
end Go.Cat
namespace Go.Cat
variable{K:Nat->List D->List D->Prop}
theorem Yc{n:Nat}(H:1<=n/\n<=5){w:List Nat}(h:w∈AG n):AK w=true/\w.length=2*n:=apd (by omega) h
theorem AKJ{w:List Nat}(hd:AK w=true)(l:w.length<=16):CV (C1 w)=true/\(C1 w).length=w.length/\∀i:Nat,i<(C1 w).length->0<=AB (C1 w) i/\AB (C1 w) i<(C1 w).length:=by have h:=VM hd;rw[Kj hd]at h;have H:CV (C1 w)=true:=Wn l h;refine⟨H,h.1,λi hi=>?_⟩;have:=Af.1 ((GY H).2 i hi).1;omega
theorem AE0[HA K]{f n k:Nat}(M:f<3)(B:1<=n/\n<=5){w:List Nat}(F:w∈AG n)(N:k<BZ f n\/k=1):K 584 [.s (Bg f),.s w,.n k] [.s (t15 f n k w)]:=by
 obtain⟨hd,U⟩:=Yc B F;obtain⟨C,c2,o⟩:=XV B F;have l:(w.length:Int)/2=n:=by omega
 refine qb I584 ?_;simp(disch:=try exact dV) only[AD,l];rcases f3 M with rfl|rfl|rfl;obtain⟨R,V,T⟩:=AKJ hd (by omega);have H:k%(2*n)<2*n:=Nat.mod_lt _ (by omega);have e:(k:Int)%(2*(n:Int))=((k%(2*n):Nat):Int):=by simp[Int.natCast_emod]
 have Q:=AbC (K:=K) (m:=C1 w) (k:=k%(2*n)) R (by omega) (by omega) T;have G:=(UT (K:=K) hd).2;rw[Kj hd]at G;simp(disch:=try exact dV) only[AD,show(Bg 0==[109,97,116,99,104,105,110,103,115])=true from rfl];refine cB G ?_;simp(disch:=try exact dV) only[AD,e];refine cW Q ?_;have kq:=AQX (K:=K) (m:=Ie (C1 w) (k%(2*n))) (by rw[ALF];omega);exact cZ kq;have I:=(PC (K:=K) hd).2;rw[PJ hd]at I;simp(disch:=try exact dV) only[AD,show(Bg 1==[109,97,116,99,104,105,110,103,115])=false from rfl,show(Bg 1==[112,97,114,116,105,116,105,111,110,115])=true from rfl];refine cW I ?_;have O:k<n+1:=by simp only[BZ]at N;omega
 refine NF (λ_ p=>HB p) (λ_ _=>True) (λi p=>[.u,.u,.n k,.u,.u,.u,.u,.u,LI p,.n i,.u,.u,.u,.u,.u,.u,.u,.u,.u,.u]) k (Dw w) trivial rfl (λ_ _ _ _=>trivial) (λi p hi _ a=>?_) (λp a _=>?_);have q:=o i (by omega);rw[MK,<-a,AU,Ad]at q;refine wW ?_;exact cZ (AdT q.1 q.2);have q:=o k (by omega);rw[MK,<-a,AU,Ad]at q;have W:p.length<=8:=by have:=q.1;simp[CJ]at this;exact this.1
 refine wW ?_;refine cW (AU4 (by omega)) ?_;rw[t15,<-a];simp only[Pv,AU,Ad]at C;obtain⟨b,a2,J⟩:=C;have j:Ft w=CP w:=by rw[<-b,GO,b]
 have g:(CP w).n<=8:=by have:=BT.pl (CP w);rw[b]at this;omega
 have H:k%(n+2)<n+2:=Nat.mod_lt _ (by omega);have e:(k:Int)%((n:Int)+2)=((k%(n+2):Nat):Int):=by rw[Int.natCast_emod]<;>rfl
 have x:=Qa (K:=K) hd;rw[j]at x;have c:=c2 _ H;simp only[Pq,AU]at c;have L:=N0 c.2;have P:=Nx c.1;have h:=AXP (K:=K) (n:=(n:Int)+2) (d:=IT ((n:Int)+2) ((k%(n+2):Nat):Int) (BG (CP w))) (by omega) (by omega) L;rw[if_pos c.1]at h;simp(disch:=try exact dV) only[AD,show(Bg 2==[109,97,116,99,104,105,110,103,115])=false from rfl,show(Bg 2==[112,97,114,116,105,116,105,111,110,115])=false from rfl];refine cW x ?_;refine cB (QF g) ?_;simp(disch:=try exact dV) only[AD,e];refine cW (AXV a2 (N0 J) (by omega)) ?_;refine cW h ?_;exact cZ (ATW (AJH c.1))
def HH(f n k:Nat):Nat:=(AG n).countP λw=>decide (t15 f n k w=w)
theorem AZH{α:Type}{l:List (List Nat)}{p:List Nat->Bool}{i:Nat}(h:i<l.length):(l.take (i+1)).countP p=(l.take i).countP p+if p (AH l i)=true then 1 else 0:=by rw[CO h,List.countP_append];simp[AH,h,List.countP_cons]
theorem OE{l:List (List Nat)}{i:Nat}(h:i<l.length):AH l i∈l:=by simp[AH,h]
theorem KM{n:Nat}(h:n<7):(AG n).length<=132:=by have:=BQ Rq n h;simp only[AU,Ad]at this;exact this.2
theorem AKL[HA K]{f n k:Nat}(H:f<3)(a:1<=n/\n<=5)(e:k<BZ f n):K 568 [.s (Bg f),.n n,.n k] [.n (HH f n k)]:=by
 have o:=TV H a.2;have q:=KM (n:=n) (by omega);refine qw I568 ?_;refine cW (QT H a) ?_;refine cB Cl ?_;rw[show A4 0 ((BZ f n:Int)-1) k=true from Af.2 (by omega)];refine wW ?_;refine cW (OQ (by omega)) ?_;refine BE (λi (c:Nat)=>c=((AG n).take i).countP (λw=>decide (t15 f n k w=w))) (λi c=>[.s (Bg f),.u,.n k,.u,.u,LS (AG n),.n c,.n i,.u,.u,.u]) (AG n).length 0 rfl rfl (λi c hi h=>?_) (λc h=>?_);have g:=OE hi;have j:c<=132:=by rw[h];have:=List.countP_le_length (p:=λw=>decide (t15 f n k w=w)) (l:=(AG n).take i);simp only[List.length_take]at this;omega
 have b:=AZH (p:=λw=>decide (t15 f n k w=w)) hi (α:=Nat);refine wW ?_;refine cB (AE0 H a g (.inl e)) ?_;by_cases he:t15 f n k (AH (AG n) i)=AH (AG n) i;simp(disch:=try exact dV) only[AD,show(t15 f n k (AH (AG n) i)==AH (AG n) i)=true from beq_iff_eq.2 he];refine⟨c+1,?_,by simp⟩;rw[b,h];simp[he];simp(disch:=try exact dV) only[AD,show(t15 f n k (AH (AG n) i)==AH (AG n) i)=false from beq_eq_false_iff_ne.2 he];refine⟨c,?_,rfl⟩;rw[b,h];simp[he];rw[List.take_of_length_le (by omega)]at h;refine wW ?_;rw[h]<;>rfl
theorem AI1[HA K]{l:List (List Nat)}{x:List Nat}(h:l.length<=100000):K 378 [LS l,.s x] [.b (l.contains x)]:=by
 refine qw ADT ?_;refine AR (λi=>l.contains x=(l.drop i).contains x) (λi=>[LS l,.s x,.u,.n i,.u,.u]) l.length (by simp) rfl (λi hi P=>?_) (λP=>?_);have hd:l.drop i=AH l i::l.drop (i+1):=by rw[List.drop_eq_getElem_cons hi];simp[AH,hi]
 rw[hd,List.contains_cons]at P;by_cases he:AH l i=x;simp(disch:=try exact dV) only[AD,show(AH l i==x)=true from beq_iff_eq.2 he];rw[P];simp[he];simp(disch:=try exact dV) only[AD,show(AH l i==x)=false from beq_eq_false_iff_ne.2 he];rw[P];simp[Ne.symm he];rw[List.drop_length]at P;refine wW ?_;rw[P];simp
end Go.Cat
namespace Go.Cat
variable{K:Nat->List D->List D->Prop}
def Al(f n:Nat):List Int:=(AG n).map λw=>(((AG n).idxOf (t15 f n 1 w):Nat):Int)
def cvB(f n:Nat):Bool:=(List.range (AG n).length).all λj=>decide ((AG n).idxOf (AH (AG n) j)=j)&&decide ((AG n).idxOf (t15 f n 1 (AH (AG n) j))<(AG n).length)
theorem cv0:BH 3 (λf=>BH 4 λn=>cvB f (n+1))=true:=by kernel_rfl
theorem cv5:BH 3 (λf=>cvB f 5)=true:=by kernel_rfl
theorem Tu{f n:Nat}(H:f<3)(b:1<=n/\n<=5){j:Nat}(a:j<(AG n).length):(AG n).idxOf (AH (AG n) j)=j/\(AG n).idxOf (t15 f n 1 (AH (AG n) j))<(AG n).length:=by
 have h:cvB f n=true:=by
  rcases B7 (n-1) 4 with q|q;have:=BQ (BQ cv0 f H) (n-1) q;rwa [show n-1+1=n by omega]at this
  rw[show n=5 by omega];exact BQ cv5 f H
 have:=Aj.1 h j (List.mem_range.2 a);simpa using this
theorem AdZ{n:Nat}(H:1<=n/\n<=5){i j:Nat}(hi:i<(AG n).length)(a:j<(AG n).length)(h:AH (AG n) i=AH (AG n) j):i=j:=by rw[<-(Tu (f:=0) (by omega) H hi).1,h,(Tu (f:=0) (by omega) H a).1]
theorem Qh{f n:Nat}(c:f<3)(g:1<=n/\n<=5){j:Nat}(H:j<(AG n).length):∃k:Nat,AB (Al f n) j=k/\k<(AG n).length/\AH (AG n) k=t15 f n 1 (AH (AG n) j):=by
 have h:=(Tu c g H).2;have e:AH (AG n) j=(AG n)[j]:=by simp[AH,H]
 refine⟨(AG n).idxOf (t15 f n 1 (AH (AG n) j)),?_,h,?_⟩;rw[e];simp[AB,Al,H];have:=List.getElem_idxOf h;rw[<-this];have b:∀k,(a:k<(AG n).length)->AH (AG n) (k:Int)=(AG n)[k]:=λk a=>by simp[AH,a]
 rw[this];exact(b _ h).trans this
theorem MN{f n:Nat}:(Al f n).length=(AG n).length:=by simp[Al]
def Ek(L:List Int):Nat->List Bool->Nat->Nat->List Bool×Nat
 |0,B,_,s=>(B,s)
 |f+1,B,a,s=>if CM B a=true then(B,s)else Ek L f (C2 B a true) (AB L a).toNat (s+1)
def DH(L:List Int)(i:Nat)(x:List Int×List Bool):List Int×List Bool:=
 (if 0<(Ek L L.length x.2 i 0).2 then x.1++[((Ek L L.length x.2 i 0).2:Int)]else x.1,(Ek L L.length x.2 i 0).1)
def IY(L:List Int):List Int:=(iter (DH L) L.length ([],List.replicate L.length false)).1
def HR(B:List Bool):Nat:=B.countP λb=>!b
theorem AJL{B:List Bool}:HR B<=B.length:=List.countP_le_length
theorem AE5:∀k,HR (List.replicate k false)=k
 |0=>rfl
 |k+1=>by have:=AE5 k;simp only[HR,List.replicate_succ,List.countP_cons]at this|-;simp[this]
theorem RJ:∀{B:List Bool}{a:Nat},a<B.length->CM B a=false->HR (C2 B a true)+1=HR B
 |b::B,0,_,h=>by
  have H:b=false:=by simpa[CM]using h
  subst H;simp[HR,C2]
 |b::B,a+1,l,h=>by have i:=RJ (B:=B) (a:=a) (by simpa using l) (by simpa[CM]using h);simp only[HR,C2,BM,List.set_cons_succ,List.countP_cons]at i|-;omega
 |[],_,l,_=>by simp at l
theorem Ni{L:List Int}{f a s:Nat}{B:List Bool}(h:CM B a=true):Ek L f B a s=(B,s):=by
 cases f with
 |zero=>rfl
 |succ f=>rw[Ek,if_pos h]
theorem AUS{B:List Bool}{i j:Nat}(h:i<B.length):CM (C2 B i true) j=(decide (i=j)||CM B j):=by rw[AN2 h];by_cases q:i=j<;>simp[q]
def Pm(ws S:List (List Nat))(B:List Bool):Prop:=B.length=ws.length/\S.length+HR B=ws.length/\∀j,j<ws.length->S.contains (AH ws j)=CM B j
theorem APR{n:Nat}(k:1<=n/\n<=5){S:List (List Nat)}{B:List Bool}(h:Pm (AG n) S B){a:Nat}(g:a<(AG n).length)(i:CM B a=false):Pm (AG n) (S++[AH (AG n) a]) (C2 B a true):=by obtain⟨c,l,f⟩:=h;have o:=RJ (B:=B) (a:=a) (by omega) i;refine⟨by rw[Fy];exact c,by rw[AZ,List.length_singleton];omega,λj b=>?_⟩;rw[AUS (by omega),<-f j b];by_cases q:a=j;subst q;simp;have H:AH (AG n) j≠AH (AG n) a:=λe=>q (AdZ k b g e).symm;simp[q,H]
theorem O6{L:List Int}:∀{f a s:Nat}{B:List Bool},(Ek L f B a s).1.length=B.length/\s<=(Ek L f B a s).2/\(Ek L f B a s).2<=s+f
 |0,_,_,_=>⟨rfl,Nat.le_refl _,Nat.le_refl _⟩
 |f+1,a,s,B=>by rw[Ek];split;exact⟨rfl,Nat.le_refl _,by simp only;omega⟩;have i:=O6 (L:=L) (f:=f) (a:=(AB L a).toNat) (s:=s+1) (B:=C2 B a true);rw[Fy]at i;exact⟨i.1,by omega,by omega⟩
theorem AW1[HA K]{f n:Nat}(C:f<3)(H:1<=n/\n<=5):K 569 [.s (Bg f),.n n] [LI (IY (Al f n)),.b true]:=by
 have hp:=KM (n:=n) (by omega);have hL:=MN (f:=f) (n:=n);refine qw I569 ?_;refine cW (QT C H) ?_;refine cW (OQ (by omega)) ?_
 refine BE (λi (x:List (List Nat)×(List Int×List Bool))=>x.2=iter (DH (Al f n)) i ([],List.replicate (Al f n).length false)/\Pm (AG n) x.1 x.2.2/\x.2.1.length<=i)
  (λi x=>[.s (Bg f),.u,.u,.u,LI x.2.1,LS (AG n),LS x.1,.n i,.u,.u,.u,.u,.u,.u]) (AG n).length ([],([],List.replicate (Al f n).length false)) ⟨rfl,⟨by simp[hL],by rw[AE5,hL];simp,λj U=>by simp[CM,hL,U]⟩,by simp⟩ rfl (λi x hi o=>?_) (λx o=>?_)
 obtain⟨S,out,B⟩:=x;obtain⟨P,G,M⟩:=o;simp only at P G M|-;obtain⟨b1,b2,l⟩:=G;refine wW ?_;refine cB (AI1 (by omega)) ?_;rw[l i hi]
 cases hB:CM B i;refine wW ?_
 refine Bd (λ(y:Nat×List (List Nat)×List Bool×Nat×Nat)=>Pm (AG n) y.2.1 y.2.2.1/\y.2.2.2.1<(AG n).length/\HR y.2.2.1<=y.1/\y.2.2.2.2+y.1<=132/\Ek (Al f n) y.1 y.2.2.1 y.2.2.2.1 y.2.2.2.2=Ek (Al f n) (Al f n).length B i 0)
  (λy=>[.s (Bg f),.u,.u,.u,LI out,LS (AG n),LS y.2.1,.n i,.n y.2.2.2.2,.s (AH (AG n) y.2.2.2.1),.u,.u,.u,.u]) (λy=>y.1) ((Al f n).length,S,B,i,0) ⟨⟨b1,b2,l⟩,hi,by have:=AJL (B:=B);simp only;omega,by simp only;omega,rfl⟩ rfl ?_
 rintro⟨g,I,c,a,s⟩ ⟨N,Q,q3,q4,q⟩;simp only at N Q q3 q4 q|-;obtain⟨O,T,R⟩:=N;refine wW ?_;refine cB (AI1 (by omega)) ?_;rw[R a Q]
 cases h:CM c a;have hu:=RJ (B:=c) (a:=a) (by omega) h
 cases g with
 |zero=>omega
 |succ g=>
  have V:=AE0 (K:=K) (f:=f) (k:=1) C H (OE Q) (.inr rfl)
  obtain⟨k,W,Y,Z⟩:=Qh C H Q
  refine wW ?_
  refine cW V ?_
  rw[<-Z]
  refine⟨(g,I++[AH (AG n) a],C2 c a true,k,s+1),by simp,⟨APR H ⟨O,T,R⟩ Q h,Y,by simp only;omega,by simp only;omega,?_⟩,by simp⟩
  rw[<-q,Ek,if_neg (by rw[h];simp),W];rfl
 rw[Ni h]at q;have J:0<s:=by
  have e:=congrArg Prod.snd q;simp only at e;rw[e];have F:(Al f n).length=((Al f n).length-1)+1:=by omega
  rw[F,Ek,if_neg (by rw[hB];simp)];have:=(O6 (L:=Al f n) (f:=(Al f n).length-1) (a:=(AB (Al f n) i).toNat) (s:=0+1) (B:=C2 B i true)).2.1;omega
 refine wW ?_;refine⟨(I,DH (Al f n) i (out,B)),⟨?_,?_,?_⟩,?_⟩;rw[iter,<-P];simp only[DH,<-q];exact⟨O,T,R⟩;simp only[DH,<-q,if_pos J,AZ,AO,Aa];omega;simp only[DH,<-q,if_pos J];refine wW ?_;refine⟨(S,DH (Al f n) i (out,B)),⟨?_,?_,?_⟩,?_⟩;rw[iter,<-P];simp only[DH,Ni hB];exact⟨b1,b2,l⟩;simp only[DH,Ni hB,Nat.lt_irrefl,if_false];omega;simp only[DH,Ni hB,Nat.lt_irrefl,if_false];obtain⟨S,out,B⟩:=x;obtain⟨P,G,M⟩:=o;refine wW ?_;have e:IY (Al f n)=(iter (DH (Al f n)) (AG n).length ([],List.replicate (Al f n).length false)).1:=by rw[<-hL];rfl
 simp only at P|-;rw[e,<-P]
end Go.Cat
