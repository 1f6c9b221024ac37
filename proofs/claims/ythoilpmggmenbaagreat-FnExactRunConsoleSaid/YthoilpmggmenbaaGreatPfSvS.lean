/-
 The sieve: what the reference reckons.
-/
import Derived.Test.YthoilpmggmenbaaGreatPfRdM
set_option linter.unusedSimpArgs false
set_option linter.unusedVariables false
namespace Go.Cat
variable{K:Nat->List D->List D->Prop}
def BW(f:Nat):List Nat:=match f with
 |0=>[109,97,116,99,104,105,110,103,115]
 |1=>[112,97,114,116,105,116,105,111,110,115]
 |_=>[116,114,105,97,110,103,117,108,97,116,105,111,110,115]
def Bd(f n:Nat):Nat:=match f with
 |0=>2*n
 |1=>n
 |_=>n+2
theorem f3{f:Nat}(h:f<3):f=0\/f=1\/f=2:=by omega
theorem XW{f n:Nat}(h:f<3)(H:n<=5):Bd f n<=10:=by rcases f3 h with rfl|rfl|rfl<;>simp only[Bd]<;>omega
theorem RQ[HA K]{f n:Nat}(H:f<3)(a:1<=n/\n<=5):K 567 [.s (BW f),.n n] [.n (Bd f n)]:=by have h:AR 1 5 n=true:=A5.2 (by omega);refine qw AED ?_;refine cB Bt ?_;rcases f3 H with rfl|rfl|rfl;simp(disch:=try exact dV) only[AD,h,show(BW 0==[109,97,116,99,104,105,110,103,115])=true from rfl];rfl;simp(disch:=try exact dV) only[AD,h,show(BW 1==[109,97,116,99,104,105,110,103,115])=false from rfl,show(BW 1==[112,97,114,116,105,116,105,111,110,115])=true from rfl];rfl;simp(disch:=try exact dV) only[AD,h,show(BW 2==[109,97,116,99,104,105,110,103,115])=false from rfl,show(BW 2==[112,97,114,116,105,116,105,111,110,115])=false from rfl,show(BW 2==[116,114,105,97,110,103,117,108,97,116,105,111,110,115])=true from rfl];rfl
theorem AbW[HA K]{s:List Nat}{n:Int}(h:AR 1 5 n=false\/(s≠BW 0/\s≠BW 1/\s≠BW 2)):K 567 [.s s,.n n] [.n (-1)]:=by
 refine qw AED ?_;refine cB Bt ?_
 cases hin:AR 1 5 n;exact wZ;rw[hin]at h;have h:=h.resolve_left (by simp);have h0:(s==[109,97,116,99,104,105,110,103,115])=false:=beq_eq_false_iff_ne.2 h.1;have H:(s==[112,97,114,116,105,116,105,111,110,115])=false:=beq_eq_false_iff_ne.2 h.2.1;have a:(s==[116,114,105,97,110,103,117,108,97,116,105,111,110,115])=false:=beq_eq_false_iff_ne.2 h.2.2;simp(disch:=try exact dV) only[AD,h0,H,a]
def t15(f n k:Nat)(w:List Nat):List Nat:=match f with
 |0=>Is (Ji (Ca w) (k%(2*n)))
 |1=>Ig (iter (λ_ p=>Hy p) k (E6 w))
 |_=>(Ij ((n:Int)+2) (Jd ((n:Int)+2) ((k%(n+2):Nat):Int) (BO (C3 w)))).p
def Sw(r:List Int):Bool:=decide (r.length=2)&&(AR 0 10 (AB r 0)&&AR 0 10 (AB r 1))
theorem Nz{d:List (List Int)}(h:d.all Sw=true):∀r∈d,FE r:=by intro r H;have:=Ao.1 h r H;simp only[Sw,AV,Aa]at this;have a:=A5.1 this.2.1;have b:=A5.1 this.2.2;exact⟨this.1,by omega,by omega⟩
def R3(n:Nat)(w:List Nat):Bool:=decide ((C3 w).p=w)&&(Ck ((n:Int)+2) (BO (C3 w))&&((BO (C3 w)).all Sw))
def Tg(n:Nat)(w:List Nat)(k:Nat):Bool:=Ck ((n:Int)+2) (Jd ((n:Int)+2) (k:Int) (BO (C3 w)))&&(Jd ((n:Int)+2) (k:Int) (BO (C3 w))).all Sw
def M4(w:List Nat)(k:Nat):Bool:=CW (iter (λ_ p=>Hy p) k (E6 w))&&decide (0<(iter (λ_ p=>Hy p) k (E6 w)).length)
noncomputable def svC(n:Nat):Bool:=(AI (n+1)).all λw=>R3 (n+1) w&&(BR (n+3) (Tg (n+1) w)&&BR (n+2) (M4 w))
theorem sv0:BR 4 svC=true:=by kernel_rfl
theorem sv4:svC 4=true:=by kernel_rfl
theorem AAR{n:Nat}(b:1<=n/\n<=5){w:List Nat}(a:w∈AI n):R3 n w=true/\(∀k,k<n+2->Tg n w k=true)/\∀k,k<n+1->M4 w k=true:=by
 have h:svC (n-1)=true:=by rcases BS (n-1) 4 with q|q;exact BY sv0 _ q;rw[show n-1=4 by omega];exact sv4
 have:=Ao.1 h w (by rw[show n-1+1=n by omega];exact a);simp only[AV]at this;rw[show n-1+1=n by omega,show n-1+3=n+2 by omega,show n-1+2=n+1 by omega]at this;exact⟨this.1,λk H=>BY this.2.1 k H,λk H=>BY this.2.2 k H⟩
end Go.Cat
namespace Go.Cat
variable{K:Nat->List D->List D->Prop}
theorem AR6{n:Nat}(H:1<=n/\n<=5){w:List Nat}(h:w∈AI n):AK w=true/\w.length=2*n:=apd (by omega) h
theorem ABE{w:List Nat}(hd:AK w=true)(l:w.length<=16):C1 (Ca w)=true/\(Ca w).length=w.length/\∀i:Nat,i<(Ca w).length->0<=AB (Ca w) i/\AB (Ca w) i<(Ca w).length:=by have h:=X1 hd;rw[M7 hd]at h;have H:C1 (Ca w)=true:=AM2 l h;refine⟨H,h.1,λi hi=>?_⟩;have:=A5.1 ((HZ H).2 i hi).1;omega
theorem ALY[HA K]{f n k:Nat}(M:f<3)(B:1<=n/\n<=5){w:List Nat}(F:w∈AI n)(N:k<Bd f n\/k=1):K 584 [.s (BW f),.s w,.n k] [.s (t15 f n k w)]:=by
 obtain⟨hd,U⟩:=AR6 B F;obtain⟨C,c2,o⟩:=AAR B F;have l:(w.length:Int)/2=n:=by omega
 refine qb I584 ?_;simp(disch:=try exact dV) only[AD,l];rcases f3 M with rfl|rfl|rfl;obtain⟨R,V,T⟩:=ABE hd (by omega);have H:k%(2*n)<2*n:=Nat.mod_lt _ (by omega);have e:(k:Int)%(2*(n:Int))=((k%(2*n):Nat):Int):=by simp[Int.natCast_emod]
 have Q:=Ad5 (K:=K) (m:=Ca w) (k:=k%(2*n)) R (by omega) (by omega) T;have G:=(WC (K:=K) hd).2;rw[M7 hd]at G;simp(disch:=try exact dV) only[AD,show(BW 0==[109,97,116,99,104,105,110,103,115])=true from rfl];refine cB G ?_;simp(disch:=try exact dV) only[AD,e];refine cW Q ?_;have kq:=AKF (K:=K) (m:=Ji (Ca w) (k%(2*n))) (by rw[AAH];omega);exact cZ kq;have I:=(RT (K:=K) hd).2;rw[Q0 hd]at I;simp(disch:=try exact dV) only[AD,show(BW 1==[109,97,116,99,104,105,110,103,115])=false from rfl,show(BW 1==[112,97,114,116,105,116,105,111,110,115])=true from rfl];refine cW I ?_;have O:k<n+1:=by simp only[Bd]at N;omega
 refine P8 (λ_ p=>Hy p) (λ_ _=>True) (λi p=>[.u,.u,.n k,.u,.u,.u,.u,.u,LI p,.n i,.u,.u,.u,.u,.u,.u,.u,.u,.u,.u]) k (E6 w) trivial rfl (λ_ _ _ _=>trivial) (λi p hi _ a=>?_) (λp a _=>?_);have q:=o i (by omega);rw[M4,<-a,AV,Aa]at q;refine wW ?_;exact cZ (Aa3 q.1 q.2);have q:=o k (by omega);rw[M4,<-a,AV,Aa]at q;have W:p.length<=8:=by have:=q.1;simp[CW]at this;exact this.1
 refine wW ?_;refine cW (ASK (by omega)) ?_;rw[t15,<-a];simp only[R3,AV,Aa]at C;obtain⟨b,a2,J⟩:=C;have j:Ie w=C3 w:=by rw[<-b,IM,b]
 have g:(C3 w).n<=8:=by have:=BT.pl (C3 w);rw[b]at this;omega
 have H:k%(n+2)<n+2:=Nat.mod_lt _ (by omega);have e:(k:Int)%((n:Int)+2)=((k%(n+2):Nat):Int):=by rw[Int.natCast_emod]<;>rfl
 have x:=ARK (K:=K) hd;rw[j]at x;have c:=c2 _ H;simp only[Tg,AV]at c;have L:=Nz c.2;have P:=O4 c.1;have h:=AOP (K:=K) (n:=(n:Int)+2) (d:=Jd ((n:Int)+2) ((k%(n+2):Nat):Int) (BO (C3 w))) (by omega) (by omega) L;rw[if_pos c.1]at h;simp(disch:=try exact dV) only[AD,show(BW 2==[109,97,116,99,104,105,110,103,115])=false from rfl,show(BW 2==[112,97,114,116,105,116,105,111,110,115])=false from rfl];refine cW x ?_;refine cB (S0 g) ?_;simp(disch:=try exact dV) only[AD,e];refine cW (AWF a2 (Nz J) (by omega)) ?_;refine cW h ?_;exact cZ (Wt (Vw c.1))
def Hj(f n k:Nat):Nat:=(AI n).countP λw=>decide (t15 f n k w=w)
theorem AjK{α:Type}{l:List (List Nat)}{p:List Nat->Bool}{i:Nat}(h:i<l.length):(l.take (i+1)).countP p=(l.take i).countP p+if p (AG l i)=true then 1 else 0:=by rw[CP h,List.countP_append];simp[AG,h,List.countP_cons]
theorem O5{l:List (List Nat)}{i:Nat}(h:i<l.length):AG l i∈l:=by simp[AG,h]
theorem LY{n:Nat}(h:n<7):(AI n).length<=132:=by have:=BY YA n h;simp only[AV,Aa]at this;exact this.2
theorem AQB[HA K]{f n k:Nat}(H:f<3)(a:1<=n/\n<=5)(e:k<Bd f n):K 568 [.s (BW f),.n n,.n k] [.n (Hj f n k)]:=by
 have o:=XW H a.2;have q:=LY (n:=n) (by omega);refine qw I568 ?_;refine cW (RQ H a) ?_;refine cB Bt ?_;rw[show AR 0 ((Bd f n:Int)-1) k=true from A5.2 (by omega)];refine wW ?_;refine cW (Q7 (by omega)) ?_;refine Aj (λi (c:Nat)=>c=((AI n).take i).countP (λw=>decide (t15 f n k w=w))) (λi c=>[.s (BW f),.u,.n k,.u,.u,LS (AI n),.n c,.n i,.u,.u,.u]) (AI n).length 0 rfl rfl (λi c hi h=>?_) (λc h=>?_);have g:=O5 hi;have j:c<=132:=by rw[h];have:=List.countP_le_length (p:=λw=>decide (t15 f n k w=w)) (l:=(AI n).take i);simp only[List.length_take]at this;omega
 have b:=AjK (p:=λw=>decide (t15 f n k w=w)) hi (α:=Nat);refine wW ?_;refine cB (ALY H a g (.inl e)) ?_;by_cases he:t15 f n k (AG (AI n) i)=AG (AI n) i;simp(disch:=try exact dV) only[AD,show(t15 f n k (AG (AI n) i)==AG (AI n) i)=true from beq_iff_eq.2 he];refine⟨c+1,?_,by simp⟩;rw[b,h];simp[he];simp(disch:=try exact dV) only[AD,show(t15 f n k (AG (AI n) i)==AG (AI n) i)=false from beq_eq_false_iff_ne.2 he];refine⟨c,?_,rfl⟩;rw[b,h];simp[he];rw[List.take_of_length_le (by omega)]at h;refine wW ?_;rw[h]<;>rfl
theorem AGW[HA K]{l:List (List Nat)}{x:List Nat}(h:l.length<=100000):K 378 [LS l,.s x] [.b (l.contains x)]:=by
 refine qw Vl ?_;refine AN (λi=>l.contains x=(l.drop i).contains x) (λi=>[LS l,.s x,.u,.n i,.u,.u]) l.length (by simp) rfl (λi hi P=>?_) (λP=>?_);have hd:l.drop i=AG l i::l.drop (i+1):=by rw[List.drop_eq_getElem_cons hi];simp[AG,hi]
 rw[hd,List.contains_cons]at P;by_cases he:AG l i=x;simp(disch:=try exact dV) only[AD,show(AG l i==x)=true from beq_iff_eq.2 he];rw[P];simp[he];simp(disch:=try exact dV) only[AD,show(AG l i==x)=false from beq_eq_false_iff_ne.2 he];rw[P];simp[Ne.symm he];rw[List.drop_length]at P;refine wW ?_;rw[P];simp
end Go.Cat
namespace Go.Cat
variable{K:Nat->List D->List D->Prop}
def Av(f n:Nat):List Int:=(AI n).map λw=>(((AI n).idxOf (t15 f n 1 w):Nat):Int)
def cvB(f n:Nat):Bool:=(List.range (AI n).length).all λj=>decide ((AI n).idxOf (AG (AI n) j)=j)&&decide ((AI n).idxOf (t15 f n 1 (AG (AI n) j))<(AI n).length)
theorem cv0:BR 3 (λf=>BR 4 λn=>cvB f (n+1))=true:=by kernel_rfl
theorem cv5:BR 3 (λf=>cvB f 5)=true:=by kernel_rfl
theorem VF{f n:Nat}(H:f<3)(b:1<=n/\n<=5){j:Nat}(a:j<(AI n).length):(AI n).idxOf (AG (AI n) j)=j/\(AI n).idxOf (t15 f n 1 (AG (AI n) j))<(AI n).length:=by
 have h:cvB f n=true:=by
  rcases BS (n-1) 4 with q|q;have:=BY (BY cv0 f H) (n-1) q;rwa [show n-1+1=n by omega]at this
  rw[show n=5 by omega];exact BY cv5 f H
 have:=Ao.1 h j (List.mem_range.2 a);simpa using this
theorem AV5{n:Nat}(H:1<=n/\n<=5){i j:Nat}(hi:i<(AI n).length)(a:j<(AI n).length)(h:AG (AI n) i=AG (AI n) j):i=j:=by rw[<-(VF (f:=0) (by omega) H hi).1,h,(VF (f:=0) (by omega) H a).1]
theorem R5{f n:Nat}(c:f<3)(g:1<=n/\n<=5){j:Nat}(H:j<(AI n).length):∃k:Nat,AB (Av f n) j=k/\k<(AI n).length/\AG (AI n) k=t15 f n 1 (AG (AI n) j):=by
 have h:=(VF c g H).2;have e:AG (AI n) j=(AI n)[j]:=by simp[AG,H]
 refine⟨(AI n).idxOf (t15 f n 1 (AG (AI n) j)),?_,h,?_⟩;rw[e];simp[AB,Av,H];have:=List.getElem_idxOf h;rw[<-this];have b:∀k,(a:k<(AI n).length)->AG (AI n) (k:Int)=(AI n)[k]:=λk a=>by simp[AG,a]
 rw[this];exact(b _ h).trans this
theorem No{f n:Nat}:(Av f n).length=(AI n).length:=by simp[Av]
def FQ(L:List Int):Nat->List Bool->Nat->Nat->List Bool×Nat
 |0,B,_,s=>(B,s)
 |f+1,B,a,s=>if CQ B a=true then(B,s)else FQ L f (Cb B a true) (AB L a).toNat (s+1)
def DV(L:List Int)(i:Nat)(x:List Int×List Bool):List Int×List Bool:=
 (if 0<(FQ L L.length x.2 i 0).2 then x.1++[((FQ L L.length x.2 i 0).2:Int)]else x.1,(FQ L L.length x.2 i 0).1)
def JL(L:List Int):List Int:=(iter (DV L) L.length ([],List.replicate L.length false)).1
def I4(B:List Bool):Nat:=B.countP λb=>!b
theorem ADJ{B:List Bool}:I4 B<=B.length:=List.countP_le_length
theorem AR3:∀k,I4 (List.replicate k false)=k
 |0=>rfl
 |k+1=>by have:=AR3 k;simp only[I4,List.replicate_succ,List.countP_cons]at this|-;simp[this]
theorem QP:∀{B:List Bool}{a:Nat},a<B.length->CQ B a=false->I4 (Cb B a true)+1=I4 B
 |b::B,0,_,h=>by
  have H:b=false:=by simpa[CQ]using h
  subst H;simp[I4,Cb]
 |b::B,a+1,l,h=>by have i:=QP (B:=B) (a:=a) (by simpa using l) (by simpa[CQ]using h);simp only[I4,Cb,BM,List.set_cons_succ,List.countP_cons]at i|-;omega
 |[],_,l,_=>by simp at l
theorem PX{L:List Int}{f a s:Nat}{B:List Bool}(h:CQ B a=true):FQ L f B a s=(B,s):=by
 cases f with
 |zero=>rfl
 |succ f=>rw[FQ,if_pos h]
theorem AWO{B:List Bool}{i j:Nat}(h:i<B.length):CQ (Cb B i true) j=(decide (i=j)||CQ B j):=by rw[AID h];by_cases q:i=j<;>simp[q]
def Rm(ws S:List (List Nat))(B:List Bool):Prop:=B.length=ws.length/\S.length+I4 B=ws.length/\∀j,j<ws.length->S.contains (AG ws j)=CQ B j
theorem AbP{n:Nat}(k:1<=n/\n<=5){S:List (List Nat)}{B:List Bool}(h:Rm (AI n) S B){a:Nat}(g:a<(AI n).length)(i:CQ B a=false):Rm (AI n) (S++[AG (AI n) a]) (Cb B a true):=by obtain⟨c,l,f⟩:=h;have o:=QP (B:=B) (a:=a) (by omega) i;refine⟨by rw[G1];exact c,by rw[A4,List.length_singleton];omega,λj b=>?_⟩;rw[AWO (by omega),<-f j b];by_cases q:a=j;subst q;simp;have H:AG (AI n) j≠AG (AI n) a:=λe=>q (AV5 k b g e).symm;simp[q,H]
theorem Rl{L:List Int}:∀{f a s:Nat}{B:List Bool},(FQ L f B a s).1.length=B.length/\s<=(FQ L f B a s).2/\(FQ L f B a s).2<=s+f
 |0,_,_,_=>⟨rfl,Nat.le_refl _,Nat.le_refl _⟩
 |f+1,a,s,B=>by rw[FQ];split;exact⟨rfl,Nat.le_refl _,by simp only;omega⟩;have i:=Rl (L:=L) (f:=f) (a:=(AB L a).toNat) (s:=s+1) (B:=Cb B a true);rw[G1]at i;exact⟨i.1,by omega,by omega⟩
theorem AUG[HA K]{f n:Nat}(C:f<3)(H:1<=n/\n<=5):K 569 [.s (BW f),.n n] [LI (JL (Av f n)),.b true]:=by
 have hp:=LY (n:=n) (by omega);have hL:=No (f:=f) (n:=n);refine qw I569 ?_;refine cW (RQ C H) ?_;refine cW (Q7 (by omega)) ?_
 refine Aj (λi (x:List (List Nat)×(List Int×List Bool))=>x.2=iter (DV (Av f n)) i ([],List.replicate (Av f n).length false)/\Rm (AI n) x.1 x.2.2/\x.2.1.length<=i)
  (λi x=>[.s (BW f),.u,.u,.u,LI x.2.1,LS (AI n),LS x.1,.n i,.u,.u,.u,.u,.u,.u]) (AI n).length ([],([],List.replicate (Av f n).length false)) ⟨rfl,⟨by simp[hL],by rw[AR3,hL];simp,λj U=>by simp[CQ,hL,U]⟩,by simp⟩ rfl (λi x hi o=>?_) (λx o=>?_)
 obtain⟨S,out,B⟩:=x;obtain⟨P,G,M⟩:=o;simp only at P G M|-;obtain⟨b1,b2,l⟩:=G;refine wW ?_;refine cB (AGW (by omega)) ?_;rw[l i hi]
 cases hB:CQ B i;refine wW ?_
 refine Bj (λ(y:Nat×List (List Nat)×List Bool×Nat×Nat)=>Rm (AI n) y.2.1 y.2.2.1/\y.2.2.2.1<(AI n).length/\I4 y.2.2.1<=y.1/\y.2.2.2.2+y.1<=132/\FQ (Av f n) y.1 y.2.2.1 y.2.2.2.1 y.2.2.2.2=FQ (Av f n) (Av f n).length B i 0)
  (λy=>[.s (BW f),.u,.u,.u,LI out,LS (AI n),LS y.2.1,.n i,.n y.2.2.2.2,.s (AG (AI n) y.2.2.2.1),.u,.u,.u,.u]) (λy=>y.1) ((Av f n).length,S,B,i,0) ⟨⟨b1,b2,l⟩,hi,by have:=ADJ (B:=B);simp only;omega,by simp only;omega,rfl⟩ rfl ?_
 rintro⟨g,I,c,a,s⟩ ⟨N,Q,q3,q4,q⟩;simp only at N Q q3 q4 q|-;obtain⟨O,T,R⟩:=N;refine wW ?_;refine cB (AGW (by omega)) ?_;rw[R a Q]
 cases h:CQ c a;have hu:=QP (B:=c) (a:=a) (by omega) h
 cases g with
 |zero=>omega
 |succ g=>
  have V:=ALY (K:=K) (f:=f) (k:=1) C H (O5 Q) (.inr rfl)
  obtain⟨k,W,Y,Z⟩:=R5 C H Q
  refine wW ?_
  refine cW V ?_
  rw[<-Z]
  refine⟨(g,I++[AG (AI n) a],Cb c a true,k,s+1),by simp,⟨AbP H ⟨O,T,R⟩ Q h,Y,by simp only;omega,by simp only;omega,?_⟩,by simp⟩
  rw[<-q,FQ,if_neg (by rw[h];simp),W];rfl
 rw[PX h]at q;have J:0<s:=by
  have e:=congrArg Prod.snd q;simp only at e;rw[e];have F:(Av f n).length=((Av f n).length-1)+1:=by omega
  rw[F,FQ,if_neg (by rw[hB];simp)];have:=(Rl (L:=Av f n) (f:=(Av f n).length-1) (a:=(AB (Av f n) i).toNat) (s:=0+1) (B:=Cb B i true)).2.1;omega
 refine wW ?_;refine⟨(I,DV (Av f n) i (out,B)),⟨?_,?_,?_⟩,?_⟩;rw[iter,<-P];simp only[DV,<-q];exact⟨O,T,R⟩;simp only[DV,<-q,if_pos J,A4,AO,A6];omega;simp only[DV,<-q,if_pos J];refine wW ?_;refine⟨(S,DV (Av f n) i (out,B)),⟨?_,?_,?_⟩,?_⟩;rw[iter,<-P];simp only[DV,PX hB];exact⟨b1,b2,l⟩;simp only[DV,PX hB,Nat.lt_irrefl,if_false];omega;simp only[DV,PX hB,Nat.lt_irrefl,if_false];obtain⟨S,out,B⟩:=x;obtain⟨P,G,M⟩:=o;refine wW ?_;have e:JL (Av f n)=(iter (DV (Av f n)) (AI n).length ([],List.replicate (Av f n).length false)).1:=by rw[<-hL];rfl
 simp only at P|-;rw[e,<-P]
end Go.Cat
