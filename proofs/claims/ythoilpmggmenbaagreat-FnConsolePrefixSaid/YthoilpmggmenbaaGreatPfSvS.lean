/-
 The sieve: what the reference reckons.
-/
import Derived.Test.YthoilpmggmenbaaGreatPfRdE
set_option linter.unusedSimpArgs false
set_option linter.unusedVariables false
namespace Go.Cat
variable{K:Nat->List D->List D->Prop}
def BU(f:Nat):List Nat:=match f with
 |0=>[109,97,116,99,104,105,110,103,115]
 |1=>[112,97,114,116,105,116,105,111,110,115]
 |_=>[116,114,105,97,110,103,117,108,97,116,105,111,110,115]
def Bf(f n:Nat):Nat:=match f with
 |0=>2*n
 |1=>n
 |_=>n+2
theorem f3{f:Nat}(h:f<3):f=0\/f=1\/f=2:=by omega
theorem XU{f n:Nat}(h:f<3)(H:n<=5):Bf f n<=10:=by rcases f3 h with rfl|rfl|rfl<;>simp only[Bf]<;>omega
theorem Qi[HA K]{f n:Nat}(H:f<3)(a:1<=n/\n<=5):K 567 [.s (BU f),.n n] [.n (Bf f n)]:=by have h:AR 1 5 n=true:=A7.2 (by omega);refine qw ASF ?_;refine cB Bt ?_;rcases f3 H with rfl|rfl|rfl;simp(disch:=try exact dV) only[AD,h,show(BU 0==[109,97,116,99,104,105,110,103,115])=true from rfl];rfl;simp(disch:=try exact dV) only[AD,h,show(BU 1==[109,97,116,99,104,105,110,103,115])=false from rfl,show(BU 1==[112,97,114,116,105,116,105,111,110,115])=true from rfl];rfl;simp(disch:=try exact dV) only[AD,h,show(BU 2==[109,97,116,99,104,105,110,103,115])=false from rfl,show(BU 2==[112,97,114,116,105,116,105,111,110,115])=false from rfl,show(BU 2==[116,114,105,97,110,103,117,108,97,116,105,111,110,115])=true from rfl];rfl
theorem Af4[HA K]{s:List Nat}{n:Int}(h:AR 1 5 n=false\/(s≠BU 0/\s≠BU 1/\s≠BU 2)):K 567 [.s s,.n n] [.n (-1)]:=by
 refine qw ASF ?_;refine cB Bt ?_
 cases hin:AR 1 5 n;exact wZ;rw[hin]at h;have h:=h.resolve_left (by simp);have h0:(s==[109,97,116,99,104,105,110,103,115])=false:=beq_eq_false_iff_ne.2 h.1;have H:(s==[112,97,114,116,105,116,105,111,110,115])=false:=beq_eq_false_iff_ne.2 h.2.1;have a:(s==[116,114,105,97,110,103,117,108,97,116,105,111,110,115])=false:=beq_eq_false_iff_ne.2 h.2.2;simp(disch:=try exact dV) only[AD,h0,H,a]
def t15(f n k:Nat)(w:List Nat):List Nat:=match f with
 |0=>Iz (KA (Ce w) (k%(2*n)))
 |1=>Ij (iter (λ_ p=>IY p) k (Ed w))
 |_=>(I2 ((n:Int)+2) (JQ ((n:Int)+2) ((k%(n+2):Nat):Int) (BO (C3 w)))).p
def TA(r:List Int):Bool:=decide (r.length=2)&&(AR 0 10 (AB r 0)&&AR 0 10 (AB r 1))
theorem PI{d:List (List Int)}(h:d.all TA=true):∀r∈d,FV r:=by intro r H;have:=Ao.1 h r H;simp only[TA,AV,Ac]at this;have a:=A7.1 this.2.1;have b:=A7.1 this.2.2;exact⟨this.1,by omega,by omega⟩
def T5(n:Nat)(w:List Nat):Bool:=decide ((C3 w).p=w)&&(Cp ((n:Int)+2) (BO (C3 w))&&((BO (C3 w)).all TA))
def Rg(n:Nat)(w:List Nat)(k:Nat):Bool:=Cp ((n:Int)+2) (JQ ((n:Int)+2) (k:Int) (BO (C3 w)))&&(JQ ((n:Int)+2) (k:Int) (BO (C3 w))).all TA
def OI(w:List Nat)(k:Nat):Bool:=CZ (iter (λ_ p=>IY p) k (Ed w))&&decide (0<(iter (λ_ p=>IY p) k (Ed w)).length)
noncomputable def svC(n:Nat):Bool:=(AI (n+1)).all λw=>T5 (n+1) w&&(BR (n+3) (Rg (n+1) w)&&BR (n+2) (OI w))
theorem sv0:BR 4 svC=true:=by kernel_rfl
theorem sv4:svC 4=true:=by kernel_rfl
theorem AKE{n:Nat}(b:1<=n/\n<=5){w:List Nat}(a:w∈AI n):T5 n w=true/\(∀k,k<n+2->Rg n w k=true)/\∀k,k<n+1->OI w k=true:=by
 have h:svC (n-1)=true:=by rcases BQ (n-1) 4 with q|q;exact BY sv0 _ q;rw[show n-1=4 by omega];exact sv4
 have:=Ao.1 h w (by rw[show n-1+1=n by omega];exact a);simp only[AV]at this;rw[show n-1+1=n by omega,show n-1+3=n+2 by omega,show n-1+2=n+1 by omega]at this;exact⟨this.1,λk H=>BY this.2.1 k H,λk H=>BY this.2.2 k H⟩
end Go.Cat
namespace Go.Cat
variable{K:Nat->List D->List D->Prop}
theorem AID{n:Nat}(H:1<=n/\n<=5){w:List Nat}(h:w∈AI n):AK w=true/\w.length=2*n:=apd (by omega) h
theorem AFA{w:List Nat}(hd:AK w=true)(l:w.length<=16):Ca (Ce w)=true/\(Ce w).length=w.length/\∀i:Nat,i<(Ce w).length->0<=AB (Ce w) i/\AB (Ce w) i<(Ce w).length:=by have h:=Y0 hd;rw[My hd]at h;have H:Ca (Ce w)=true:=AQA l h;refine⟨H,h.1,λi hi=>?_⟩;have:=A7.1 ((HT H).2 i hi).1;omega
theorem AHL[HA K]{f n k:Nat}(M:f<3)(B:1<=n/\n<=5){w:List Nat}(F:w∈AI n)(N:k<Bf f n\/k=1):K 584 [.s (BU f),.s w,.n k] [.s (t15 f n k w)]:=by
 obtain⟨hd,U⟩:=AID B F;obtain⟨C,c2,o⟩:=AKE B F;have l:(w.length:Int)/2=n:=by omega
 refine qb I584 ?_;simp(disch:=try exact dV) only[AD,l];rcases f3 M with rfl|rfl|rfl;obtain⟨R,V,T⟩:=AFA hd (by omega);have H:k%(2*n)<2*n:=Nat.mod_lt _ (by omega);have e:(k:Int)%(2*(n:Int))=((k%(2*n):Nat):Int):=by simp[Int.natCast_emod]
 have Q:=AV9 (K:=K) (m:=Ce w) (k:=k%(2*n)) R (by omega) (by omega) T;have G:=(YZ (K:=K) hd).2;rw[My hd]at G;simp(disch:=try exact dV) only[AD,show(BU 0==[109,97,116,99,104,105,110,103,115])=true from rfl];refine cB G ?_;simp(disch:=try exact dV) only[AD,e];refine cW Q ?_;have kq:=AQM (K:=K) (m:=KA (Ce w) (k%(2*n))) (by rw[AS6];omega);exact cZ kq;have I:=(R1 (K:=K) hd).2;rw[S7 hd]at I;simp(disch:=try exact dV) only[AD,show(BU 1==[109,97,116,99,104,105,110,103,115])=false from rfl,show(BU 1==[112,97,114,116,105,116,105,111,110,115])=true from rfl];refine cW I ?_;have O:k<n+1:=by simp only[Bf]at N;omega
 refine Pw (λ_ p=>IY p) (λ_ _=>True) (λi p=>[.u,.u,.n k,.u,.u,.u,.u,.u,LI p,.n i,.u,.u,.u,.u,.u,.u,.u,.u,.u,.u]) k (Ed w) trivial rfl (λ_ _ _ _=>trivial) (λi p hi _ a=>?_) (λp a _=>?_);have q:=o i (by omega);rw[OI,<-a,AV,Ac]at q;refine wW ?_;exact cZ (Af7 q.1 q.2);have q:=o k (by omega);rw[OI,<-a,AV,Ac]at q;have W:p.length<=8:=by have:=q.1;simp[CZ]at this;exact this.1
 refine wW ?_;refine cW (AET (by omega)) ?_;rw[t15,<-a];simp only[T5,AV,Ac]at C;obtain⟨b,a2,J⟩:=C;have j:JA w=C3 w:=by rw[<-b,Hi,b]
 have g:(C3 w).n<=8:=by have:=BT.pl (C3 w);rw[b]at this;omega
 have H:k%(n+2)<n+2:=Nat.mod_lt _ (by omega);have e:(k:Int)%((n:Int)+2)=((k%(n+2):Nat):Int):=by rw[Int.natCast_emod]<;>rfl
 have x:=AME (K:=K) hd;rw[j]at x;have c:=c2 _ H;simp only[Rg,AV]at c;have L:=PI c.2;have P:=Q1 c.1;have h:=AGG (K:=K) (n:=(n:Int)+2) (d:=JQ ((n:Int)+2) ((k%(n+2):Nat):Int) (BO (C3 w))) (by omega) (by omega) L;rw[if_pos c.1]at h;simp(disch:=try exact dV) only[AD,show(BU 2==[109,97,116,99,104,105,110,103,115])=false from rfl,show(BU 2==[112,97,114,116,105,116,105,111,110,115])=false from rfl];refine cW x ?_;refine cB (RW g) ?_;simp(disch:=try exact dV) only[AD,e];refine cW (AdK a2 (PI J) (by omega)) ?_;refine cW h ?_;exact cZ (WN (XX c.1))
def IE(f n k:Nat):Nat:=(AI n).countP λw=>decide (t15 f n k w=w)
theorem AeM{α:Type}{l:List (List Nat)}{p:List Nat->Bool}{i:Nat}(h:i<l.length):(l.take (i+1)).countP p=(l.take i).countP p+if p (AF l i)=true then 1 else 0:=by rw[CQ h,List.countP_append];simp[AF,h,List.countP_cons]
theorem OZ{l:List (List Nat)}{i:Nat}(h:i<l.length):AF l i∈l:=by simp[AF,h]
theorem L8{n:Nat}(h:n<7):(AI n).length<=132:=by have:=BY Yl n h;simp only[AV,Ac]at this;exact this.2
theorem AEA[HA K]{f n k:Nat}(H:f<3)(a:1<=n/\n<=5)(e:k<Bf f n):K 568 [.s (BU f),.n n,.n k] [.n (IE f n k)]:=by
 have o:=XU H a.2;have q:=L8 (n:=n) (by omega);refine qw I568 ?_;refine cW (Qi H a) ?_;refine cB Bt ?_;rw[show AR 0 ((Bf f n:Int)-1) k=true from A7.2 (by omega)];refine wW ?_;refine cW (Sy (by omega)) ?_;refine Ah (λi (c:Nat)=>c=((AI n).take i).countP (λw=>decide (t15 f n k w=w))) (λi c=>[.s (BU f),.u,.n k,.u,.u,LS (AI n),.n c,.n i,.u,.u,.u]) (AI n).length 0 rfl rfl (λi c hi h=>?_) (λc h=>?_);have g:=OZ hi;have j:c<=132:=by rw[h];have:=List.countP_le_length (p:=λw=>decide (t15 f n k w=w)) (l:=(AI n).take i);simp only[List.length_take]at this;omega
 have b:=AeM (p:=λw=>decide (t15 f n k w=w)) hi (α:=Nat);refine wW ?_;refine cB (AHL H a g (.inl e)) ?_;by_cases he:t15 f n k (AF (AI n) i)=AF (AI n) i;simp(disch:=try exact dV) only[AD,show(t15 f n k (AF (AI n) i)==AF (AI n) i)=true from beq_iff_eq.2 he];refine⟨c+1,?_,by simp⟩;rw[b,h];simp[he];simp(disch:=try exact dV) only[AD,show(t15 f n k (AF (AI n) i)==AF (AI n) i)=false from beq_eq_false_iff_ne.2 he];refine⟨c,?_,rfl⟩;rw[b,h];simp[he];rw[List.take_of_length_le (by omega)]at h;refine wW ?_;rw[h]<;>rfl
theorem ATN[HA K]{l:List (List Nat)}{x:List Nat}(h:l.length<=100000):K 378 [LS l,.s x] [.b (l.contains x)]:=by
 refine qw Vn ?_;refine AN (λi=>l.contains x=(l.drop i).contains x) (λi=>[LS l,.s x,.u,.n i,.u,.u]) l.length (by simp) rfl (λi hi P=>?_) (λP=>?_);have hd:l.drop i=AF l i::l.drop (i+1):=by rw[List.drop_eq_getElem_cons hi];simp[AF,hi]
 rw[hd,List.contains_cons]at P;by_cases he:AF l i=x;simp(disch:=try exact dV) only[AD,show(AF l i==x)=true from beq_iff_eq.2 he];rw[P];simp[he];simp(disch:=try exact dV) only[AD,show(AF l i==x)=false from beq_eq_false_iff_ne.2 he];rw[P];simp[Ne.symm he];rw[List.drop_length]at P;refine wW ?_;rw[P];simp
end Go.Cat
namespace Go.Cat
variable{K:Nat->List D->List D->Prop}
def Av(f n:Nat):List Int:=(AI n).map λw=>(((AI n).idxOf (t15 f n 1 w):Nat):Int)
def cvB(f n:Nat):Bool:=(List.range (AI n).length).all λj=>decide ((AI n).idxOf (AF (AI n) j)=j)&&decide ((AI n).idxOf (t15 f n 1 (AF (AI n) j))<(AI n).length)
theorem cv0:BR 3 (λf=>BR 4 λn=>cvB f (n+1))=true:=by kernel_rfl
theorem cv5:BR 3 (λf=>cvB f 5)=true:=by kernel_rfl
theorem YE{f n:Nat}(H:f<3)(b:1<=n/\n<=5){j:Nat}(a:j<(AI n).length):(AI n).idxOf (AF (AI n) j)=j/\(AI n).idxOf (t15 f n 1 (AF (AI n) j))<(AI n).length:=by
 have h:cvB f n=true:=by
  rcases BQ (n-1) 4 with q|q;have:=BY (BY cv0 f H) (n-1) q;rwa [show n-1+1=n by omega]at this
  rw[show n=5 by omega];exact BY cv5 f H
 have:=Ao.1 h j (List.mem_range.2 a);simpa using this
theorem Ag0{n:Nat}(H:1<=n/\n<=5){i j:Nat}(hi:i<(AI n).length)(a:j<(AI n).length)(h:AF (AI n) i=AF (AI n) j):i=j:=by rw[<-(YE (f:=0) (by omega) H hi).1,h,(YE (f:=0) (by omega) H a).1]
theorem S8{f n:Nat}(c:f<3)(g:1<=n/\n<=5){j:Nat}(H:j<(AI n).length):∃k:Nat,AB (Av f n) j=k/\k<(AI n).length/\AF (AI n) k=t15 f n 1 (AF (AI n) j):=by
 have h:=(YE c g H).2;have e:AF (AI n) j=(AI n)[j]:=by simp[AF,H]
 refine⟨(AI n).idxOf (t15 f n 1 (AF (AI n) j)),?_,h,?_⟩;rw[e];simp[AB,Av,H];have:=List.getElem_idxOf h;rw[<-this];have b:∀k,(a:k<(AI n).length)->AF (AI n) (k:Int)=(AI n)[k]:=λk a=>by simp[AF,a]
 rw[this];exact(b _ h).trans this
theorem Mg{f n:Nat}:(Av f n).length=(AI n).length:=by simp[Av]
def F6(L:List Int):Nat->List Bool->Nat->Nat->List Bool×Nat
 |0,B,_,s=>(B,s)
 |f+1,B,a,s=>if CU B a=true then(B,s)else F6 L f (Cf B a true) (AB L a).toNat (s+1)
def D1(L:List Int)(i:Nat)(x:List Int×List Bool):List Int×List Bool:=
 (if 0<(F6 L L.length x.2 i 0).2 then x.1++[((F6 L L.length x.2 i 0).2:Int)]else x.1,(F6 L L.length x.2 i 0).1)
def JU(L:List Int):List Int:=(iter (D1 L) L.length ([],List.replicate L.length false)).1
def Ie(B:List Bool):Nat:=B.countP λb=>!b
theorem AL7{B:List Bool}:Ie B<=B.length:=List.countP_le_length
theorem AN5:∀k,Ie (List.replicate k false)=k
 |0=>rfl
 |k+1=>by have:=AN5 k;simp only[Ie,List.replicate_succ,List.countP_cons]at this|-;simp[this]
theorem Qj:∀{B:List Bool}{a:Nat},a<B.length->CU B a=false->Ie (Cf B a true)+1=Ie B
 |b::B,0,_,h=>by
  have H:b=false:=by simpa[CU]using h
  subst H;simp[Ie,Cf]
 |b::B,a+1,l,h=>by have i:=Qj (B:=B) (a:=a) (by simpa using l) (by simpa[CU]using h);simp only[Ie,Cf,BM,List.set_cons_succ,List.countP_cons]at i|-;omega
 |[],_,l,_=>by simp at l
theorem QD{L:List Int}{f a s:Nat}{B:List Bool}(h:CU B a=true):F6 L f B a s=(B,s):=by
 cases f with
 |zero=>rfl
 |succ f=>rw[F6,if_pos h]
theorem AiI{B:List Bool}{i j:Nat}(h:i<B.length):CU (Cf B i true) j=(decide (i=j)||CU B j):=by rw[AOM h];by_cases q:i=j<;>simp[q]
def SR(ws S:List (List Nat))(B:List Bool):Prop:=B.length=ws.length/\S.length+Ie B=ws.length/\∀j,j<ws.length->S.contains (AF ws j)=CU B j
theorem AXH{n:Nat}(k:1<=n/\n<=5){S:List (List Nat)}{B:List Bool}(h:SR (AI n) S B){a:Nat}(g:a<(AI n).length)(i:CU B a=false):SR (AI n) (S++[AF (AI n) a]) (Cf B a true):=by obtain⟨c,l,f⟩:=h;have o:=Qj (B:=B) (a:=a) (by omega) i;refine⟨by rw[G4];exact c,by rw[AW,List.length_singleton];omega,λj b=>?_⟩;rw[AiI (by omega),<-f j b];by_cases q:a=j;subst q;simp;have H:AF (AI n) j≠AF (AI n) a:=λe=>q (Ag0 k b g e).symm;simp[q,H]
theorem TG{L:List Int}:∀{f a s:Nat}{B:List Bool},(F6 L f B a s).1.length=B.length/\s<=(F6 L f B a s).2/\(F6 L f B a s).2<=s+f
 |0,_,_,_=>⟨rfl,Nat.le_refl _,Nat.le_refl _⟩
 |f+1,a,s,B=>by rw[F6];split;exact⟨rfl,Nat.le_refl _,by simp only;omega⟩;have i:=TG (L:=L) (f:=f) (a:=(AB L a).toNat) (s:=s+1) (B:=Cf B a true);rw[G4]at i;exact⟨i.1,by omega,by omega⟩
theorem AfP[HA K]{f n:Nat}(C:f<3)(H:1<=n/\n<=5):K 569 [.s (BU f),.n n] [LI (JU (Av f n)),.b true]:=by
 have hp:=L8 (n:=n) (by omega);have hL:=Mg (f:=f) (n:=n);refine qw I569 ?_;refine cW (Qi C H) ?_;refine cW (Sy (by omega)) ?_
 refine Ah (λi (x:List (List Nat)×(List Int×List Bool))=>x.2=iter (D1 (Av f n)) i ([],List.replicate (Av f n).length false)/\SR (AI n) x.1 x.2.2/\x.2.1.length<=i)
  (λi x=>[.s (BU f),.u,.u,.u,LI x.2.1,LS (AI n),LS x.1,.n i,.u,.u,.u,.u,.u,.u]) (AI n).length ([],([],List.replicate (Av f n).length false)) ⟨rfl,⟨by simp[hL],by rw[AN5,hL];simp,λj U=>by simp[CU,hL,U]⟩,by simp⟩ rfl (λi x hi o=>?_) (λx o=>?_)
 obtain⟨S,out,B⟩:=x;obtain⟨P,G,M⟩:=o;simp only at P G M|-;obtain⟨b1,b2,l⟩:=G;refine wW ?_;refine cB (ATN (by omega)) ?_;rw[l i hi]
 cases hB:CU B i;refine wW ?_
 refine Bd (λ(y:Nat×List (List Nat)×List Bool×Nat×Nat)=>SR (AI n) y.2.1 y.2.2.1/\y.2.2.2.1<(AI n).length/\Ie y.2.2.1<=y.1/\y.2.2.2.2+y.1<=132/\F6 (Av f n) y.1 y.2.2.1 y.2.2.2.1 y.2.2.2.2=F6 (Av f n) (Av f n).length B i 0)
  (λy=>[.s (BU f),.u,.u,.u,LI out,LS (AI n),LS y.2.1,.n i,.n y.2.2.2.2,.s (AF (AI n) y.2.2.2.1),.u,.u,.u,.u]) (λy=>y.1) ((Av f n).length,S,B,i,0) ⟨⟨b1,b2,l⟩,hi,by have:=AL7 (B:=B);simp only;omega,by simp only;omega,rfl⟩ rfl ?_
 rintro⟨g,I,c,a,s⟩ ⟨N,Q,q3,q4,q⟩;simp only at N Q q3 q4 q|-;obtain⟨O,T,R⟩:=N;refine wW ?_;refine cB (ATN (by omega)) ?_;rw[R a Q]
 cases h:CU c a;have hu:=Qj (B:=c) (a:=a) (by omega) h
 cases g with
 |zero=>omega
 |succ g=>
  have V:=AHL (K:=K) (f:=f) (k:=1) C H (OZ Q) (.inr rfl)
  obtain⟨k,W,Y,Z⟩:=S8 C H Q
  refine wW ?_
  refine cW V ?_
  rw[<-Z]
  refine⟨(g,I++[AF (AI n) a],Cf c a true,k,s+1),by simp,⟨AXH H ⟨O,T,R⟩ Q h,Y,by simp only;omega,by simp only;omega,?_⟩,by simp⟩
  rw[<-q,F6,if_neg (by rw[h];simp),W];rfl
 rw[QD h]at q;have J:0<s:=by
  have e:=congrArg Prod.snd q;simp only at e;rw[e];have F:(Av f n).length=((Av f n).length-1)+1:=by omega
  rw[F,F6,if_neg (by rw[hB];simp)];have:=(TG (L:=Av f n) (f:=(Av f n).length-1) (a:=(AB (Av f n) i).toNat) (s:=0+1) (B:=Cf B i true)).2.1;omega
 refine wW ?_;refine⟨(I,D1 (Av f n) i (out,B)),⟨?_,?_,?_⟩,?_⟩;rw[iter,<-P];simp only[D1,<-q];exact⟨O,T,R⟩;simp only[D1,<-q,if_pos J,AW,AP,A5];omega;simp only[D1,<-q,if_pos J];refine wW ?_;refine⟨(S,D1 (Av f n) i (out,B)),⟨?_,?_,?_⟩,?_⟩;rw[iter,<-P];simp only[D1,QD hB];exact⟨b1,b2,l⟩;simp only[D1,QD hB,Nat.lt_irrefl,if_false];omega;simp only[D1,QD hB,Nat.lt_irrefl,if_false];obtain⟨S,out,B⟩:=x;obtain⟨P,G,M⟩:=o;refine wW ?_;have e:JU (Av f n)=(iter (D1 (Av f n)) (AI n).length ([],List.replicate (Av f n).length false)).1:=by rw[<-hL];rfl
 simp only at P|-;rw[e,<-P]
end Go.Cat
