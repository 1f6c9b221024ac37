/-
 The sieve: the program's objects, turned.
-/
import Derived.Test.YthoilpmggmenbaaGreatPfSvS
set_option linter.unusedSimpArgs false
set_option linter.unusedVariables false
namespace Go.Cat
set_option maxRecDepth 100000
variable{K:Nat->List D->List D->Prop}
theorem St[HA K]{f n:Nat}(H:f<3)(a:1<=n/\n<=5):K 571 [.s (BW f),.n n] [.n (Bd f n)]:=by have h:AR 1 5 n=true:=A5.2 (by omega);refine qw AKU ?_;refine cB Bq ?_;rcases f3 H with rfl|rfl|rfl;simp(disch:=try exact dV) only[AD,h,show(BW 0==[109,97,116,99,104,105,110,103,115])=true from rfl];rfl;simp(disch:=try exact dV) only[AD,h,show(BW 1==[109,97,116,99,104,105,110,103,115])=false from rfl,show(BW 1==[112,97,114,116,105,116,105,111,110,115])=true from rfl];rfl;simp(disch:=try exact dV) only[AD,h,show(BW 2==[109,97,116,99,104,105,110,103,115])=false from rfl,show(BW 2==[112,97,114,116,105,116,105,111,110,115])=false from rfl,show(BW 2==[116,114,105,97,110,103,117,108,97,116,105,111,110,115])=true from rfl];rfl
theorem AfB[HA K]{s:List Nat}{n:Int}(h:AR 1 5 n=false\/(s≠BW 0/\s≠BW 1/\s≠BW 2)):K 571 [.s s,.n n] [.n (-1)]:=by
 refine qw AKU ?_;refine cB Bq ?_
 cases hin:AR 1 5 n;exact wZ;rw[hin]at h;have h:=h.resolve_left (by simp);have h0:(s==[109,97,116,99,104,105,110,103,115])=false:=beq_eq_false_iff_ne.2 h.1;have H:(s==[112,97,114,116,105,116,105,111,110,115])=false:=beq_eq_false_iff_ne.2 h.2.1;have a:(s==[116,114,105,97,110,103,117,108,97,116,105,111,110,115])=false:=beq_eq_false_iff_ne.2 h.2.2;simp(disch:=try exact dV) only[AD,h0,H,a]
theorem AcQ[HA K]{w:List Nat}(hd:AK w=true):K 597 [.s w] [LI (Ca w),.b true]:=by have h:w.length<=16:=(Af hd).l;refine qw I597 ?_;refine cB (Bv (by omega)) ?_;rw[hd];refine wW ?_;have k:=(WC (K:=K) hd).1;rw[M7 hd]at k;exact cZ k
noncomputable def G4(f:Nat)(w:List Nat):List Nat:=match f with
 |0=>Fg (Ca w)
 |1=>JI (E6 w)
 |_=>Cc (BO (C3 w))
noncomputable def LN(f n:Nat)(w:List Nat):List Nat:=match f with
 |0=>Fg (Ji (Ca w) 1)
 |1=>JI (Hy (E6 w))
 |_=>Cc (Jd ((n:Int)+2) 1 (BO (C3 w)))
def PA(m:List Int):Nat->List (List Int)
 |0=>[]
 |i+1=>if(i:Int)<AB m i then PA m i++[[(i:Int),AB m i]]else PA m i
theorem Yx{m:List Int}(h:∀j:Nat,j<m.length->0<=AB m j/\AB m j<=9):∀i,i<=m.length->i<=10->BV m i=(PA m i).map λr=>[48+(AB r 0).toNat,45,48+(AB r 1).toNat]
 |0,_,_=>rfl
 |i+1,hi,a=>by have I:=Yx h i (by omega) (by omega);have H:=h i (by omega);simp only[BV,PA];split;rw[I,List.map_append,KY (x:=(i:Int)) (by omega) (by omega),KY H.1 H.2];simp[AB];exact I
def QY(r:List Int):Nat->List Nat
 |0=>[]
 |i+1=>QY r i++[48+(AB r i+1).toNat]
theorem AK8{r:List Int}(h:∀j:Nat,j<r.length->0<=AB r j/\AB r j<=8):∀i,i<=r.length->DS r i=QY r i
 |0,_=>rfl
 |i+1,hi=>by have H:=h i (by omega);simp only[DS,QY];rw[AK8 h i (by omega),KY (x:=AB r i+1) (by omega) (by omega)]
def Mp(f:Nat)(w:List Nat):List Nat:=match f with
 |0=>sep 32 ((PA (Ca w) (Ca w).length).map λr=>[48+(AB r 0).toNat,45,48+(AB r 1).toNat])
 |1=>sep 124 ((CJ (E6 w)).map λr=>QY r r.length)
 |_=>if(BO (C3 w)).length=0 then [110,111,110,101]else sep 32 ((BO (C3 w)).map λr=>[48+(AB r 0).toNat,48+(AB r 1).toNat])
def smB(k:Int)(l:List Int):Bool:=l.all λx=>decide (0<=x)&&decide (x<=k)
theorem AJY{k:Int}{l:List Int}(h:smB k l=true){j:Nat}(H:j<l.length):0<=AB l j/\AB l j<=k:=by
 have:=Ao.1 h l[j] (List.getElem_mem H);simp only[AV,Aa]at this;have e:AB l (j:Nat)=l[j]:=by simp[AB,H]
 rw[e];exact this
def QU(w:List Nat):Bool:=(C1 (Ca w)&&(decide (0<(Ca w).length)&&(decide ((Ca w).length<=10)&&smB 9 (Ca w))))&&((CJ (E6 w)).all (smB 8)&&((BO (C3 w)).all Ee&&decide ((BO (C3 w)).length<=7)))
theorem obC0:BR 4 (λn=>(AI (n+1)).all QU)=true:=by kernel_rfl
theorem obC5:(AI 5).all QU=true:=by kernel_rfl
theorem RW{P:Nat->Bool}(h:BR 4 (λn=>P (n+1))=true)(H:P 5=true){n:Nat}(a:1<=n/\n<=5):P n=true:=by
 rcases BS (n-1) 4 with q|q;have:=BY h (n-1) q;rwa [show n-1+1=n by omega]at this
 rwa [show n=5 by omega]
theorem AFP{f n:Nat}(l:f<3)(o:1<=n/\n<=5){w:List Nat}(q:w∈AI n):G4 f w=Mp f w:=by have h:=Ao.1 (RW (P:=λn=>(AI n).all QU) obC0 obC5 o) w q;simp only[QU,AV,Aa]at h;obtain⟨⟨e,s,g,i⟩,k,c,x⟩:=h;rcases f3 l with rfl|rfl|rfl;simp only[G4,Mp,Fg];rw[if_pos e,if_neg (by omega),Lg,Yx (λj a=>AJY i a) _ (Nat.le_refl _) g];simp only[G4,Mp,JI];rw[Lg,EY];congr 1;refine List.map_congr_left λr b=>?_;exact AK8 (λj a=>AJY (Ao.1 k r b) a) _ (Nat.le_refl _);simp only[G4,Mp,Cc];by_cases H:(BO (C3 w)).length=0;rw[if_pos H,if_pos H];rw[if_neg H,if_neg H,if_neg (by omega),if_pos c,Lg,Ct];congr 1;refine List.map_congr_left λr b=>?_;have:=Ao.1 c r b;simp only[Ee,AV,Aa,A5]at this;rw[KY this.2.1.1 this.2.1.2,KY this.2.2.1 this.2.2.2]<;>rfl
def Su(f n:Nat):Bool:=(List.range (AI n).length).all λj=>decide (((AI n).map (Mp f)).idxOf (Mp f (AG (AI n) j))=j)
theorem txN0:BR 3 (λf=>BR 4 λn=>Su f (n+1))=true:=by kernel_rfl
theorem txN5:BR 3 (λf=>Su f 5)=true:=by kernel_rfl
def TZ(n:Nat):Bool:=(List.range (AI n).length).all λj=>decide (Ji (Ca (AG (AI n) j)) 1=Ca (t15 0 n 1 (AG (AI n) j)))&&(decide (Hy (E6 (AG (AI n) j))=E6 (t15 1 n 1 (AG (AI n) j)))&&decide (Jd ((n:Int)+2) 1 (BO (C3 (AG (AI n) j)))=BO (C3 (t15 2 n 1 (AG (AI n) j)))))
theorem tuB0:BR 4 (λn=>TZ (n+1))=true:=by kernel_rfl
theorem tuB5:TZ 5=true:=by kernel_rfl
theorem AaM{f n:Nat}(H:f<3)(a:1<=n/\n<=5){i j:Nat}(hi:i<(AI n).length)(c:j<(AI n).length)(h:G4 f (AG (AI n) i)=G4 f (AG (AI n) j)):i=j:=by have e:Su f n=true:=RW (P:=λn=>Su f n) (BY txN0 f H) (BY txN5 f H) a;have x:=Ao.1 e;have b:=x i (List.mem_range.2 hi);have g:=x j (List.mem_range.2 c);simp only[Aa]at b g;rw[AFP H a (O5 hi),AFP H a (O5 c)]at h;rw[h]at b;omega
theorem AjN{f n:Nat}(H:f<3)(b:1<=n/\n<=5){j:Nat}(a:j<(AI n).length):LN f n (AG (AI n) j)=G4 f (t15 f n 1 (AG (AI n) j)):=by have h:=Ao.1 (RW (P:=TZ) tuB0 tuB5 b) j (List.mem_range.2 a);simp only[TZ,AV,Aa]at h;rcases f3 H with rfl|rfl|rfl;simp only[LN,G4];rw[h.1];simp only[LN,G4];rw[h.2.1];simp only[LN,G4];rw[h.2.2]
theorem AA2{α:Type}{k a:List Nat}{v:α}:∀{m:List (List Nat×α)},Co a (GV k v m)=if a=k then some v else Co a m
 |[]=>by simp[GV,Co]
 |(j,x)::m=>by simp only[GV];by_cases h:k=j;rw[if_pos h];subst h;simp only[Co];by_cases q:a=k;rw[if_pos q,if_pos q];rw[if_neg q,if_neg q,if_neg q];rw[if_neg h];simp only[Co];rw[AA2];by_cases q:a=j;subst q;rw[if_pos rfl,if_neg (λe=>h e.symm),if_pos rfl];rw[if_neg q,if_neg q]
theorem ABT{w:List Nat}{k:Nat}(h:M4 w k=true):CW (iter (λ_ p=>Hy p) k (E6 w))=true/\0<(iter (λ_ p=>Hy p) k (E6 w)).length/\(iter (λ_ p=>Hy p) k (E6 w)).length<=8:=by rw[M4,AV,Aa]at h;refine⟨h.1,h.2,?_⟩;have:=h.1;simp[CW]at this;exact this.1
theorem ANB[HA K]{f n:Nat}(g:f<3)(H:1<=n/\n<=5):K 587 [.s (BW f),.n n] [LI (Av f n)]:=by
 have hp:=LY (n:=n) (by omega);refine qw I587 ?_;refine cW (pl_i (by omega)) ?_;refine Aj (λi (x:List (List Nat×Int)×List (List Nat))=>(∀j:Nat,j<i->Co (G4 f (AG (AI n) j)) x.1=some (j:Int))/\x.2=((AI n).take i).map (LN f n)) (λi x=>[.s (BW f),.n n,.u,MI x.1,LS x.2,.u,.u,.u,.u,.u,.u,.u,.u,.u,.u,.u,LS (AI n),.n (AI n).length,.n i,.u,.u,.u,.u,.u,.u,.u,.u]) (AI n).length ([],[]) ⟨λj hj=>by omega,by simp⟩ rfl (λi x hi B=>?_) (λx B=>?_);obtain⟨m,T⟩:=x;obtain⟨c,P⟩:=B;simp only at c P|-;have Z:=O5 hi;obtain⟨hd,hl⟩:=AR6 H Z;obtain⟨R,c2,U⟩:=AAR H Z;have FY:T.length<=132:=by rw[P,List.length_map,List.length_take];omega
 have o:(AI n).take (i+1)=(AI n).take i++[AG (AI n) i]:=by rw[CP hi];simp[AG,hi]
 have F:∀j:Nat,j<i+1->Co (G4 f (AG (AI n) j)) (GV (G4 f (AG (AI n) i)) (i:Int) m)=some (j:Int):=λj hj=>by rw[AA2];by_cases q:j=i;subst q;rw[if_pos rfl];rw[if_neg (λe=>q (AaM g H (by omega) hi e))];exact c j (by omega)
 have a:T++[LN f n (AG (AI n) i)]=((AI n).take (i+1)).map (LN f n):=by rw[o,List.map_append,<-P]<;>rfl
 generalize O:AG (AI n) i=w at*;simp(disch:=try exact dV) only[AD,O];rcases f3 g with rfl|rfl|rfl;obtain⟨m1,m2,m3⟩:=ABE hd (by omega);have b:=AgQ (K:=K) (m:=Ca w) (k:=1) m1 (by omega) (by omega) m3;rw[show((1:Nat):Int)=1 from rfl]at b;have hl1:=AAH (m:=Ca w) (k:=1);simp(disch:=try exact dV) only[AD,show(BW 0==[109,97,116,99,104,105,110,103,115])=true from rfl];refine cW (AcQ hd) ?_;refine cW b ?_;refine cW (Yl (by omega)) ?_;refine cW (Yl (by omega)) ?_;exact⟨(_,_),⟨F,a⟩,rfl⟩;have kp:=(RT (K:=K) hd).1;rw[Q0 hd]at kp;obtain⟨q1,q2,q3⟩:=ABT (U 0 (by omega));obtain⟨r1,r2,r3⟩:=ABT (U 1 (by omega));simp only[iter]at q1 q2 q3 r1 r2 r3;simp(disch:=try exact dV) only[AD,show(BW 1==[109,97,116,99,104,105,110,103,115])=false from rfl,show(BW 1==[112,97,114,116,105,116,105,111,110,115])=true from rfl];refine cW kp ?_;refine cW (AcN q1 q2) ?_;refine cW (Ww (by omega)) ?_;refine cW (Ww (by omega)) ?_;exact⟨(_,_),⟨F,a⟩,rfl⟩;simp only[R3,AV,Aa]at R;obtain⟨l,a2,Q⟩:=R;have I:Ie w=C3 w:=by rw[<-l,IM,l]
 have G:(C3 w).n<=8:=by have:=BT.pl (C3 w);rw[l]at this;omega
 have W:=AG6 (K:=K) hd;rw[I]at W;have C:=c2 1 (by omega);simp only[Tg,AV]at C;have V:=Nz C.2;have N:=O4 C.1;have Y:=O4 a2;have b:=AUQ (K:=K) (n:=(n:Int)+2) (k:=((1:Nat):Int)) a2 (Nz Q) (by omega);rw[show((1:Nat):Int)=1 from rfl]at b N V;have L:∀r∈BO (C3 w),r.length<=9223372036854775807:=λr J=>by have:=(Nz Q r J).1;omega
 have M:∀r∈Jd ((n:Int)+2) 1 (BO (C3 w)),r.length<=9223372036854775807:=λr J=>by have:=(V r J).1;omega
 simp(disch:=try exact dV) only[AD,show(BW 2==[109,97,116,99,104,105,110,103,115])=false from rfl,show(BW 2==[112,97,114,116,105,116,105,111,110,115])=false from rfl];refine cW W ?_;refine cW (SH G) ?_;refine cW b ?_;refine cW (SS (by omega) L) ?_;refine cW (SS (by omega) M) ?_;exact⟨(_,_),⟨F,a⟩,rfl⟩;obtain⟨m,T⟩:=x;obtain⟨c,P⟩:=B;simp only at c P|-;rw[List.take_length]at P;have FY:T.length=(AI n).length:=by rw[P,List.length_map]
 refine wW ?_;refine AN (λ_=>True) (λi=>[.u,.u,.u,MI m,.u,.u,.u,.u,.u,.u,.u,.u,.u,.u,LI ((Av f n).take i),.u,.u,.u,.u,.u,.u,.u,.u,LS T,.n T.length,.n i,.u]) T.length trivial rfl (λi hi _=>?_) (λ_=>?_);have h:i<(AI n).length:=by omega
 obtain⟨k,k1,k2,k3⟩:=R5 g H h;have hL:=No (f:=f) (n:=n);have ea:AG T i=G4 f (AG (AI n) k):=by rw[k3,<-AjN g H h,P];simp[AG,h]
 have hg:=c k k2;have o:(Av f n).take (i+1)=(Av f n).take i++[(k:Int)]:=by rw[CP (by omega)];congr 2;rw[<-k1];simp[AB,show i<(Av f n).length by omega]
 have el:((Av f n).take i).length<=132:=by rw[List.length_take];omega
 simp(disch:=try exact dV) only[AD,ea,hg,Option.getD_some];rw[o];rw[List.take_of_length_le (by rw[No];omega)];exact wZ
def Gg(L:List Int):Nat->Int->Int
 |0,a=>a
 |k+1,a=>AB L (Gg L k a)
def fxI(L:List Int)(k:Nat):Nat:=(List.range L.length).countP λi:Nat=>decide (Gg L k (i:Int)=i)
def Rj(f n:Nat):Bool:=(List.range (Bd f n)).all λk=>decide (fxI (Av f n) k=Hj f n k)
theorem fxB0:BR 3 (λf=>BR 4 λn=>Rj f (n+1))=true:=by kernel_rfl
theorem fxB5:BR 3 (λf=>Rj f 5)=true:=by kernel_rfl
theorem AeP{f n k:Nat}(h:f<3)(a:1<=n/\n<=5)(H:k<Bd f n):fxI (Av f n) k=Hj f n k:=by have e:Rj f n=true:=RW (P:=λn=>Rj f n) (BY fxB0 f h) (BY fxB5 f h) a;have:=Ao.1 e k (List.mem_range.2 H);simpa using this
theorem AMS{f n:Nat}(h:f<3)(H:1<=n/\n<=5){i:Nat}(hi:i<(AI n).length):∀k,∃j:Nat,Gg (Av f n) k (i:Nat)=j/\j<(AI n).length
 |0=>⟨i,rfl,hi⟩
 |k+1=>by obtain⟨j,a,b⟩:=AMS h H hi k;obtain⟨c,e,g,_⟩:=R5 h H b;exact⟨c,by simp only[Gg];rw[a,e],g⟩
theorem AOX[HA K]{f n k:Nat}(H:f<3)(b:1<=n/\n<=5)(x:k<Bd f n):K 572 [.s (BW f),.n n,.n k] [.n (Hj f n k)]:=by
 have F:=XW H b.2;have G:=LY (n:=n) (by omega);have hL:=No (f:=f) (n:=n);rw[<-AeP H b x];refine qw I572 ?_;refine cW (St H b) ?_;refine cB Bq ?_;rw[show AR 0 ((Bd f n:Int)-1) k=true from A5.2 (by omega)];refine wW ?_;refine cW (ANB H b) ?_;refine Aj (λi (c:Nat)=>c=(List.range i).countP λi:Nat=>decide (Gg (Av f n) k (i:Int)=i)) (λi c=>[.u,.u,.n k,.u,.u,LI (Av f n),.n c,.u,.u,.u,.n (Av f n).length,.n i,.u,.u,.u,.u,.u]) (Av f n).length 0 rfl rfl (λi c hi h=>?_) (λc h=>?_);have B:c<=i:=by rw[h];have:=List.countP_le_length (p:=λi:Nat=>decide (Gg (Av f n) k (i:Int)=i)) (l:=List.range i);simpa using this
 have e:(List.range (i+1)).countP (λi:Nat=>decide (Gg (Av f n) k (i:Int)=i))=(List.range i).countP (λi:Nat=>decide (Gg (Av f n) k (i:Int)=i))+if Gg (Av f n) k (i:Int)=i then 1 else 0:=by rw[List.range_succ,List.countP_append];simp[List.countP_cons]
 refine wW ?_;refine AN (λ_=>True) (λj=>[.u,.u,.n k,.u,.u,LI (Av f n),.n c,.n i,.n (Gg (Av f n) j i),.u,.n (Av f n).length,.n i,.u,.n k,.n j,.u,.u]) k trivial rfl (λj C _=>?_) (λ_=>?_);obtain⟨a,g,a2⟩:=AMS H b (i:=i) (by omega) j;have o:Gg (Av f n) (j+1) (i:Int)=AB (Av f n) (a:Nat):=by simp only[Gg];rw[g]
 rw[g,o];exact wZ;by_cases q:Gg (Av f n) k (i:Int)=i;rw[if_pos q]at e;refine wW ?_;exact⟨c+1,by rw[e,h],by simp⟩;rw[if_neg q]at e;refine wW ?_;exact⟨c,by rw[e,h,Nat.add_zero],rfl⟩;refine wW ?_;rw[h]<;>rfl
theorem ATF[HA K]{f n:Nat}(c:f<3)(l:1<=n/\n<=5):K 573 [.s (BW f),.n n] [LI (JL (Av f n)),.b true]:=by
 have T:=LY (n:=n) (by omega);have hL:=No (f:=f) (n:=n);have R:=XW c l.2;refine qw I573 ?_;refine cW (St c l) ?_;refine cW (ANB c l) ?_;refine Aj (λi (x:List Int×List Bool)=>x=iter (DV (Av f n)) i ([],List.replicate (Av f n).length false)/\x.2.length=(Av f n).length/\x.1.length<=i) (λi x=>[.u,.u,.u,.u,LI x.1,LI (Av f n),LT x.2,.u,.u,.u,.u,.n (Av f n).length,.n i,.u,.u,.u]) (Av f n).length ([],List.replicate (Av f n).length false) ⟨rfl,by simp,by simp⟩ (by simp[Ts];rfl) (λi x hi G=>?_) (λx G=>?_);obtain⟨out,B⟩:=x;obtain⟨P,C,J⟩:=G;simp only at P C J|-;refine wW ?_
 refine Bj (λ(y:Nat×List Bool×Nat×Nat)=>y.2.1.length=(Av f n).length/\y.2.2.1<(Av f n).length/\I4 y.2.1<=y.1/\y.2.2.2+y.1<=132/\FQ (Av f n) y.1 y.2.1 y.2.2.1 y.2.2.2=FQ (Av f n) (Av f n).length B i 0)
  (λy=>[.u,.u,.u,.u,LI out,LI (Av f n),LT y.2.1,.u,.n y.2.2.2,.n y.2.2.1,.u,.n (Av f n).length,.n i,.u,.u,.u]) (λy=>y.1) ((Av f n).length,B,i,0) ⟨C,hi,by have:=ADJ (B:=B);simp only;omega,by simp only;omega,rfl⟩ rfl ?_
 rintro⟨g,F,a,s⟩ ⟨Q,M,N,O,q⟩;simp only at Q M N O q|-
 cases h:CQ F a;have U:=QP (B:=F) (a:=a) (by omega) h
 cases g with
 |zero=>omega
 |succ g=>
  obtain⟨k,I,V,W⟩:=R5 c l (j:=a) (by omega)
  simp(disch:=try exact dV) only[AD,h,I]
  refine⟨(g,Cb F a true,k,s+1),by simp,⟨by rw[G1];exact Q,by simp only;omega,by simp only;omega,by simp only;omega,?_⟩,by simp⟩
  rw[<-q,FQ,if_neg (by rw[h];simp),I];rfl
 rw[PX h]at q;have H:=(Rl (L:=Av f n) (f:=(Av f n).length) (a:=i) (s:=0) (B:=B)).1;by_cases o:0<s;simp(disch:=try exact dV) only[AD,h];refine⟨DV (Av f n) i (out,B),⟨by rw[iter,<-P],?_,?_⟩,?_⟩;simp only[DV];rw[H];exact C;simp only[DV,<-q,if_pos o,A4,AO,A6];omega;simp only[DV,<-q,if_pos o];simp(disch:=try exact dV) only[AD,h];refine⟨DV (Av f n) i (out,B),⟨by rw[iter,<-P],?_,?_⟩,?_⟩;simp only[DV];rw[H];exact C;simp only[DV,<-q,if_neg o];omega;simp only[DV,<-q,if_neg o];obtain⟨out,B⟩:=x;obtain⟨P,_,_⟩:=G;refine wW ?_;have e:JL (Av f n)=(iter (DV (Av f n)) (Av f n).length ([],List.replicate (Av f n).length false)).1:=rfl;rw[e,<-P]
end Go.Cat
