/-
 The sieve: the program's objects, turned.
-/
import Derived.Test.YthoilpmggmenbaaGreatPfSvS
set_option linter.unusedSimpArgs false
set_option linter.unusedVariables false
namespace Go.Cat
set_option maxRecDepth 100000
variable{K:Nat->List D->List D->Prop}
theorem QD[HA K]{f n:Nat}(H:f<3)(a:1<=n/\n<=5):K 571 [.s (Bg f),.n n] [.n (BZ f n)]:=by have h:A4 1 5 n=true:=Af.2 (by omega);refine qw I571 ?_;refine cB CN ?_;rcases f3 H with rfl|rfl|rfl;simp(disch:=try exact dV) only[AD,h,show(Bg 0==[109,97,116,99,104,105,110,103,115])=true from rfl];rfl;simp(disch:=try exact dV) only[AD,h,show(Bg 1==[109,97,116,99,104,105,110,103,115])=false from rfl,show(Bg 1==[112,97,114,116,105,116,105,111,110,115])=true from rfl];rfl;simp(disch:=try exact dV) only[AD,h,show(Bg 2==[109,97,116,99,104,105,110,103,115])=false from rfl,show(Bg 2==[112,97,114,116,105,116,105,111,110,115])=false from rfl,show(Bg 2==[116,114,105,97,110,103,117,108,97,116,105,111,110,115])=true from rfl];rfl
theorem Ab5[HA K]{w:List Nat}(hd:AK w=true):K 597 [.s w] [LI (C1 w),.b true]:=by have h:w.length<=16:=(A8 hd).l;refine qw I597 ?_;refine cB (Bf (by omega)) ?_;rw[hd];refine wW ?_;have k:=(UT (K:=K) hd).1;rw[Kj hd]at k;exact cZ k
noncomputable def F7(f:Nat)(w:List Nat):List Nat:=match f with
 |0=>F4 (C1 w)
 |1=>IH (Dw w)
 |_=>C0 (BG (CP w))
noncomputable def KP(f n:Nat)(w:List Nat):List Nat:=match f with
 |0=>F4 (Ie (C1 w) 1)
 |1=>IH (HB (Dw w))
 |_=>C0 (IT ((n:Int)+2) 1 (BG (CP w)))
def Mc(m:List Int):Nat->List (List Int)
 |0=>[]
 |i+1=>if(i:Int)<AB m i then Mc m i++[[(i:Int),AB m i]]else Mc m i
theorem AHL{m:List Int}(h:∀j:Nat,j<m.length->0<=AB m j/\AB m j<=9):∀i,i<=m.length->i<=10->BV m i=(Mc m i).map λr=>[48+(AB r 0).toNat,45,48+(AB r 1).toNat]
 |0,_,_=>rfl
 |i+1,hi,a=>by have I:=AHL h i (by omega) (by omega);have H:=h i (by omega);simp only[BV,Mc];split;rw[I,List.map_append,JH (x:=(i:Int)) (by omega) (by omega),JH H.1 H.2];simp[AB];exact I
def RZ(r:List Int):Nat->List Nat
 |0=>[]
 |i+1=>RZ r i++[48+(AB r i+1).toNat]
theorem AFY{r:List Int}(h:∀j:Nat,j<r.length->0<=AB r j/\AB r j<=8):∀i,i<=r.length->DS r i=RZ r i
 |0,_=>rfl
 |i+1,hi=>by have H:=h i (by omega);simp only[DS,RZ];rw[AFY h i (by omega),JH (x:=AB r i+1) (by omega) (by omega)]
def MB(f:Nat)(w:List Nat):List Nat:=match f with
 |0=>sep 32 ((Mc (C1 w) (C1 w).length).map λr=>[48+(AB r 0).toNat,45,48+(AB r 1).toNat])
 |1=>sep 124 ((Br (Dw w)).map λr=>RZ r r.length)
 |_=>if(BG (CP w)).length=0 then [110,111,110,101]else sep 32 ((BG (CP w)).map λr=>[48+(AB r 0).toNat,48+(AB r 1).toNat])
def smB(k:Int)(l:List Int):Bool:=l.all λx=>decide (0<=x)&&decide (x<=k)
theorem AEC{k:Int}{l:List Int}(h:smB k l=true){j:Nat}(H:j<l.length):0<=AB l j/\AB l j<=k:=by
 have:=Aj.1 h l[j] (List.getElem_mem H);simp only[AU,Ad]at this;have e:AB l (j:Nat)=l[j]:=by simp[AB,H]
 rw[e];exact this
def RN(w:List Nat):Bool:=(CV (C1 w)&&(decide (0<(C1 w).length)&&(decide ((C1 w).length<=10)&&smB 9 (C1 w))))&&((Br (Dw w)).all (smB 8)&&((BG (CP w)).all EX&&decide ((BG (CP w)).length<=7)))
theorem obC0:BH 4 (λn=>(AG (n+1)).all RN)=true:=by kernel_rfl
theorem obC5:(AG 5).all RN=true:=by kernel_rfl
theorem PD{P:Nat->Bool}(h:BH 4 (λn=>P (n+1))=true)(H:P 5=true){n:Nat}(a:1<=n/\n<=5):P n=true:=by
 rcases B7 (n-1) 4 with q|q;have:=BQ h (n-1) q;rwa [show n-1+1=n by omega]at this
 rwa [show n=5 by omega]
theorem X5{f n:Nat}(l:f<3)(o:1<=n/\n<=5){w:List Nat}(q:w∈AG n):F7 f w=MB f w:=by have h:=Aj.1 (PD (P:=λn=>(AG n).all RN) obC0 obC5 o) w q;simp only[RN,AU,Ad]at h;obtain⟨⟨e,s,g,i⟩,k,c,x⟩:=h;rcases f3 l with rfl|rfl|rfl;simp only[F7,MB,F4];rw[if_pos e,if_neg (by omega),K8,AHL (λj a=>AEC i a) _ (Nat.le_refl _) g];simp only[F7,MB,IH];rw[K8,Dt];congr 1;refine List.map_congr_left λr b=>?_;exact AFY (λj a=>AEC (Aj.1 k r b) a) _ (Nat.le_refl _);simp only[F7,MB,C0];by_cases H:(BG (CP w)).length=0;rw[if_pos H,if_pos H];rw[if_neg H,if_neg H,if_neg (by omega),if_pos c,K8,Cf];congr 1;refine List.map_congr_left λr b=>?_;have:=Aj.1 c r b;simp only[EX,AU,Ad,Af]at this;rw[JH this.2.1.1 this.2.1.2,JH this.2.2.1 this.2.2.2]<;>rfl
def Pb(f n:Nat):Bool:=(List.range (AG n).length).all λj=>decide (((AG n).map (MB f)).idxOf (MB f (AH (AG n) j))=j)
theorem txN0:BH 3 (λf=>BH 4 λn=>Pb f (n+1))=true:=by kernel_rfl
theorem txN5:BH 3 (λf=>Pb f 5)=true:=by kernel_rfl
def Oo(n:Nat):Bool:=(List.range (AG n).length).all λj=>decide (Ie (C1 (AH (AG n) j)) 1=C1 (t15 0 n 1 (AH (AG n) j)))&&(decide (HB (Dw (AH (AG n) j))=Dw (t15 1 n 1 (AH (AG n) j)))&&decide (IT ((n:Int)+2) 1 (BG (CP (AH (AG n) j)))=BG (CP (t15 2 n 1 (AH (AG n) j)))))
theorem tuB0:BH 4 (λn=>Oo (n+1))=true:=by kernel_rfl
theorem tuB5:Oo 5=true:=by kernel_rfl
theorem AQS{f n:Nat}(H:f<3)(a:1<=n/\n<=5){i j:Nat}(hi:i<(AG n).length)(c:j<(AG n).length)(h:F7 f (AH (AG n) i)=F7 f (AH (AG n) j)):i=j:=by have e:Pb f n=true:=PD (P:=λn=>Pb f n) (BQ txN0 f H) (BQ txN5 f H) a;have x:=Aj.1 e;have b:=x i (List.mem_range.2 hi);have g:=x j (List.mem_range.2 c);simp only[Ad]at b g;rw[X5 H a (OE hi),X5 H a (OE c)]at h;rw[h]at b;omega
theorem AUZ{f n:Nat}(H:f<3)(b:1<=n/\n<=5){j:Nat}(a:j<(AG n).length):KP f n (AH (AG n) j)=F7 f (t15 f n 1 (AH (AG n) j)):=by have h:=Aj.1 (PD (P:=Oo) tuB0 tuB5 b) j (List.mem_range.2 a);simp only[Oo,AU,Ad]at h;rcases f3 H with rfl|rfl|rfl;simp only[KP,F7];rw[h.1];simp only[KP,F7];rw[h.2.1];simp only[KP,F7];rw[h.2.2]
theorem ABG{α:Type}{k a:List Nat}{v:α}:∀{m:List (List Nat×α)},Cb a (Fm k v m)=if a=k then some v else Cb a m
 |[]=>by simp[Fm,Cb]
 |(j,x)::m=>by simp only[Fm];by_cases h:k=j;rw[if_pos h];subst h;simp only[Cb];by_cases q:a=k;rw[if_pos q,if_pos q];rw[if_neg q,if_neg q,if_neg q];rw[if_neg h];simp only[Cb];rw[ABG];by_cases q:a=j;subst q;rw[if_pos rfl,if_neg (λe=>h e.symm),if_pos rfl];rw[if_neg q,if_neg q]
theorem YT{w:List Nat}{k:Nat}(h:MK w k=true):CJ (iter (λ_ p=>HB p) k (Dw w))=true/\0<(iter (λ_ p=>HB p) k (Dw w)).length/\(iter (λ_ p=>HB p) k (Dw w)).length<=8:=by rw[MK,AU,Ad]at h;refine⟨h.1,h.2,?_⟩;have:=h.1;simp[CJ]at this;exact this.1
theorem Xw[HA K]{f n:Nat}(g:f<3)(H:1<=n/\n<=5):K 587 [.s (Bg f),.n n] [LI (Al f n)]:=by
 have hp:=KM (n:=n) (by omega);refine qw I587 ?_;refine cW (pl_i (by omega)) ?_;refine BE (λi (x:List (List Nat×Int)×List (List Nat))=>(∀j:Nat,j<i->Cb (F7 f (AH (AG n) j)) x.1=some (j:Int))/\x.2=((AG n).take i).map (KP f n)) (λi x=>[.s (Bg f),.n n,.u,MI x.1,LS x.2,.u,.u,.u,.u,.u,.u,.u,.u,.u,.u,.u,LS (AG n),.n (AG n).length,.n i,.u,.u,.u,.u,.u,.u,.u,.u]) (AG n).length ([],[]) ⟨λj hj=>by omega,by simp⟩ rfl (λi x hi B=>?_) (λx B=>?_);obtain⟨m,T⟩:=x;obtain⟨c,P⟩:=B;simp only at c P|-;have Z:=OE hi;obtain⟨hd,hl⟩:=Yc H Z;obtain⟨R,c2,U⟩:=XV H Z;have Em:T.length<=132:=by rw[P,List.length_map,List.length_take];omega
 have o:(AG n).take (i+1)=(AG n).take i++[AH (AG n) i]:=by rw[CO hi];simp[AH,hi]
 have F:∀j:Nat,j<i+1->Cb (F7 f (AH (AG n) j)) (Fm (F7 f (AH (AG n) i)) (i:Int) m)=some (j:Int):=λj hj=>by rw[ABG];by_cases q:j=i;subst q;rw[if_pos rfl];rw[if_neg (λe=>q (AQS g H (by omega) hi e))];exact c j (by omega)
 have a:T++[KP f n (AH (AG n) i)]=((AG n).take (i+1)).map (KP f n):=by rw[o,List.map_append,<-P]<;>rfl
 generalize O:AH (AG n) i=w at*;simp(disch:=try exact dV) only[AD,O];rcases f3 g with rfl|rfl|rfl;obtain⟨m1,m2,m3⟩:=AKJ hd (by omega);have b:=AWY (K:=K) (m:=C1 w) (k:=1) m1 (by omega) (by omega) m3;rw[show((1:Nat):Int)=1 from rfl]at b;have hl1:=ALF (m:=C1 w) (k:=1);simp(disch:=try exact dV) only[AD,show(Bg 0==[109,97,116,99,104,105,110,103,115])=true from rfl];refine cW (Ab5 hd) ?_;refine cW b ?_;refine cW (TM (by omega)) ?_;refine cW (TM (by omega)) ?_;exact⟨(_,_),⟨F,a⟩,rfl⟩;have kp:=(PC (K:=K) hd).1;rw[PJ hd]at kp;obtain⟨q1,q2,q3⟩:=YT (U 0 (by omega));obtain⟨r1,r2,r3⟩:=YT (U 1 (by omega));simp only[iter]at q1 q2 q3 r1 r2 r3;simp(disch:=try exact dV) only[AD,show(Bg 1==[109,97,116,99,104,105,110,103,115])=false from rfl,show(Bg 1==[112,97,114,116,105,116,105,111,110,115])=true from rfl];refine cW kp ?_;refine cW (ARY q1 q2) ?_;refine cW (TZ (by omega)) ?_;refine cW (TZ (by omega)) ?_;exact⟨(_,_),⟨F,a⟩,rfl⟩;simp only[Pv,AU,Ad]at R;obtain⟨l,a2,Q⟩:=R;have I:Ft w=CP w:=by rw[<-l,GO,l]
 have G:(CP w).n<=8:=by have:=BT.pl (CP w);rw[l]at this;omega
 have W:=Ww (K:=K) hd;rw[I]at W;have C:=c2 1 (by omega);simp only[Pq,AU]at C;have V:=N0 C.2;have N:=Nx C.1;have Y:=Nx a2;have b:=AS3 (K:=K) (n:=(n:Int)+2) (k:=((1:Nat):Int)) a2 (N0 Q) (by omega);rw[show((1:Nat):Int)=1 from rfl]at b N V;have L:∀r∈BG (CP w),r.length<=9223372036854775807:=λr J=>by have:=(N0 Q r J).1;omega
 have M:∀r∈IT ((n:Int)+2) 1 (BG (CP w)),r.length<=9223372036854775807:=λr J=>by have:=(V r J).1;omega
 simp(disch:=try exact dV) only[AD,show(Bg 2==[109,97,116,99,104,105,110,103,115])=false from rfl,show(Bg 2==[112,97,114,116,105,116,105,111,110,115])=false from rfl];refine cW W ?_;refine cW (Ql G) ?_;refine cW b ?_;refine cW (Rh (by omega) L) ?_;refine cW (Rh (by omega) M) ?_;exact⟨(_,_),⟨F,a⟩,rfl⟩;obtain⟨m,T⟩:=x;obtain⟨c,P⟩:=B;simp only at c P|-;rw[List.take_length]at P;have Em:T.length=(AG n).length:=by rw[P,List.length_map]
 refine wW ?_;refine AR (λ_=>True) (λi=>[.u,.u,.u,MI m,.u,.u,.u,.u,.u,.u,.u,.u,.u,.u,LI ((Al f n).take i),.u,.u,.u,.u,.u,.u,.u,.u,LS T,.n T.length,.n i,.u]) T.length trivial rfl (λi hi _=>?_) (λ_=>?_);have h:i<(AG n).length:=by omega
 obtain⟨k,k1,k2,k3⟩:=Qh g H h;have hL:=MN (f:=f) (n:=n);have ea:AH T i=F7 f (AH (AG n) k):=by rw[k3,<-AUZ g H h,P];simp[AH,h]
 have hg:=c k k2;have o:(Al f n).take (i+1)=(Al f n).take i++[(k:Int)]:=by rw[CO (by omega)];congr 2;rw[<-k1];simp[AB,show i<(Al f n).length by omega]
 have el:((Al f n).take i).length<=132:=by rw[List.length_take];omega
 simp(disch:=try exact dV) only[AD,ea,hg,Option.getD_some];rw[o];rw[List.take_of_length_le (by rw[MN];omega)];exact wZ
def GN(L:List Int):Nat->Int->Int
 |0,a=>a
 |k+1,a=>AB L (GN L k a)
def fxI(L:List Int)(k:Nat):Nat:=(List.range L.length).countP λi:Nat=>decide (GN L k (i:Int)=i)
def QA(f n:Nat):Bool:=(List.range (BZ f n)).all λk=>decide (fxI (Al f n) k=HH f n k)
theorem fxB0:BH 3 (λf=>BH 4 λn=>QA f (n+1))=true:=by kernel_rfl
theorem fxB5:BH 3 (λf=>QA f 5)=true:=by kernel_rfl
theorem AN1{f n k:Nat}(h:f<3)(a:1<=n/\n<=5)(H:k<BZ f n):fxI (Al f n) k=HH f n k:=by have e:QA f n=true:=PD (P:=λn=>QA f n) (BQ fxB0 f h) (BQ fxB5 f h) a;have:=Aj.1 e k (List.mem_range.2 H);simpa using this
theorem AE2{f n:Nat}(h:f<3)(H:1<=n/\n<=5){i:Nat}(hi:i<(AG n).length):∀k,∃j:Nat,GN (Al f n) k (i:Nat)=j/\j<(AG n).length
 |0=>⟨i,rfl,hi⟩
 |k+1=>by obtain⟨j,a,b⟩:=AE2 h H hi k;obtain⟨c,e,g,_⟩:=Qh h H b;exact⟨c,by simp only[GN];rw[a,e],g⟩
theorem Xf[HA K]{f n k:Nat}(H:f<3)(b:1<=n/\n<=5)(x:k<BZ f n):K 572 [.s (Bg f),.n n,.n k] [.n (HH f n k)]:=by
 have F:=TV H b.2;have G:=KM (n:=n) (by omega);have hL:=MN (f:=f) (n:=n);rw[<-AN1 H b x];refine qw I572 ?_;refine cW (QD H b) ?_;refine cB CN ?_;rw[show A4 0 ((BZ f n:Int)-1) k=true from Af.2 (by omega)];refine wW ?_;refine cW (Xw H b) ?_;refine BE (λi (c:Nat)=>c=(List.range i).countP λi:Nat=>decide (GN (Al f n) k (i:Int)=i)) (λi c=>[.u,.u,.n k,.u,.u,LI (Al f n),.n c,.u,.u,.u,.n (Al f n).length,.n i,.u,.u,.u,.u,.u]) (Al f n).length 0 rfl rfl (λi c hi h=>?_) (λc h=>?_);have B:c<=i:=by rw[h];have:=List.countP_le_length (p:=λi:Nat=>decide (GN (Al f n) k (i:Int)=i)) (l:=List.range i);simpa using this
 have e:(List.range (i+1)).countP (λi:Nat=>decide (GN (Al f n) k (i:Int)=i))=(List.range i).countP (λi:Nat=>decide (GN (Al f n) k (i:Int)=i))+if GN (Al f n) k (i:Int)=i then 1 else 0:=by rw[List.range_succ,List.countP_append];simp[List.countP_cons]
 refine wW ?_;refine AR (λ_=>True) (λj=>[.u,.u,.n k,.u,.u,LI (Al f n),.n c,.n i,.n (GN (Al f n) j i),.u,.n (Al f n).length,.n i,.u,.n k,.n j,.u,.u]) k trivial rfl (λj C _=>?_) (λ_=>?_);obtain⟨a,g,a2⟩:=AE2 H b (i:=i) (by omega) j;have o:GN (Al f n) (j+1) (i:Int)=AB (Al f n) (a:Nat):=by simp only[GN];rw[g]
 rw[g,o];exact wZ;by_cases q:GN (Al f n) k (i:Int)=i;rw[if_pos q]at e;refine wW ?_;exact⟨c+1,by rw[e,h],by simp⟩;rw[if_neg q]at e;refine wW ?_;exact⟨c,by rw[e,h,Nat.add_zero],rfl⟩;refine wW ?_;rw[h]<;>rfl
theorem ATC[HA K]{f n:Nat}(c:f<3)(l:1<=n/\n<=5):K 573 [.s (Bg f),.n n] [LI (IY (Al f n)),.b true]:=by
 have T:=KM (n:=n) (by omega);have hL:=MN (f:=f) (n:=n);have R:=TV c l.2;refine qw I573 ?_;refine cW (QD c l) ?_;refine cW (Xw c l) ?_;refine BE (λi (x:List Int×List Bool)=>x=iter (DH (Al f n)) i ([],List.replicate (Al f n).length false)/\x.2.length=(Al f n).length/\x.1.length<=i) (λi x=>[.u,.u,.u,.u,LI x.1,LI (Al f n),LT x.2,.u,.u,.u,.u,.n (Al f n).length,.n i,.u,.u,.u]) (Al f n).length ([],List.replicate (Al f n).length false) ⟨rfl,by simp,by simp⟩ (by simp[Sf];rfl) (λi x hi G=>?_) (λx G=>?_);obtain⟨out,B⟩:=x;obtain⟨P,C,J⟩:=G;simp only at P C J|-;refine wW ?_
 refine Bd (λ(y:Nat×List Bool×Nat×Nat)=>y.2.1.length=(Al f n).length/\y.2.2.1<(Al f n).length/\HR y.2.1<=y.1/\y.2.2.2+y.1<=132/\Ek (Al f n) y.1 y.2.1 y.2.2.1 y.2.2.2=Ek (Al f n) (Al f n).length B i 0)
  (λy=>[.u,.u,.u,.u,LI out,LI (Al f n),LT y.2.1,.u,.n y.2.2.2,.n y.2.2.1,.u,.n (Al f n).length,.n i,.u,.u,.u]) (λy=>y.1) ((Al f n).length,B,i,0) ⟨C,hi,by have:=AJL (B:=B);simp only;omega,by simp only;omega,rfl⟩ rfl ?_
 rintro⟨g,F,a,s⟩ ⟨Q,M,N,O,q⟩;simp only at Q M N O q|-
 cases h:CM F a;have U:=RJ (B:=F) (a:=a) (by omega) h
 cases g with
 |zero=>omega
 |succ g=>
  obtain⟨k,I,V,W⟩:=Qh c l (j:=a) (by omega)
  simp(disch:=try exact dV) only[AD,h,I]
  refine⟨(g,C2 F a true,k,s+1),by simp,⟨by rw[Fy];exact Q,by simp only;omega,by simp only;omega,by simp only;omega,?_⟩,by simp⟩
  rw[<-q,Ek,if_neg (by rw[h];simp),I];rfl
 rw[Ni h]at q;have H:=(O6 (L:=Al f n) (f:=(Al f n).length) (a:=i) (s:=0) (B:=B)).1;by_cases o:0<s;simp(disch:=try exact dV) only[AD,h];refine⟨DH (Al f n) i (out,B),⟨by rw[iter,<-P],?_,?_⟩,?_⟩;simp only[DH];rw[H];exact C;simp only[DH,<-q,if_pos o,AZ,AO,Aa];omega;simp only[DH,<-q,if_pos o];simp(disch:=try exact dV) only[AD,h];refine⟨DH (Al f n) i (out,B),⟨by rw[iter,<-P],?_,?_⟩,?_⟩;simp only[DH];rw[H];exact C;simp only[DH,<-q,if_neg o];omega;simp only[DH,<-q,if_neg o];obtain⟨out,B⟩:=x;obtain⟨P,_,_⟩:=G;refine wW ?_;have e:IY (Al f n)=(iter (DH (Al f n)) (Al f n).length ([],List.replicate (Al f n).length false)).1:=rfl;rw[e,<-P]
end Go.Cat
