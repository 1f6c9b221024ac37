/-
 The sieve: the program's objects, turned.
-/
import Derived.Test.YthoilpmggmenbaaGreatPfSvS
set_option linter.unusedSimpArgs false
set_option linter.unusedVariables false
namespace Go.Cat
set_option maxRecDepth 100000
variable{K:Nat->List D->List D->Prop}
theorem SN[HA K]{f n:Nat}(H:f<3)(a:1<=n/\n<=5):K 571 [.s (BU f),.n n] [.n (Bf f n)]:=by have h:AR 1 5 n=true:=A7.2 (by omega);refine qw AGX ?_;refine cB Br ?_;rcases f3 H with rfl|rfl|rfl;simp(disch:=try exact dV) only[AD,h,show(BU 0==[109,97,116,99,104,105,110,103,115])=true from rfl];rfl;simp(disch:=try exact dV) only[AD,h,show(BU 1==[109,97,116,99,104,105,110,103,115])=false from rfl,show(BU 1==[112,97,114,116,105,116,105,111,110,115])=true from rfl];rfl;simp(disch:=try exact dV) only[AD,h,show(BU 2==[109,97,116,99,104,105,110,103,115])=false from rfl,show(BU 2==[112,97,114,116,105,116,105,111,110,115])=false from rfl,show(BU 2==[116,114,105,97,110,103,117,108,97,116,105,111,110,115])=true from rfl];rfl
theorem Ac9[HA K]{s:List Nat}{n:Int}(h:AR 1 5 n=false\/(s≠BU 0/\s≠BU 1/\s≠BU 2)):K 571 [.s s,.n n] [.n (-1)]:=by
 refine qw AGX ?_;refine cB Br ?_
 cases hin:AR 1 5 n;exact wZ;rw[hin]at h;have h:=h.resolve_left (by simp);have h0:(s==[109,97,116,99,104,105,110,103,115])=false:=beq_eq_false_iff_ne.2 h.1;have H:(s==[112,97,114,116,105,116,105,111,110,115])=false:=beq_eq_false_iff_ne.2 h.2.1;have a:(s==[116,114,105,97,110,103,117,108,97,116,105,111,110,115])=false:=beq_eq_false_iff_ne.2 h.2.2;simp(disch:=try exact dV) only[AD,h0,H,a]
theorem AZG[HA K]{w:List Nat}(hd:AK w=true):K 597 [.s w] [LI (Ce w),.b true]:=by have h:w.length<=16:=(Af hd).l;refine qw I597 ?_;refine cB (Bz (by omega)) ?_;rw[hd];refine wW ?_;have k:=(YZ (K:=K) hd).1;rw[My hd]at k;exact cZ k
noncomputable def Gb(f:Nat)(w:List Nat):List Nat:=match f with
 |0=>Fo (Ce w)
 |1=>Jd (Ed w)
 |_=>Cc (BO (C3 w))
noncomputable def Ky(f n:Nat)(w:List Nat):List Nat:=match f with
 |0=>Fo (KA (Ce w) 1)
 |1=>Jd (IY (Ed w))
 |_=>Cc (JQ ((n:Int)+2) 1 (BO (C3 w)))
def Ps(m:List Int):Nat->List (List Int)
 |0=>[]
 |i+1=>if(i:Int)<AB m i then Ps m i++[[(i:Int),AB m i]]else Ps m i
theorem ANP{m:List Int}(h:∀j:Nat,j<m.length->0<=AB m j/\AB m j<=9):∀i,i<=m.length->i<=10->BW m i=(Ps m i).map λr=>[48+(AB r 0).toNat,45,48+(AB r 1).toNat]
 |0,_,_=>rfl
 |i+1,hi,a=>by have I:=ANP h i (by omega) (by omega);have H:=h i (by omega);simp only[BW,Ps];split;rw[I,List.map_append,Kg (x:=(i:Int)) (by omega) (by omega),Kg H.1 H.2];simp[AB];exact I
def Rn(r:List Int):Nat->List Nat
 |0=>[]
 |i+1=>Rn r i++[48+(AB r i+1).toNat]
theorem ADX{r:List Int}(h:∀j:Nat,j<r.length->0<=AB r j/\AB r j<=8):∀i,i<=r.length->DW r i=Rn r i
 |0,_=>rfl
 |i+1,hi=>by have H:=h i (by omega);simp only[DW,Rn];rw[ADX h i (by omega),Kg (x:=AB r i+1) (by omega) (by omega)]
def Mk(f:Nat)(w:List Nat):List Nat:=match f with
 |0=>sep 32 ((Ps (Ce w) (Ce w).length).map λr=>[48+(AB r 0).toNat,45,48+(AB r 1).toNat])
 |1=>sep 124 ((CM (Ed w)).map λr=>Rn r r.length)
 |_=>if(BO (C3 w)).length=0 then [110,111,110,101]else sep 32 ((BO (C3 w)).map λr=>[48+(AB r 0).toNat,48+(AB r 1).toNat])
def smB(k:Int)(l:List Int):Bool:=l.all λx=>decide (0<=x)&&decide (x<=k)
theorem AIH{k:Int}{l:List Int}(h:smB k l=true){j:Nat}(H:j<l.length):0<=AB l j/\AB l j<=k:=by
 have:=Ao.1 h l[j] (List.getElem_mem H);simp only[AV,Ac]at this;have e:AB l (j:Nat)=l[j]:=by simp[AB,H]
 rw[e];exact this
def S3(w:List Nat):Bool:=(Ca (Ce w)&&(decide (0<(Ce w).length)&&(decide ((Ce w).length<=10)&&smB 9 (Ce w))))&&((CM (Ed w)).all (smB 8)&&((BO (C3 w)).all Eo&&decide ((BO (C3 w)).length<=7)))
theorem obC0:BR 4 (λn=>(AI (n+1)).all S3)=true:=by kernel_rfl
theorem obC5:(AI 5).all S3=true:=by kernel_rfl
theorem Qx{P:Nat->Bool}(h:BR 4 (λn=>P (n+1))=true)(H:P 5=true){n:Nat}(a:1<=n/\n<=5):P n=true:=by
 rcases BQ (n-1) 4 with q|q;have:=BY h (n-1) q;rwa [show n-1+1=n by omega]at this
 rwa [show n=5 by omega]
theorem AER{f n:Nat}(l:f<3)(o:1<=n/\n<=5){w:List Nat}(q:w∈AI n):Gb f w=Mk f w:=by have h:=Ao.1 (Qx (P:=λn=>(AI n).all S3) obC0 obC5 o) w q;simp only[S3,AV,Ac]at h;obtain⟨⟨e,s,g,i⟩,k,c,x⟩:=h;rcases f3 l with rfl|rfl|rfl;simp only[Gb,Mk,Fo];rw[if_pos e,if_neg (by omega),Lz,ANP (λj a=>AIH i a) _ (Nat.le_refl _) g];simp only[Gb,Mk,Jd];rw[Lz,E9];congr 1;refine List.map_congr_left λr b=>?_;exact ADX (λj a=>AIH (Ao.1 k r b) a) _ (Nat.le_refl _);simp only[Gb,Mk,Cc];by_cases H:(BO (C3 w)).length=0;rw[if_pos H,if_pos H];rw[if_neg H,if_neg H,if_neg (by omega),if_pos c,Lz,Cw];congr 1;refine List.map_congr_left λr b=>?_;have:=Ao.1 c r b;simp only[Eo,AV,Ac,A7]at this;rw[Kg this.2.1.1 this.2.1.2,Kg this.2.2.1 this.2.2.2]<;>rfl
def Ry(f n:Nat):Bool:=(List.range (AI n).length).all λj=>decide (((AI n).map (Mk f)).idxOf (Mk f (AF (AI n) j))=j)
theorem txN0:BR 3 (λf=>BR 4 λn=>Ry f (n+1))=true:=by kernel_rfl
theorem txN5:BR 3 (λf=>Ry f 5)=true:=by kernel_rfl
def To(n:Nat):Bool:=(List.range (AI n).length).all λj=>decide (KA (Ce (AF (AI n) j)) 1=Ce (t15 0 n 1 (AF (AI n) j)))&&(decide (IY (Ed (AF (AI n) j))=Ed (t15 1 n 1 (AF (AI n) j)))&&decide (JQ ((n:Int)+2) 1 (BO (C3 (AF (AI n) j)))=BO (C3 (t15 2 n 1 (AF (AI n) j)))))
theorem tuB0:BR 4 (λn=>To (n+1))=true:=by kernel_rfl
theorem tuB5:To 5=true:=by kernel_rfl
theorem AfG{f n:Nat}(H:f<3)(a:1<=n/\n<=5){i j:Nat}(hi:i<(AI n).length)(c:j<(AI n).length)(h:Gb f (AF (AI n) i)=Gb f (AF (AI n) j)):i=j:=by have e:Ry f n=true:=Qx (P:=λn=>Ry f n) (BY txN0 f H) (BY txN5 f H) a;have x:=Ao.1 e;have b:=x i (List.mem_range.2 hi);have g:=x j (List.mem_range.2 c);simp only[Ac]at b g;rw[AER H a (OZ hi),AER H a (OZ c)]at h;rw[h]at b;omega
theorem Ak7{f n:Nat}(H:f<3)(b:1<=n/\n<=5){j:Nat}(a:j<(AI n).length):Ky f n (AF (AI n) j)=Gb f (t15 f n 1 (AF (AI n) j)):=by have h:=Ao.1 (Qx (P:=To) tuB0 tuB5 b) j (List.mem_range.2 a);simp only[To,AV,Ac]at h;rcases f3 H with rfl|rfl|rfl;simp only[Ky,Gb];rw[h.1];simp only[Ky,Gb];rw[h.2.1];simp only[Ky,Gb];rw[h.2.2]
theorem ACS{α:Type}{k a:List Nat}{v:α}:∀{m:List (List Nat×α)},Cr a (GY k v m)=if a=k then some v else Cr a m
 |[]=>by simp[GY,Cr]
 |(j,x)::m=>by simp only[GY];by_cases h:k=j;rw[if_pos h];subst h;simp only[Cr];by_cases q:a=k;rw[if_pos q,if_pos q];rw[if_neg q,if_neg q,if_neg q];rw[if_neg h];simp only[Cr];rw[ACS];by_cases q:a=j;subst q;rw[if_pos rfl,if_neg (λe=>h e.symm),if_pos rfl];rw[if_neg q,if_neg q]
theorem AOO{w:List Nat}{k:Nat}(h:OI w k=true):CZ (iter (λ_ p=>IY p) k (Ed w))=true/\0<(iter (λ_ p=>IY p) k (Ed w)).length/\(iter (λ_ p=>IY p) k (Ed w)).length<=8:=by rw[OI,AV,Ac]at h;refine⟨h.1,h.2,?_⟩;have:=h.1;simp[CZ]at this;exact this.1
theorem AD6[HA K]{f n:Nat}(g:f<3)(H:1<=n/\n<=5):K 587 [.s (BU f),.n n] [LI (Av f n)]:=by
 have hp:=L8 (n:=n) (by omega);refine qw I587 ?_;refine cW (pl_i (by omega)) ?_;refine Ah (λi (x:List (List Nat×Int)×List (List Nat))=>(∀j:Nat,j<i->Cr (Gb f (AF (AI n) j)) x.1=some (j:Int))/\x.2=((AI n).take i).map (Ky f n)) (λi x=>[.s (BU f),.n n,.u,MI x.1,LS x.2,.u,.u,.u,.u,.u,.u,.u,.u,.u,.u,.u,LS (AI n),.n (AI n).length,.n i,.u,.u,.u,.u,.u,.u,.u,.u]) (AI n).length ([],[]) ⟨λj hj=>by omega,by simp⟩ rfl (λi x hi B=>?_) (λx B=>?_);obtain⟨m,T⟩:=x;obtain⟨c,P⟩:=B;simp only at c P|-;have Z:=OZ hi;obtain⟨hd,hl⟩:=AID H Z;obtain⟨R,c2,U⟩:=AKE H Z;have FN:T.length<=132:=by rw[P,List.length_map,List.length_take];omega
 have o:(AI n).take (i+1)=(AI n).take i++[AF (AI n) i]:=by rw[CQ hi];simp[AF,hi]
 have F:∀j:Nat,j<i+1->Cr (Gb f (AF (AI n) j)) (GY (Gb f (AF (AI n) i)) (i:Int) m)=some (j:Int):=λj hj=>by rw[ACS];by_cases q:j=i;subst q;rw[if_pos rfl];rw[if_neg (λe=>q (AfG g H (by omega) hi e))];exact c j (by omega)
 have a:T++[Ky f n (AF (AI n) i)]=((AI n).take (i+1)).map (Ky f n):=by rw[o,List.map_append,<-P]<;>rfl
 generalize O:AF (AI n) i=w at*;simp(disch:=try exact dV) only[AD,O];rcases f3 g with rfl|rfl|rfl;obtain⟨m1,m2,m3⟩:=AFA hd (by omega);have b:=AaP (K:=K) (m:=Ce w) (k:=1) m1 (by omega) (by omega) m3;rw[show((1:Nat):Int)=1 from rfl]at b;have hl1:=AS6 (m:=Ce w) (k:=1);simp(disch:=try exact dV) only[AD,show(BU 0==[109,97,116,99,104,105,110,103,115])=true from rfl];refine cW (AZG hd) ?_;refine cW b ?_;refine cW (VU (by omega)) ?_;refine cW (VU (by omega)) ?_;exact⟨(_,_),⟨F,a⟩,rfl⟩;have kp:=(R1 (K:=K) hd).1;rw[S7 hd]at kp;obtain⟨q1,q2,q3⟩:=AOO (U 0 (by omega));obtain⟨r1,r2,r3⟩:=AOO (U 1 (by omega));simp only[iter]at q1 q2 q3 r1 r2 r3;simp(disch:=try exact dV) only[AD,show(BU 1==[109,97,116,99,104,105,110,103,115])=false from rfl,show(BU 1==[112,97,114,116,105,116,105,111,110,115])=true from rfl];refine cW kp ?_;refine cW (AcY q1 q2) ?_;refine cW (Vl (by omega)) ?_;refine cW (Vl (by omega)) ?_;exact⟨(_,_),⟨F,a⟩,rfl⟩;simp only[T5,AV,Ac]at R;obtain⟨l,a2,Q⟩:=R;have I:JA w=C3 w:=by rw[<-l,Hi,l]
 have G:(C3 w).n<=8:=by have:=BT.pl (C3 w);rw[l]at this;omega
 have W:=AJU (K:=K) hd;rw[I]at W;have C:=c2 1 (by omega);simp only[Rg,AV]at C;have V:=PI C.2;have N:=Q1 C.1;have Y:=Q1 a2;have b:=Ak8 (K:=K) (n:=(n:Int)+2) (k:=((1:Nat):Int)) a2 (PI Q) (by omega);rw[show((1:Nat):Int)=1 from rfl]at b N V;have L:∀r∈BO (C3 w),r.length<=9223372036854775807:=λr J=>by have:=(PI Q r J).1;omega
 have M:∀r∈JQ ((n:Int)+2) 1 (BO (C3 w)),r.length<=9223372036854775807:=λr J=>by have:=(V r J).1;omega
 simp(disch:=try exact dV) only[AD,show(BU 2==[109,97,116,99,104,105,110,103,115])=false from rfl,show(BU 2==[112,97,114,116,105,116,105,111,110,115])=false from rfl];refine cW W ?_;refine cW (Ro G) ?_;refine cW b ?_;refine cW (RH (by omega) L) ?_;refine cW (RH (by omega) M) ?_;exact⟨(_,_),⟨F,a⟩,rfl⟩;obtain⟨m,T⟩:=x;obtain⟨c,P⟩:=B;simp only at c P|-;rw[List.take_length]at P;have FN:T.length=(AI n).length:=by rw[P,List.length_map]
 refine wW ?_;refine AN (λ_=>True) (λi=>[.u,.u,.u,MI m,.u,.u,.u,.u,.u,.u,.u,.u,.u,.u,LI ((Av f n).take i),.u,.u,.u,.u,.u,.u,.u,.u,LS T,.n T.length,.n i,.u]) T.length trivial rfl (λi hi _=>?_) (λ_=>?_);have h:i<(AI n).length:=by omega
 obtain⟨k,k1,k2,k3⟩:=S8 g H h;have hL:=Mg (f:=f) (n:=n);have ea:AF T i=Gb f (AF (AI n) k):=by rw[k3,<-Ak7 g H h,P];simp[AF,h]
 have hg:=c k k2;have o:(Av f n).take (i+1)=(Av f n).take i++[(k:Int)]:=by rw[CQ (by omega)];congr 2;rw[<-k1];simp[AB,show i<(Av f n).length by omega]
 have el:((Av f n).take i).length<=132:=by rw[List.length_take];omega
 simp(disch:=try exact dV) only[AD,ea,hg,Option.getD_some];rw[o];rw[List.take_of_length_le (by rw[Mg];omega)];exact wZ
def Gk(L:List Int):Nat->Int->Int
 |0,a=>a
 |k+1,a=>AB L (Gk L k a)
def fxI(L:List Int)(k:Nat):Nat:=(List.range L.length).countP λi:Nat=>decide (Gk L k (i:Int)=i)
def TN(f n:Nat):Bool:=(List.range (Bf f n)).all λk=>decide (fxI (Av f n) k=IE f n k)
theorem fxB0:BR 3 (λf=>BR 4 λn=>TN f (n+1))=true:=by kernel_rfl
theorem fxB5:BR 3 (λf=>TN f 5)=true:=by kernel_rfl
theorem AYV{f n k:Nat}(h:f<3)(a:1<=n/\n<=5)(H:k<Bf f n):fxI (Av f n) k=IE f n k:=by have e:TN f n=true:=Qx (P:=λn=>TN f n) (BY fxB0 f h) (BY fxB5 f h) a;have:=Ao.1 e k (List.mem_range.2 H);simpa using this
theorem APJ{f n:Nat}(h:f<3)(H:1<=n/\n<=5){i:Nat}(hi:i<(AI n).length):∀k,∃j:Nat,Gk (Av f n) k (i:Nat)=j/\j<(AI n).length
 |0=>⟨i,rfl,hi⟩
 |k+1=>by obtain⟨j,a,b⟩:=APJ h H hi k;obtain⟨c,e,g,_⟩:=S8 h H b;exact⟨c,by simp only[Gk];rw[a,e],g⟩
theorem AP9[HA K]{f n k:Nat}(H:f<3)(b:1<=n/\n<=5)(x:k<Bf f n):K 572 [.s (BU f),.n n,.n k] [.n (IE f n k)]:=by
 have F:=XU H b.2;have G:=L8 (n:=n) (by omega);have hL:=Mg (f:=f) (n:=n);rw[<-AYV H b x];refine qw I572 ?_;refine cW (SN H b) ?_;refine cB Br ?_;rw[show AR 0 ((Bf f n:Int)-1) k=true from A7.2 (by omega)];refine wW ?_;refine cW (AD6 H b) ?_;refine Ah (λi (c:Nat)=>c=(List.range i).countP λi:Nat=>decide (Gk (Av f n) k (i:Int)=i)) (λi c=>[.u,.u,.n k,.u,.u,LI (Av f n),.n c,.u,.u,.u,.n (Av f n).length,.n i,.u,.u,.u,.u,.u]) (Av f n).length 0 rfl rfl (λi c hi h=>?_) (λc h=>?_);have B:c<=i:=by rw[h];have:=List.countP_le_length (p:=λi:Nat=>decide (Gk (Av f n) k (i:Int)=i)) (l:=List.range i);simpa using this
 have e:(List.range (i+1)).countP (λi:Nat=>decide (Gk (Av f n) k (i:Int)=i))=(List.range i).countP (λi:Nat=>decide (Gk (Av f n) k (i:Int)=i))+if Gk (Av f n) k (i:Int)=i then 1 else 0:=by rw[List.range_succ,List.countP_append];simp[List.countP_cons]
 refine wW ?_;refine AN (λ_=>True) (λj=>[.u,.u,.n k,.u,.u,LI (Av f n),.n c,.n i,.n (Gk (Av f n) j i),.u,.n (Av f n).length,.n i,.u,.n k,.n j,.u,.u]) k trivial rfl (λj C _=>?_) (λ_=>?_);obtain⟨a,g,a2⟩:=APJ H b (i:=i) (by omega) j;have o:Gk (Av f n) (j+1) (i:Int)=AB (Av f n) (a:Nat):=by simp only[Gk];rw[g]
 rw[g,o];exact wZ;by_cases q:Gk (Av f n) k (i:Int)=i;rw[if_pos q]at e;refine wW ?_;exact⟨c+1,by rw[e,h],by simp⟩;rw[if_neg q]at e;refine wW ?_;exact⟨c,by rw[e,h,Nat.add_zero],rfl⟩;refine wW ?_;rw[h]<;>rfl
theorem AkK[HA K]{f n:Nat}(c:f<3)(l:1<=n/\n<=5):K 573 [.s (BU f),.n n] [LI (JU (Av f n)),.b true]:=by
 have T:=L8 (n:=n) (by omega);have hL:=Mg (f:=f) (n:=n);have R:=XU c l.2;refine qw I573 ?_;refine cW (SN c l) ?_;refine cW (AD6 c l) ?_;refine Ah (λi (x:List Int×List Bool)=>x=iter (D1 (Av f n)) i ([],List.replicate (Av f n).length false)/\x.2.length=(Av f n).length/\x.1.length<=i) (λi x=>[.u,.u,.u,.u,LI x.1,LI (Av f n),LT x.2,.u,.u,.u,.u,.n (Av f n).length,.n i,.u,.u,.u]) (Av f n).length ([],List.replicate (Av f n).length false) ⟨rfl,by simp,by simp⟩ (by simp[XD];rfl) (λi x hi G=>?_) (λx G=>?_);obtain⟨out,B⟩:=x;obtain⟨P,C,J⟩:=G;simp only at P C J|-;refine wW ?_
 refine Bd (λ(y:Nat×List Bool×Nat×Nat)=>y.2.1.length=(Av f n).length/\y.2.2.1<(Av f n).length/\Ie y.2.1<=y.1/\y.2.2.2+y.1<=132/\F6 (Av f n) y.1 y.2.1 y.2.2.1 y.2.2.2=F6 (Av f n) (Av f n).length B i 0)
  (λy=>[.u,.u,.u,.u,LI out,LI (Av f n),LT y.2.1,.u,.n y.2.2.2,.n y.2.2.1,.u,.n (Av f n).length,.n i,.u,.u,.u]) (λy=>y.1) ((Av f n).length,B,i,0) ⟨C,hi,by have:=AL7 (B:=B);simp only;omega,by simp only;omega,rfl⟩ rfl ?_
 rintro⟨g,F,a,s⟩ ⟨Q,M,N,O,q⟩;simp only at Q M N O q|-
 cases h:CU F a;have U:=Qj (B:=F) (a:=a) (by omega) h
 cases g with
 |zero=>omega
 |succ g=>
  obtain⟨k,I,V,W⟩:=S8 c l (j:=a) (by omega)
  simp(disch:=try exact dV) only[AD,h,I]
  refine⟨(g,Cf F a true,k,s+1),by simp,⟨by rw[G4];exact Q,by simp only;omega,by simp only;omega,by simp only;omega,?_⟩,by simp⟩
  rw[<-q,F6,if_neg (by rw[h];simp),I];rfl
 rw[QD h]at q;have H:=(TG (L:=Av f n) (f:=(Av f n).length) (a:=i) (s:=0) (B:=B)).1;by_cases o:0<s;simp(disch:=try exact dV) only[AD,h];refine⟨D1 (Av f n) i (out,B),⟨by rw[iter,<-P],?_,?_⟩,?_⟩;simp only[D1];rw[H];exact C;simp only[D1,<-q,if_pos o,AW,AP,A5];omega;simp only[D1,<-q,if_pos o];simp(disch:=try exact dV) only[AD,h];refine⟨D1 (Av f n) i (out,B),⟨by rw[iter,<-P],?_,?_⟩,?_⟩;simp only[D1];rw[H];exact C;simp only[D1,<-q,if_neg o];omega;simp only[D1,<-q,if_neg o];obtain⟨out,B⟩:=x;obtain⟨P,_,_⟩:=G;refine wW ?_;have e:JU (Av f n)=(iter (D1 (Av f n)) (Av f n).length ([],List.replicate (Av f n).length false)).1:=rfl;rw[e,<-P]
end Go.Cat
