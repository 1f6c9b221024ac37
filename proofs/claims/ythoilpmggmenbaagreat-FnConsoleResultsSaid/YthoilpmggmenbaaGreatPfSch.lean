/-
 Schroeder numbers, and what is asked of the program's own function.
-/
import Derived.Test.YthoilpmggmenbaaGreatPfWayD
set_option linter.unusedSimpArgs false
set_option linter.unusedVariables false
namespace Go.Cat
def K4:List Int:=[1,2,6,22,90,394]
theorem AY8{P:Program}{fid:Nat->Nat}{f:Nat}{n v:Int}(h:∀w,Calls P f #[.int .i64 n] w λe w'=>e=.returned (.int .i64 v)/\Gr w w'):G5 P fid f ⟨[.v],[.v],[],none⟩ [.n n] [.n v]:=by
 intro w X args B l hX H _;match args,H with
 |[],H=>simp[BO]at H
 |_::_::_,H=>simp[BO]at H
 |[V],H=>
  simp only[BO,AE,Rd]at H
  obtain⟨B1,B2,rfl,⟨rfl,rfl⟩,rfl⟩:=H
  refine(h w).mono ?_
  rintro e w' ⟨rfl,g,G,a,c,i⟩
  refine⟨_,[.int .i64 v],[],rfl,rfl,rfl,⟨g,λb k _=>G b k⟩,a,c,i,List.nodup_nil,by simp,?_⟩
  simp only[Sg.outs,List.map_nil,List.append_nil,BO,AE,Rd]
  exact⟨[],[],rfl,⟨rfl,trivial⟩,rfl⟩
class RG(K:Nat->List D->List D->Prop):Prop where
 sch:∀n:Nat,n<=5->K 494 [.n n] [.n (K4.getD n 0)]
end Go.Cat
namespace Go.Cat
variable{K:Nat->List D->List D->Prop}
end Go.Cat
namespace Go.Cat
set_option maxRecDepth 100000
variable{K:Nat->List D->List D->Prop}
def KW:List Int:=[1,1,2,4,9,21]
def KJ:List Int:=[1,1,3,12,55,273]
def J7:List Int:=[1,1,3,16,125,1296]
abbrev AD6:List (Nat×IF):=[(256,I256.v),(23,Jz.v)]
abbrev AA3:List (Nat×IF):=[(267,I267.v),(22,K6.v)]
abbrev AGB:List (Nat×IF):=[(489,I489.v),(79,I79.v),(84,I84.v),(22,K6.v),(24,I24.v)]
abbrev Wl:List (Nat×IF):=[(490,I490.v),(22,K6.v),(24,I24.v)]
abbrev AAW:List (Nat×IF):=[(495,I495.v),(23,Jz.v),(25,I25.v)]
abbrev AGW:List (Nat×IF):=[(491,I491.v),(22,K6.v)]
abbrev AA9:List (Nat×IF):=[(496,I496.v),(23,Jz.v)]
theorem AXO:BH 6 (λn=>Fv (EC (Dx AD6) 60 8 256 [.n n]) (KW.getD n 0))=true:=by kernel_rfl
theorem AaY[HA K]{n:Nat}(h:n<6):K 256 [.n n] [.n (KW.getD n 0)]:=run AD6 60 8 256 (Gt (BQ AXO n h))
theorem AN7:BH 6 (λn=>Fv (EC (Dx AA3) 60 8 267 [.n n]) (KW.getD n 0))=true:=by kernel_rfl
theorem AP6[HA K]{n:Nat}(h:n<6):K 267 [.n n] [.n (KW.getD n 0)]:=run AA3 60 8 267 (Gt (BQ AN7 n h))
theorem AVX:BH 6 (λn=>Fv (EC (Dx AGB) 60 8 489 [.n n]) (K4.getD n 0))=true:=by kernel_rfl
theorem AX0[HA K]{n:Nat}(h:n<6):K 489 [.n n] [.n (K4.getD n 0)]:=run AGB 60 8 489 (Gt (BQ AVX n h))
theorem AS0:BH 6 (λn=>Fv (EC (Dx Wl) 60 8 490 [.n 3,.n n]) (KJ.getD n 0))=true:=by kernel_rfl
theorem Ad9[HA K]{n:Nat}(h:n<6):K 490 [.n 3,.n n] [.n (KJ.getD n 0)]:=run Wl 60 8 490 (Gt (BQ AS0 n h))
theorem AQ7:BH 6 (λn=>Fv (EC (Dx AAW) 60 8 495 [.n 3,.n n]) (KJ.getD n 0))=true:=by kernel_rfl
theorem AY4[HA K]{n:Nat}(h:n<6):K 495 [.n 3,.n n] [.n (KJ.getD n 0)]:=run AAW 60 8 495 (Gt (BQ AQ7 n h))
theorem ATT:BH 6 (λn=>Fv (EC (Dx AGW) 60 8 491 [.n n]) (J7.getD n 0))=true:=by kernel_rfl
theorem ATG[HA K]{n:Nat}(h:n<6):K 491 [.n n] [.n (J7.getD n 0)]:=run AGW 60 8 491 (Gt (BQ ATT n h))
theorem AbG:BH 6 (λn=>Fv (EC (Dx AA9) 60 8 496 [.n n]) (J7.getD n 0))=true:=by kernel_rfl
theorem AcT[HA K]{n:Nat}(h:n<6):K 496 [.n n] [.n (J7.getD n 0)]:=run AA9 60 8 496 (Gt (BQ AbG n h))
def Hj(x:BT)(t:List BT)(j:Nat):Nat:=((List.range j).filter λk:Nat=>Ch x (Ah t k)).length
theorem AAP{x:BT}{t:List BT}{j:Nat}:Hj x t (j+1)=Hj x t j+if Ch x (Ah t j)=true then 1 else 0:=by simp only[Hj,List.range_succ,List.filter_append,AZ];by_cases h:Ch x (Ah t j)=true;simp[h];simp[h]
theorem V7{x:BT}{t:List BT}{j:Nat}:Hj x t j<=j:=by have:=List.length_filter_le (λk:Nat=>Ch x (Ah t k)) (List.range j);simpa[Hj]using this
def Hf(t:List BT):Nat->Nat
 |0=>0
 |i+1=>Hf t i+Hj (Ah t i) t t.length
theorem ZM{t:List BT}:∀{i:Nat},Hf t i<=i*t.length
 |0=>by simp[Hf]
 |i+1=>by have h:=ZM (t:=t) (i:=i);have H:=V7 (x:=Ah t i) (t:=t) (j:=t.length);simp only[Hf,Nat.add_mul,Nat.one_mul];omega
theorem AXD[HA K]{n:Nat}(h:n<=5):∃v:Int,0<=v/\v<=1764/\K 497 [.n n] [.n v]/\K 492 [.n n] [.n v]:=by
 obtain⟨t,l,T,B,ks⟩:=XZ (K:=K) (n:=n) h;have k:∀i,i<=t.length->Hf t i<=1764:=λi hi=>by have C:=ZM (t:=t) (i:=i);have F:i*t.length<=42*42:=Nat.mul_le_mul (by omega) l;omega
 have b:A4 0 5 (n:Int)=true:=Af.2 (by omega);refine⟨Hf t t.length,by omega,by have:=k t.length (Nat.le_refl _);omega,?_,?_⟩;refine qw I497 ?_;refine cB CN ?_;rw[b];refine wW ?_;refine cB B ?_;simp(disch:=try exact dV) only[AD,List.length_map];refine BE (λi (c:Int)=>c=Hf t i) (λi c=>[.u,.u,.n c,DN t,.u,.u,.u,DN t,.n t.length,.n i,.u,.u,.u,.u,.u,.u]) t.length 0 rfl rfl (λi c hi a=>?_) (λc a=>?_);have b1:=k i (by omega);have f:=Fe hi;simp(disch:=try exact dV) only[AD,List.length_map,f];refine BE (λj (e:Int)=>e=c+Hj (Ah t i) t j) (λj e=>[.u,.u,.n e,DN t,.s (Ah t i).t,.u,.u,DN t,.n t.length,.n i,.u,DN t,.n t.length,.n j,.u,.u]) t.length c (by simp[Hj]) rfl (λj e hj he=>?_) (λe he=>?_);have g:=Fe hj;have H:=AAP (x:=Ah t i) (t:=t) (j:=j);have o:=V7 (x:=Ah t i) (t:=t) (j:=j);simp(disch:=try exact dV) only[AD,List.length_map,g];refine cB (MR (T _ (FV hi)) (T _ (FV hj))) ?_
 cases q:Ch (Ah t i) (Ah t j)with
 |false=>
  rw[q,if_neg (by simp)]at H
  refine wW ?_
  exact⟨_,by rw[H,he];omega,rfl⟩
 |true=>
  rw[q,if_pos rfl]at H
  refine wW ?_
  exact⟨_,by rw[H,he];omega,rfl⟩
 refine wW ?_;exact⟨_,by rw[he,a];simp only[Hf];omega,rfl⟩;refine wW ?_;rw[a];refine qw I492 ?_;refine cB Cl ?_;rw[b];refine wW ?_;refine cB ks ?_;simp(disch:=try exact dV) only[AD,List.length_map];refine BE (λi (c:Int)=>c=Hf t i) (λi c=>[.u,.u,DN t,.n c,.n i,.u,.u,.u,.u,.u]) t.length 0 rfl rfl (λi c hi a=>?_) (λc a=>?_);have b1:=k i (by omega);have f:=Fe hi;simp(disch:=try exact dV) only[AD,List.length_map,f];refine BE (λj (e:Int)=>e=c+Hj (Ah t i) t j) (λj e=>[.u,.u,DN t,.n e,.n i,.n j,.u,.u,.u,.u]) t.length c (by simp[Hj]) rfl (λj e hj he=>?_) (λe he=>?_);have g:=Fe hj;have H:=AAP (x:=Ah t i) (t:=t) (j:=j);have o:=V7 (x:=Ah t i) (t:=t) (j:=j);simp(disch:=try exact dV) only[AD,List.length_map,f,g];refine cB (Kw (T _ (FV hi)) (T _ (FV hj))) ?_
 cases q:Ch (Ah t i) (Ah t j)with
 |false=>
  rw[q,if_neg (by simp)]at H
  refine wW ?_
  exact⟨_,by rw[H,he];omega,rfl⟩
 |true=>
  rw[q,if_pos rfl]at H
  refine wW ?_
  exact⟨_,by rw[H,he];omega,rfl⟩
 simp(disch:=try exact dV) only[AD,List.length_map];exact⟨_,by rw[he,a];simp only[Hf];omega,rfl⟩;simp(disch:=try exact dV) only[AD,List.length_map];rw[a]
end Go.Cat
namespace Go.Cat
set_option maxRecDepth 100000
variable{K:Nat->List D->List D->Prop}
def Mj(a:List Int)(s:List Bool):Prop:=∀j:Nat,j<a.length->CM s (j:Nat)=true->CM s (AB a (j:Nat))=true
theorem Nn{s:List Bool}{i j:Nat}(hi:i<s.length):(s.set i true).getD j false=if i=j then true else s.getD j false:=by simp only[Ap,List.getElem?_set];by_cases h:i=j;subst h;simp[hi];simp[h]
theorem Aa1{a:List Int}{s:List Bool}{n:Nat}(G:CV a=true)(O:s.length=a.length)(hn:n<a.length)(C:Mj a s)(f:CM s (n:Nat)=false):
  D4 (C2 (C2 s (n:Nat) true) (AB a (n:Nat)) true)+2=D4 s/\Mj a (C2 (C2 s (n:Nat) true) (AB a (n:Nat)) true):=by
 obtain⟨q,I,Q⟩:=(GY G).2 n hn;have q:=Af.1 q;obtain⟨k,F⟩:=CZ q.1;rw[F]at I Q|-;have l:k≠n:=λe=>I (by rw[e]);have J:k<s.length:=by omega
 have c:s.getD k false=false:=by
  cases h:s.getD k false with
  |false=>rfl
  |true=>
   have:=C k (by omega) (by rw[Iq];exact h)
   rw[Q,f]at this
   cases this
 rw[Iq]at f;have M:=RM (s:=s) (i:=n) (by omega) f;have N:=RM (s:=s.set n true) (i:=k) (by rw[List.length_set];omega) (by rw[Nn (by omega),if_neg (λe=>l e.symm)];exact c);rw[RD,RD];refine⟨by omega,λj hj H=>?_⟩;rw[Iq,Nn (by rw[List.length_set];omega),Nn (by omega)]at H;have g:∀m:Nat,CM ((s.set n true).set k true) (m:Nat)=if k=m then true else if n=m then true else s.getD m false:=λm=>by rw[Iq,Nn (by rw[List.length_set];omega),Nn (by omega)]
 by_cases x:k=j
 .subst x;rw[Q,g];simp
 .by_cases B:n=j
  .subst B;rw[F,g];simp
  .rw[if_neg x,if_neg B]at H;have b:=C j hj (by rw[Iq];exact H);have L:=Af.1 ((GY G).2 j hj).1;obtain⟨m,o⟩:=CZ L.1;rw[o]at b|-;rw[Iq]at b;rw[g,b];simp
theorem AF4{a b:List Int}(g:CV a=true)(k:JI b)(e:b.length=a.length):∀(f:Nat)(s:List Bool)(n:Nat),s.length=a.length->n<a.length->Mj a s->
  Mj a (FC a b f s (n:Nat))/\D4 (FC a b f s (n:Nat))<=D4 s/\(0<f->CM s (n:Nat)=false->D4 (FC a b f s (n:Nat))+2<=D4 s)
 |0,s,n,_,_,c=>⟨c,Nat.le_refl _,λh=>absurd h (by omega)⟩
 |f+1,s,n,l,hn,c=>by
  simp only[FC]
  cases B:CM s (n:Nat)with
  |true=>
   simp only[if_true]
   exact⟨c,Nat.le_refl _,λ_ h=>by cases h⟩
  |false=>
   simp only[Gw,if_false]
   obtain⟨C,o⟩:=Aa1 g l hn c B
   have q:=Lb g n hn
   have H:=OF k (x:=AB a (n:Nat)) (by omega)
   obtain⟨m,i⟩:=CZ H.1
   rw[i]at H|-
   have I:=AF4 g k e f (C2 (C2 s (n:Nat) true) (AB a (n:Nat)) true) m (by rw[Fy,Fy,l]) (by omega) o
   exact⟨I.1,by omega,λ_ _=>by omega⟩
theorem AGL{a b:List Int}(f:CV a=true)(c:JI b)(H:b.length=a.length):∀i:Nat,i<=a.length->Mj a (Cs a b i).1/\2*(Cs a b i).2+D4 (Cs a b i).1<=a.length
 |0,_=>by
  refine⟨λj hj h=>?_,?_⟩;rw[Iq]at h;simp[Cs,rep,hj]at h;have:=List.countP_le_length (p:=λb=>!b) (l:=rep a.length false);simp only[Cs,D4];have e:(rep a.length false).length=a.length:=by simp[rep]
  omega
 |i+1,hi=>by
  have I:=AGL f c H i (by omega);have g:=(P0 (a:=a) (b:=b) i).1;unfold Cs
  cases x:CM (Cs a b i).1 (i:Nat)with
  |true=>
   simp only[if_true]
   exact I
  |false=>
   simp only[Gw,if_false]
   have:=AF4 f c H (a.length+1) (Cs a b i).1 i g (by omega) I.1
   have k:=this.2.2 (by omega) x
   exact⟨this.1,by omega⟩
theorem AYR{a b:List Int}(c:CV a=true)(H:JI b)(h:b.length=a.length):2*G0 a b<=a.length:=by have:=(AGL c H h a.length (Nat.le_refl _)).2;simp only[G0];omega
def IZ(a:List Int)(ms:List (List Int))(o:List Int):Nat->List Int
 |0=>o
 |j+1=>B9 (IZ a ms o j) (G0 a (AF ms (j:Nat)):Nat) (AB (IZ a ms o j) (G0 a (AF ms (j:Nat)):Nat)+1)
def FN(ms:List (List Int))(n:Nat):Nat->List Int
 |0=>rep (n+1) 0
 |i+1=>IZ (AF ms (i:Nat)) ms (FN ms n i) ms.length
theorem Mp{a:List Int}{ms:List (List Int)}{o:List Int}:∀j,(IZ a ms o j).length=o.length
 |0=>rfl
 |j+1=>by simp only[IZ,DD,Mp j]
theorem N9{ms:List (List Int)}{n:Nat}:∀i,(FN ms n i).length=n+1
 |0=>by simp[FN,rep]
 |i+1=>by simp only[FN,Mp,N9 i]
def Qe(o:List Int)(k:Nat):Prop:=∀j:Nat,j<o.length->0<=AB o (j:Nat)/\AB o (j:Nat)<=k
theorem QG{a:List Int}{ms:List (List Int)}{o:List Int}{k:Nat}(h:Qe o k)(c:∀j:Nat,j<ms.length->G0 a (AF ms (j:Nat))<o.length):∀j,j<=ms.length->Qe (IZ a ms o j) (k+j)
 |0,_=>h
 |j+1,hj=>by have I:=QG h c j (by omega);have H:=c j (by omega);have l:=Mp (a:=a) (ms:=ms) (o:=o) j;intro i hi;simp only[IZ]at hi|-;rw[DD]at hi;rw[Gb (by omega)];have b:=I i hi;have e:=I (G0 a (AF ms (j:Nat))) (by omega);split<;>omega
theorem AJO{ms:List (List Int)}{n:Nat}(h:∀i j:Nat,i<ms.length->j<ms.length->G0 (AF ms (i:Nat)) (AF ms (j:Nat))<n+1):∀i,i<=ms.length->Qe (FN ms n i) (i*ms.length)
 |0,_=>λj hj=>by
  simp only[FN,rep,List.length_replicate]at hj|-;have e:(List.replicate (((n:Nat):Int)+1).toNat (0:Int))[j]?=some 0:=by rw[List.getElem?_replicate,if_pos hj]
  simp only[AB,BM,Ap];rw[e];simp
 |i+1,hi=>by have I:=AJO h i (by omega);have:=QG (a:=AF ms (i:Nat)) (ms:=ms) I (λj hj=>by rw[N9];exact h i j (by omega) hj) ms.length (Nat.le_refl _);simp only[FN,Nat.add_mul,Nat.one_mul];exact this
theorem AX5:∀n:Nat,n<6->(AG n).length<=42:=by decide
theorem AQI{ws:List (List Nat)}{ms:List (List Int)}(h:HO ws ms):∀i:Nat,i<ms.length->PP (AH ws i) (AF ms i):=λi hi=>AcK h i (by rw[<-PA h];exact hi)
theorem ANZ[HA K]{n:Nat}(h:n<=5):∃l:List Int,l.length=n+1/\(∀x∈l,0<=x/\x<=1764)/\K 493 [.n n] [LI l,.b true]/\K 488 [.n n] [LI l,.b true]:=by
 obtain⟨_,⟨ms,rfl,F⟩,U⟩:=AR5 (K:=K) (n:=n) (by omega);have C:=PA F;have Q:=AX5 n (by omega);have B:A4 0 5 (n:Int)=true:=Af.2 (by omega);have s:∀i:Nat,i<ms.length->AK (AH (AG n) i)=true/\(AH (AG n) i).length=2*n:=λi hi=>apd (n:=n) (by omega) (ADA (ws:=AG n) (i:=i) (by omega));have k:∀i:Nat,i<ms.length->PP (AH (AG n) i) (AF ms i):=AQI F;have c:∀i:Nat,i<ms.length->EG (AF ms i)=true/\(AF ms i).length=2*n:=λi hi=>by have q:=s i hi;exact⟨AW2 (by omega) (k i hi),by rw[(k i hi).1];exact q.2⟩
 have f:∀i:Nat,i<ms.length->CV (AF ms i)=true:=λi hi=>by have:=(c i hi).1;simp[EG]at this;exact this.1
 have H:∀i j:Nat,i<ms.length->j<ms.length->G0 (AF ms (i:Nat)) (AF ms (j:Nat))<n+1:=λi j hi hj=>by have:=AYR (f i hi) (Lb (f j hj)) (by rw[(c i hi).2,(c j hj).2]);rw[(c i hi).2]at this;omega
 have g:∀i,i<=ms.length->Qe (FN ms n i) 1764:=λi hi j hj=>by have q:=AJO H i hi j hj;have I:i*ms.length<=42*42:=Nat.mul_le_mul (by omega) (by omega);omega
 refine⟨FN ms n ms.length,N9 _,λx R=>?_,?_,?_⟩;obtain⟨j,hj,e⟩:=List.getElem_of_mem R;have:=g ms.length (Nat.le_refl _) j hj;have O:AB (FN ms n ms.length) (j:Nat)=x:=by simp[AB,hj,e]
 rw[O]at this;exact this;refine qw I493 ?_;refine cB CN ?_;rw[B];refine wW ?_;refine cW U ?_;refine AR (λ_=>True) (λi=>[.u,.u,.u,LI (FN ms n i),LL ms,.u,.u,.u,LL ms,.n ms.length,.n i,.u,.u,.u,.u,.u]) ms.length trivial ?_ (λi hi _=>?_) (λ_=>?_);rfl;have N:=N9 (ms:=ms) (n:=n) i;have b2:=g i (by omega);refine wW ?_;refine AR (λ_=>True) (λj=>[.u,.u,.u,LI (IZ (AF ms (i:Nat)) ms (FN ms n i) j),LL ms,LI (AF ms (i:Nat)),.u,.u,LL ms,.n ms.length,.n i,.u,LL ms,.n ms.length,.n j,.u]) ms.length trivial rfl (λj hj _=>?_) (λ_=>?_);have W:=Mp (a:=AF ms (i:Nat)) (ms:=ms) (o:=FN ms n i) j;have J:=H i j hi hj;have b1:=QG (a:=AF ms (i:Nat)) (ms:=ms) b2 (λj hj=>by rw[N];exact H i j hi hj) j (by omega) (G0 (AF ms (i:Nat)) (AF ms (j:Nat))) (by omega);have q:=c i hi;have I:=c j hj;refine wW ?_;exact cZ (AQ5 (by omega) (by omega) (Lb (f i hi)) (Lb (f j hj)));exact wZ;exact wZ;have V:=OQ (K:=K) (n:=n) (by omega);refine qw I488 ?_;refine cB Cl ?_;rw[B];refine wW ?_;refine cW V ?_;refine AR (λ_=>True) (λi=>[.n n,.u,.u,LS (AG n),LL (ms.take i),.n i,.u,.u,.u,.u,.u,.u,.u,.u,.u]) (AG n).length trivial rfl (λi hi _=>?_) (λ_=>?_);have M:=k i (by omega);have L:=s i (by omega);have P:(ms.take i).length=i:=by rw[List.length_take];omega
 have G:ms.take (i+1)=ms.take i++[AF ms (i:Nat)]:=by rw[CO (by omega)];simp[AF,show i<ms.length by omega]
 rw[G];obtain⟨Z,T⟩:∃Z,Z=ms.take i:=⟨_,rfl⟩;rw[<-T]at P|-;refine wW ?_;refine cB (TD L.1 M) ?_;simp(disch:=try exact dV) only[AD,AEV];rw[<-C,List.take_length];refine wW ?_;refine AR (λ_=>True) (λi=>[.u,.u,.u,.u,LL ms,.u,.u,LI (FN ms n i),.n i,.u,.u,.u,.u,.u,.u]) ms.length trivial ?_ (λi hi _=>?_) (λ_=>?_);rfl;have N:=N9 (ms:=ms) (n:=n) i;have b2:=g i (by omega);refine wW ?_;refine AR (λ_=>True) (λj=>[.u,.u,.u,.u,LL ms,.u,.u,LI (IZ (AF ms (i:Nat)) ms (FN ms n i) j),.n i,.n j,.u,.u,.u,.u,.u]) ms.length trivial rfl (λj hj _=>?_) (λ_=>?_);have W:=Mp (a:=AF ms (i:Nat)) (ms:=ms) (o:=FN ms n i) j;have J:=H i j hi hj;have b1:=QG (a:=AF ms (i:Nat)) (ms:=ms) b2 (λj hj=>by rw[N];exact H i j hi hj) j (by omega) (G0 (AF ms (i:Nat)) (AF ms (j:Nat))) (by omega);have q:=c i hi;have I:=c j hj;refine wW ?_;exact cZ (AX6 q.1 I.1 (by omega));exact wZ;exact wZ
end Go.Cat
namespace Go.Cat
set_option maxRecDepth 100000
variable{K:Nat->List D->List D->Prop}
theorem AYW{h i a2 k l o q x B C a b c e f g:List Nat}:EK [.s h,.s i,.s a2,.s k,.s l,.s o,.s q,.s x,.s B,.s C,.s a,.s b,.s c,.s e,.s f,.s g]=some (LS [h,i,a2,k,l,o,q,x,B,C,a,b,c,e,f,g]):=rfl
theorem AWB:∀n,n<6->(0<=EN.getD n 0/\EN.getD n 0<=100000)/\(0<=K4.getD n 0/\K4.getD n 0<=100000)/\(0<=KJ.getD n 0/\KJ.getD n 0<=100000)/\(0<=J7.getD n 0/\J7.getD n 0<=100000)/\(0<=KW.getD n 0/\KW.getD n 0<=100000):=by decide
theorem AO7[HA K][RG K]{n:Nat}(h:n<=5):∃v,(v≠[]/\Nw v)/\K 456 [.n n] [.s v]/\K 455 [.n n] [.s v]:=by
 obtain⟨b1,b2,O,Q,R⟩:=AWB n (by omega);obtain⟨i,G,I,a,b⟩:=AXD (K:=K) h;obtain⟨l,l1,L,li,N⟩:=ANZ (K:=K) h;have k:=AaY (K:=K) (n:=n) (by omega);have o:=AP6 (K:=K) (n:=n) (by omega);have x:=RG.sch (K:=K) n h;have B:=AX0 (K:=K) (n:=n) (by omega);have F:=AY4 (K:=K) (n:=n) (by omega);have e:=Ad9 (K:=K) (n:=n) (by omega);have P:=AcT (K:=K) (n:=n) (by omega);have q:=ATG (K:=K) (n:=n) (by omega);have c:=AEH (K:=K) (n:=n) (by omega);have C:=TE (K:=K) (n:=n) (by omega);generalize EN.getD n 0=ca at*;generalize K4.getD n 0=sh at*;generalize KJ.getD n 0=f at*;generalize J7.getD n 0=pk at*;generalize KW.getD n 0=M at*;have hi:Gz l:=λy J=>by have:=L y J;omega
 have H:A4 0 5 (n:Int)=true:=Af.2 (by omega);have T:=Ar (n:=(n:Int)) (by omega);have U:=Ar (n:=ca) (by omega);have f3:=Ar (n:=M) (by omega);have V:=Ar (n:=sh) (by omega);have W:=Ar (n:=f) (by omega);have Y:=Ar (n:=pk) (by omega);have Z:=Ar (n:=i) (by omega);have f8:=Lo hi;refine⟨[115,105,122,101,32]++AN n++[32,99,97,116,97,108,97,110,32]++AN ca++[32,109,111,116,122,107,105,110,32]++AN M++[32,115,99,104,114,111,101,100,101,114,32]++AN sh++[32,116,101,114,110,97,114,121,32]++AN f++[32,112,97,114,107,105,110,103,32]++AN pk++[32,105,110,116,101,114,118,97,108,115,32]++AN i++[32,108,111,111,112,115,32]++EP l,⟨by simp,by simp;omega,by simp[JA,Sb]⟩,?_,?_⟩;refine qw I456 ?_;refine cB CN ?_;rw[H];refine wW ?_;refine cW li ?_;refine cW (C4 (by omega)) ?_;refine cW c ?_;refine cW (C4 (by omega)) ?_;refine cW k ?_;refine cW (C4 (by omega)) ?_;refine cW x ?_;refine cW (C4 (by omega)) ?_;refine cW F ?_;refine cW (C4 (by omega)) ?_;refine cW P ?_;refine cW (C4 (by omega)) ?_;refine cW a ?_;refine cW (C4 (by omega)) ?_;refine cB (P9 (by omega) hi) ?_;simp(disch:=try exact dV) only[AD,AYW];have g:=IP (K:=K) (ws:=[[115,105,122,101],AN n,[99,97,116,97,108,97,110],AN ca,[109,111,116,122,107,105,110],AN M,[115,99,104,114,111,101,100,101,114],AN sh,[116,101,114,110,97,114,121],AN f,[112,97,114,107,105,110,103],AN pk,[105,110,116,101,114,118,97,108,115],AN i,[108,111,111,112,115],EP l]) (by simp) (by simp;omega);refine cW g ?_;simp[glue,BC,AH];refine qw I455 ?_;refine cB Cl ?_;rw[H];refine wW ?_;refine cW N ?_;refine cW (Bk (by omega)) ?_;refine cW C ?_;refine cW (Bk (by omega)) ?_;refine cW o ?_;refine cW (Bk (by omega)) ?_;refine cW B ?_;refine cW (Bk (by omega)) ?_;refine cW e ?_;refine cW (Bk (by omega)) ?_;refine cW q ?_;refine cW (Bk (by omega)) ?_;refine cW b ?_;refine cW (Bk (by omega)) ?_;exact cZ (Q6 (by omega) hi)
end Go.Cat
namespace Go.Cat
def kq(f:Nat->Int):Nat->Int
 |0=>0
 |1=>1
 |m+2=>f m*kq f (m+1)-kq f m
def wv(A:Nat->Int)(a b:Int):Nat->Int
 |0=>a
 |1=>b
 |v+2=>A (v+1)*wv A a b (v+1)-wv A a b v
def pz(n:Nat):Prop:=n=4\/n=5\/n=6\/n=7\/n=8\/n=9\/n=10
def sg(n j:Nat):Nat->Nat
 |0=>if j=0 then 1 else 0
 |v+1=>if(sg n j v+1)%n=j then sg n j v+2 else sg n j v+1
section
variable{n j:Nat}(hn:pz n)(hj:j<n)
end
end Go.Cat
namespace Go.Cat
def rmQ{α:Type}(l:List α)(j:Nat):List α:=l.take j++l.drop (j+1)
end Go.Cat
namespace Go.Cat
variable{K:Nat->List D->List D->Prop}
end Go.Cat
namespace Go.Cat
variable{K:Nat->List D->List D->Prop}
def AWP(a b:List Int)(i k:Nat)(o:List Int):List Int:=B9 o i (IntKind.i64.wrap (AB o i+IntKind.i64.wrap (AB a k*AB b ((i:Int)-k))))
def AYD(a b:List Int)(n:Nat):List Int:=iter (λi o=>iter (AWP a b i) (i+1) o) n (rep n 0)
end Go.Cat
namespace Go.Cat
variable{K:Nat->List D->List D->Prop}
end Go.Cat
namespace Go.Cat
variable{K:Nat->List D->List D->Prop}
class ADP(K:Nat->List D->List D->Prop):Prop where
 del:∀(l:List Int)(i:Nat),i<l.length->l.length<=1000->K 212 [LI l,.n i,.n ((i:Int)+1)] [LI (rmQ l i)]
end Go.Cat
namespace Go.Cat
variable{K:Nat->List D->List D->Prop}
end Go.Cat
namespace Go.Cat
variable{K:Nat->List D->List D->Prop}
end Go.Cat
namespace Go.Cat
variable{K:Nat->List D->List D->Prop}
def KB(s:List Nat):List Nat:=s.map (GJ 40 117 100)
def Hy(s:List Nat):Bool:=only 40 41 s&&AK (KB s)
def Gv(s:List Nat):List Nat:=if Hy s=true then KB s else []
theorem ABA{s:List Nat}:(KB s).length=s.length:=by simp[KB]
theorem AOE{w:List Nat}(hd:AK w=true):Hy (Cj w)=true/\Gv (Cj w)=w:=by
 have h:=Mn hd;have e:KB (Cj w)=w:=TA h;have:Hy (Cj w)=true:=by simp[Hy,SC h,e,hd]
 exact⟨this,by simp[Gv,this,e]⟩
theorem ARF[HA K]{s:List Nat}(l:s.length<=1000000000):K 515 [.s s] [.s (Gv s),.b (Hy s)]:=by
 have k:=UE (K:=K) (w:=s) (a:=40) (b:=41) (c:=117) (d:=100) (by omega) (by omega) (by omega);refine qw AJP ?_;refine cB k ?_;have H:=ABA (s:=s);have e:s.map (GJ 40 117 100)=KB s:=rfl;by_cases h:only 40 41 s=true
 .simp(disch:=omega) only[AD,h,e];repeat refine cW (Bf (by omega)) ?_
  by_cases hd:AK (KB s)=true;simp(disch:=omega) only[AD,hd];simp[Gv,Hy,h,hd];simp(disch:=omega) only[AD,hd];simp[Gv,Hy,h,hd]
 simp(disch:=omega) only[AD,h];simp[Gv,Hy,h]
theorem RL[HA K]:∀{x:BT},x.n<=100000->K 583 [x.d] [.s x.p]
 |.lf,_=>by refine qb AKH ?_;simp only[BT.d,BT.p];exact wZ
 |.nd l r,h=>by have H:=h;simp only[BT.n]at H;have k:=RL (x:=l) (by omega);have a:=RL (x:=r) (by omega);have T:=BT.pl l;have b:=BT.pl r;refine qb AKH ?_;simp only[BT.d,BT.p];simp(disch:=try exact dV) only[AD,BT.DL,I4];refine cB k ?_;simp(disch:=try exact dV) only[AD,BT.DL];refine cW a ?_;simp
theorem AQG[HA K]{x:BT}(h:x.n<=8):K 560 [.s x.t] [.s x.p,.b true]:=by refine qw AJI ?_;refine cB (Jl h) ?_;simp(disch:=omega) only[AD,BT.DL];exact cZ (RL (by omega))
theorem Aa9[HA K]{s:List Nat}(h:Bq s=false):K 560 [.s s] [.s [],.b false]:=by refine qw AJI ?_;refine cW (PL h) ?_;exact cZ (RL (x:=.lf) (by simp[BT.n]))
theorem UP[HA K]:∀{x:BT},x.n<=100000->K 592 [.s x.t] [.s x.p]
 |.lf,_=>by refine qb Wu ?_;simp only[BT.t,BT.p];exact wZ
 |.nd a b,h=>by have H:=h;simp only[BT.n]at H;have g:=UP (x:=a) (by omega);have i:=UP (x:=b) (by omega);have T:=BT.tl a;have B:=BT.tl b;have P:=BT.pl a;have q:=BT.pl b;have l:=Ga (a:=a) (b:=b);have c:=I0 (a:=a) (b:=b);have k:=HQ (K:=K) (a:=a) (b:=b) (by omega);have e:=Jc (a:=a) (b:=b);have f:=II (a:=a) (b:=b) (j:=(BT.nd a b).t.length-1) rfl;simp only[BT.p];generalize o:(BT.nd a b).t=w at l c f k e;refine qb Wu ?_;simp(disch:=try exact dV) only[AD,e];refine cB k ?_;simp(disch:=try exact dV) only[AD,c];refine cB g ?_;simp(disch:=try exact dV) only[AD,f];refine cW i ?_;simp
theorem ATW[HA K]{x:BT}(h:x.n<=8):K 577 [.s x.t] [.s x.p,.b true]:=by refine qw I577 ?_;refine cB Fo ?_;simp(disch:=omega) only[AD,FO h];exact cZ (UP (by omega))
end Go.Cat
