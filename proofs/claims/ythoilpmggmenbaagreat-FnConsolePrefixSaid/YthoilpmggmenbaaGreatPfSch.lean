/-
 Schroeder numbers, and what is asked of the program's own function.
-/
import Derived.Test.YthoilpmggmenbaaGreatPfWayK
set_option linter.unusedSimpArgs false
set_option linter.unusedVariables false
namespace Go.Cat
def Ll:List Int:=[1,2,6,22,90,394]
theorem AgM{P:Program}{fid:Nat->Nat}{f:Nat}{n v:Int}(h:∀w,Calls P f #[.int .i64 n] w λe w'=>e=.returned (.int .i64 v)/\Gr w w'):HX P fid f ⟨[.v],[.v],[],none⟩ [.n n] [.n v]:=by
 intro w X args B l hX H _;match args,H with
 |[],H=>simp[BX]at H
 |_::_::_,H=>simp[BX]at H
 |[V],H=>
  simp only[BX,AE,Rd]at H
  obtain⟨B1,B2,rfl,⟨rfl,rfl⟩,rfl⟩:=H
  refine(h w).mono ?_
  rintro e w' ⟨rfl,g,G,a,c,i⟩
  refine⟨_,[.int .i64 v],[],rfl,rfl,rfl,⟨g,λb k _=>G b k⟩,a,c,i,List.nodup_nil,by simp,?_⟩
  simp only[Sg.outs,List.map_nil,List.append_nil,BX,AE,Rd]
  exact⟨[],[],rfl,⟨rfl,trivial⟩,rfl⟩
class Jz(K:Nat->List D->List D->Prop):Prop where
 sch:∀n:Nat,n<=5->K 494 [.n n] [.n (Ll.getD n 0)]
end Go.Cat
namespace Go.Cat
variable{K:Nat->List D->List D->Prop}
end Go.Cat
namespace Go.Cat
set_option maxRecDepth 100000
variable{K:Nat->List D->List D->Prop}
def LJ:List Int:=[1,1,2,4,9,21]
def ME:List Int:=[1,1,3,12,55,273]
def MJ:List Int:=[1,1,3,16,125,1296]
abbrev APD:List (Nat×IF):=[(256,I256.v),(23,LR.v)]
abbrev AKQ:List (Nat×IF):=[(267,I267.v),(22,MZ.v)]
abbrev ARR:List (Nat×IF):=[(489,I489.v),(79,I79.v),(84,I84.v),(22,MZ.v),(24,I24.v)]
abbrev AF9:List (Nat×IF):=[(490,I490.v),(22,MZ.v),(24,I24.v)]
abbrev AC6:List (Nat×IF):=[(495,I495.v),(23,LR.v),(25,I25.v)]
abbrev AK4:List (Nat×IF):=[(491,I491.v),(22,MZ.v)]
abbrev AG7:List (Nat×IF):=[(496,I496.v),(23,LR.v)]
theorem AdB:BR 6 (λn=>HJ (Ec (E8 APD) 60 8 256 [.n n]) (LJ.getD n 0))=true:=by kernel_rfl
theorem Ai4[HA K]{n:Nat}(h:n<6):K 256 [.n n] [.n (LJ.getD n 0)]:=run APD 60 8 256 (IK (BY AdB n h))
theorem AhE:BR 6 (λn=>HJ (Ec (E8 AKQ) 60 8 267 [.n n]) (LJ.getD n 0))=true:=by kernel_rfl
theorem AiV[HA K]{n:Nat}(h:n<6):K 267 [.n n] [.n (LJ.getD n 0)]:=run AKQ 60 8 267 (IK (BY AhE n h))
theorem Aj4:BR 6 (λn=>HJ (Ec (E8 ARR) 60 8 489 [.n n]) (Ll.getD n 0))=true:=by kernel_rfl
theorem AaY[HA K]{n:Nat}(h:n<6):K 489 [.n n] [.n (Ll.getD n 0)]:=run ARR 60 8 489 (IK (BY Aj4 n h))
theorem AjM:BR 6 (λn=>HJ (Ec (E8 AF9) 60 8 490 [.n 3,.n n]) (ME.getD n 0))=true:=by kernel_rfl
theorem AgU[HA K]{n:Nat}(h:n<6):K 490 [.n 3,.n n] [.n (ME.getD n 0)]:=run AF9 60 8 490 (IK (BY AjM n h))
theorem AaI:BR 6 (λn=>HJ (Ec (E8 AC6) 60 8 495 [.n 3,.n n]) (ME.getD n 0))=true:=by kernel_rfl
theorem AgB[HA K]{n:Nat}(h:n<6):K 495 [.n 3,.n n] [.n (ME.getD n 0)]:=run AC6 60 8 495 (IK (BY AaI n h))
theorem AcC:BR 6 (λn=>HJ (Ec (E8 AK4) 60 8 491 [.n n]) (MJ.getD n 0))=true:=by kernel_rfl
theorem AdC[HA K]{n:Nat}(h:n<6):K 491 [.n n] [.n (MJ.getD n 0)]:=run AK4 60 8 491 (IK (BY AcC n h))
theorem Ah8:BR 6 (λn=>HJ (Ec (E8 AG7) 60 8 496 [.n n]) (MJ.getD n 0))=true:=by kernel_rfl
theorem AWE[HA K]{n:Nat}(h:n<6):K 496 [.n n] [.n (MJ.getD n 0)]:=run AG7 60 8 496 (IK (BY Ah8 n h))
def I5(x:BT)(t:List BT)(j:Nat):Nat:=((List.range j).filter λk:Nat=>Cy x (Am t k)).length
theorem ARQ{x:BT}{t:List BT}{j:Nat}:I5 x t (j+1)=I5 x t j+if Cy x (Am t j)=true then 1 else 0:=by simp only[I5,List.range_succ,List.filter_append,AW];by_cases h:Cy x (Am t j)=true;simp[h];simp[h]
theorem ZK{x:BT}{t:List BT}{j:Nat}:I5 x t j<=j:=by have:=List.length_filter_le (λk:Nat=>Cy x (Am t k)) (List.range j);simpa[I5]using this
def Io(t:List BT):Nat->Nat
 |0=>0
 |i+1=>Io t i+I5 (Am t i) t t.length
theorem ASJ{t:List BT}:∀{i:Nat},Io t i<=i*t.length
 |0=>by simp[Io]
 |i+1=>by have h:=ASJ (t:=t) (i:=i);have H:=ZK (x:=Am t i) (t:=t) (j:=t.length);simp only[Io,Nat.add_mul,Nat.one_mul];omega
theorem AbG[HA K]{n:Nat}(h:n<=5):∃v:Int,0<=v/\v<=1764/\K 497 [.n n] [.n v]/\K 492 [.n n] [.n v]:=by
 obtain⟨t,l,T,B,ks⟩:=AEV (K:=K) (n:=n) h;have k:∀i,i<=t.length->Io t i<=1764:=λi hi=>by have C:=ASJ (t:=t) (i:=i);have F:i*t.length<=42*42:=Nat.mul_le_mul (by omega) l;omega
 have b:AR 0 5 (n:Int)=true:=A7.2 (by omega);refine⟨Io t t.length,by omega,by have:=k t.length (Nat.le_refl _);omega,?_,?_⟩;refine qw I497 ?_;refine cB Br ?_;rw[b];refine wW ?_;refine cB B ?_;simp(disch:=try exact dV) only[AD,List.length_map];refine Ah (λi (c:Int)=>c=Io t i) (λi c=>[.u,.u,.n c,D9 t,.u,.u,.u,D9 t,.n t.length,.n i,.u,.u,.u,.u,.u,.u]) t.length 0 rfl rfl (λi c hi a=>?_) (λc a=>?_);have b1:=k i (by omega);have f:=G5 hi;simp(disch:=try exact dV) only[AD,List.length_map,f];refine Ah (λj (e:Int)=>e=c+I5 (Am t i) t j) (λj e=>[.u,.u,.n e,D9 t,.s (Am t i).t,.u,.u,D9 t,.n t.length,.n i,.u,D9 t,.n t.length,.n j,.u,.u]) t.length c (by simp[I5]) rfl (λj e hj he=>?_) (λe he=>?_);have g:=G5 hj;have H:=ARQ (x:=Am t i) (t:=t) (j:=j);have o:=ZK (x:=Am t i) (t:=t) (j:=j);simp(disch:=try exact dV) only[AD,List.length_map,g];refine cB (N5 (T _ (Fu hi)) (T _ (Fu hj))) ?_
 cases q:Cy (Am t i) (Am t j)with
 |false=>
  rw[q,if_neg (by simp)]at H
  refine wW ?_
  exact⟨_,by rw[H,he];omega,rfl⟩
 |true=>
  rw[q,if_pos rfl]at H
  refine wW ?_
  exact⟨_,by rw[H,he];omega,rfl⟩
 refine wW ?_;exact⟨_,by rw[he,a];simp only[Io];omega,rfl⟩;refine wW ?_;rw[a];refine qw I492 ?_;refine cB Bt ?_;rw[b];refine wW ?_;refine cB ks ?_;simp(disch:=try exact dV) only[AD,List.length_map];refine Ah (λi (c:Int)=>c=Io t i) (λi c=>[.u,.u,D9 t,.n c,.n i,.u,.u,.u,.u,.u]) t.length 0 rfl rfl (λi c hi a=>?_) (λc a=>?_);have b1:=k i (by omega);have f:=G5 hi;simp(disch:=try exact dV) only[AD,List.length_map,f];refine Ah (λj (e:Int)=>e=c+I5 (Am t i) t j) (λj e=>[.u,.u,D9 t,.n e,.n i,.n j,.u,.u,.u,.u]) t.length c (by simp[I5]) rfl (λj e hj he=>?_) (λe he=>?_);have g:=G5 hj;have H:=ARQ (x:=Am t i) (t:=t) (j:=j);have o:=ZK (x:=Am t i) (t:=t) (j:=j);simp(disch:=try exact dV) only[AD,List.length_map,f,g];refine cB (NA (T _ (Fu hi)) (T _ (Fu hj))) ?_
 cases q:Cy (Am t i) (Am t j)with
 |false=>
  rw[q,if_neg (by simp)]at H
  refine wW ?_
  exact⟨_,by rw[H,he];omega,rfl⟩
 |true=>
  rw[q,if_pos rfl]at H
  refine wW ?_
  exact⟨_,by rw[H,he];omega,rfl⟩
 simp(disch:=try exact dV) only[AD,List.length_map];exact⟨_,by rw[he,a];simp only[Io];omega,rfl⟩;simp(disch:=try exact dV) only[AD,List.length_map];rw[a]
end Go.Cat
namespace Go.Cat
set_option maxRecDepth 100000
variable{K:Nat->List D->List D->Prop}
def O2(a:List Int)(s:List Bool):Prop:=∀j:Nat,j<a.length->CU s (j:Nat)=true->CU s (AB a (j:Nat))=true
theorem Ol{s:List Bool}{i j:Nat}(hi:i<s.length):(s.set i true).getD j false=if i=j then true else s.getD j false:=by simp only[Ap,List.getElem?_set];by_cases h:i=j;subst h;simp[hi];simp[h]
theorem Ah1{a:List Int}{s:List Bool}{n:Nat}(G:Ca a=true)(O:s.length=a.length)(hn:n<a.length)(C:O2 a s)(f:CU s (n:Nat)=false):
  Dp (Cf (Cf s (n:Nat) true) (AB a (n:Nat)) true)+2=Dp s/\O2 a (Cf (Cf s (n:Nat) true) (AB a (n:Nat)) true):=by
 obtain⟨q,I,Q⟩:=(HT G).2 n hn;have q:=A7.1 q;obtain⟨k,F⟩:=CJ q.1;rw[F]at I Q|-;have l:k≠n:=λe=>I (by rw[e]);have J:k<s.length:=by omega
 have c:s.getD k false=false:=by
  cases h:s.getD k false with
  |false=>rfl
  |true=>
   have:=C k (by omega) (by rw[Km];exact h)
   rw[Q,f]at this
   cases this
 rw[Km]at f;have M:=Sf (s:=s) (i:=n) (by omega) f;have N:=Sf (s:=s.set n true) (i:=k) (by rw[List.length_set];omega) (by rw[Ol (by omega),if_neg (λe=>l e.symm)];exact c);rw[Rf,Rf];refine⟨by omega,λj hj H=>?_⟩;rw[Km,Ol (by rw[List.length_set];omega),Ol (by omega)]at H;have g:∀m:Nat,CU ((s.set n true).set k true) (m:Nat)=if k=m then true else if n=m then true else s.getD m false:=λm=>by rw[Km,Ol (by rw[List.length_set];omega),Ol (by omega)]
 by_cases x:k=j
 .subst x;rw[Q,g];simp
 .by_cases B:n=j
  .subst B;rw[F,g];simp
  .rw[if_neg x,if_neg B]at H;have b:=C j hj (by rw[Km];exact H);have L:=A7.1 ((HT G).2 j hj).1;obtain⟨m,o⟩:=CJ L.1;rw[o]at b|-;rw[Km]at b;rw[g,b];simp
theorem AE1{a b:List Int}(g:Ca a=true)(k:KR b)(e:b.length=a.length):∀(f:Nat)(s:List Bool)(n:Nat),s.length=a.length->n<a.length->O2 a s->
  O2 a (Fq a b f s (n:Nat))/\Dp (Fq a b f s (n:Nat))<=Dp s/\(0<f->CU s (n:Nat)=false->Dp (Fq a b f s (n:Nat))+2<=Dp s)
 |0,s,n,_,_,c=>⟨c,Nat.le_refl _,λh=>absurd h (by omega)⟩
 |f+1,s,n,l,hn,c=>by
  simp only[Fq]
  cases B:CU s (n:Nat)with
  |true=>
   simp only[if_true]
   exact⟨c,Nat.le_refl _,λ_ h=>by cases h⟩
  |false=>
   simp only[Ig,if_false]
   obtain⟨C,o⟩:=Ah1 g l hn c B
   have q:=Mi g n hn
   have H:=QL k (x:=AB a (n:Nat)) (by omega)
   obtain⟨m,i⟩:=CJ H.1
   rw[i]at H|-
   have I:=AE1 g k e f (Cf (Cf s (n:Nat) true) (AB a (n:Nat)) true) m (by rw[G4,G4,l]) (by omega) o
   exact⟨I.1,by omega,λ_ _=>by omega⟩
theorem AT0{a b:List Int}(f:Ca a=true)(c:KR b)(H:b.length=a.length):∀i:Nat,i<=a.length->O2 a (DL a b i).1/\2*(DL a b i).2+Dp (DL a b i).1<=a.length
 |0,_=>by
  refine⟨λj hj h=>?_,?_⟩;rw[Km]at h;simp[DL,rep,hj]at h;have:=List.countP_le_length (p:=λb=>!b) (l:=rep a.length false);simp only[DL,Dp];have e:(rep a.length false).length=a.length:=by simp[rep]
  omega
 |i+1,hi=>by
  have I:=AT0 f c H i (by omega);have g:=(RM (a:=a) (b:=b) i).1;unfold DL
  cases x:CU (DL a b i).1 (i:Nat)with
  |true=>
   simp only[if_true]
   exact I
  |false=>
   simp only[Ig,if_false]
   have:=AE1 f c H (a.length+1) (DL a b i).1 i g (by omega) I.1
   have k:=this.2.2 (by omega) x
   exact⟨this.1,by omega⟩
theorem Ai0{a b:List Int}(c:Ca a=true)(H:KR b)(h:b.length=a.length):2*H7 a b<=a.length:=by have:=(AT0 c H h a.length (Nat.le_refl _)).2;simp only[H7];omega
def Jb(a:List Int)(ms:List (List Int))(o:List Int):Nat->List Int
 |0=>o
 |j+1=>BE (Jb a ms o j) (H7 a (AG ms (j:Nat)):Nat) (AB (Jb a ms o j) (H7 a (AG ms (j:Nat)):Nat)+1)
def Fm(ms:List (List Int))(n:Nat):Nat->List Int
 |0=>rep (n+1) 0
 |i+1=>Jb (AG ms (i:Nat)) ms (Fm ms n i) ms.length
theorem QY{a:List Int}{ms:List (List Int)}{o:List Int}:∀j,(Jb a ms o j).length=o.length
 |0=>rfl
 |j+1=>by simp only[Jb,DN,QY j]
theorem QA{ms:List (List Int)}{n:Nat}:∀i,(Fm ms n i).length=n+1
 |0=>by simp[Fm,rep]
 |i+1=>by simp only[Fm,QY,QA i]
def Ss(o:List Int)(k:Nat):Prop:=∀j:Nat,j<o.length->0<=AB o (j:Nat)/\AB o (j:Nat)<=k
theorem S9{a:List Int}{ms:List (List Int)}{o:List Int}{k:Nat}(h:Ss o k)(c:∀j:Nat,j<ms.length->H7 a (AG ms (j:Nat))<o.length):∀j,j<=ms.length->Ss (Jb a ms o j) (k+j)
 |0,_=>h
 |j+1,hj=>by have I:=S9 h c j (by omega);have H:=c j (by omega);have l:=QY (a:=a) (ms:=ms) (o:=o) j;intro i hi;simp only[Jb]at hi|-;rw[DN]at hi;rw[Hc (by omega)];have b:=I i hi;have e:=I (H7 a (AG ms (j:Nat))) (by omega);split<;>omega
theorem ARL{ms:List (List Int)}{n:Nat}(h:∀i j:Nat,i<ms.length->j<ms.length->H7 (AG ms (i:Nat)) (AG ms (j:Nat))<n+1):∀i,i<=ms.length->Ss (Fm ms n i) (i*ms.length)
 |0,_=>λj hj=>by
  simp only[Fm,rep,List.length_replicate]at hj|-;have e:(List.replicate (((n:Nat):Int)+1).toNat (0:Int))[j]?=some 0:=by rw[List.getElem?_replicate,if_pos hj]
  simp only[AB,BM,Ap];rw[e];simp
 |i+1,hi=>by have I:=ARL h i (by omega);have:=S9 (a:=AG ms (i:Nat)) (ms:=ms) I (λj hj=>by rw[QA];exact h i j (by omega) hj) ms.length (Nat.le_refl _);simp only[Fm,Nat.add_mul,Nat.one_mul];exact this
theorem Aa3:∀n:Nat,n<6->(AI n).length<=42:=by decide
theorem AV4{ws:List (List Nat)}{ms:List (List Int)}(h:Iu ws ms):∀i:Nat,i<ms.length->PP (AF ws i) (AG ms i):=λi hi=>AXI h i (by rw[<-UD h];exact hi)
theorem AZL[HA K]{n:Nat}(h:n<=5):∃l:List Int,l.length=n+1/\(∀x∈l,0<=x/\x<=1764)/\K 493 [.n n] [LI l,.b true]/\K 488 [.n n] [LI l,.b true]:=by
 obtain⟨_,⟨ms,rfl,F⟩,U⟩:=AlR (K:=K) (n:=n) (by omega);have C:=UD F;have Q:=Aa3 n (by omega);have B:AR 0 5 (n:Int)=true:=A7.2 (by omega);have s:∀i:Nat,i<ms.length->AK (AF (AI n) i)=true/\(AF (AI n) i).length=2*n:=λi hi=>apd (n:=n) (by omega) (AD4 (ws:=AI n) (i:=i) (by omega));have k:∀i:Nat,i<ms.length->PP (AF (AI n) i) (AG ms i):=AV4 F;have c:∀i:Nat,i<ms.length->ET (AG ms i)=true/\(AG ms i).length=2*n:=λi hi=>by have q:=s i hi;exact⟨AW9 (by omega) (k i hi),by rw[(k i hi).1];exact q.2⟩
 have f:∀i:Nat,i<ms.length->Ca (AG ms i)=true:=λi hi=>by have:=(c i hi).1;simp[ET]at this;exact this.1
 have H:∀i j:Nat,i<ms.length->j<ms.length->H7 (AG ms (i:Nat)) (AG ms (j:Nat))<n+1:=λi j hi hj=>by have:=Ai0 (f i hi) (Mi (f j hj)) (by rw[(c i hi).2,(c j hj).2]);rw[(c i hi).2]at this;omega
 have g:∀i,i<=ms.length->Ss (Fm ms n i) 1764:=λi hi j hj=>by have q:=ARL H i hi j hj;have I:i*ms.length<=42*42:=Nat.mul_le_mul (by omega) (by omega);omega
 refine⟨Fm ms n ms.length,QA _,λx R=>?_,?_,?_⟩;obtain⟨j,hj,e⟩:=List.getElem_of_mem R;have:=g ms.length (Nat.le_refl _) j hj;have O:AB (Fm ms n ms.length) (j:Nat)=x:=by simp[AB,hj,e]
 rw[O]at this;exact this;refine qw I493 ?_;refine cB Br ?_;rw[B];refine wW ?_;refine cW U ?_;refine AN (λ_=>True) (λi=>[.u,.u,.u,LI (Fm ms n i),LL ms,.u,.u,.u,LL ms,.n ms.length,.n i,.u,.u,.u,.u,.u]) ms.length trivial ?_ (λi hi _=>?_) (λ_=>?_);rfl;have N:=QA (ms:=ms) (n:=n) i;have b2:=g i (by omega);refine wW ?_;refine AN (λ_=>True) (λj=>[.u,.u,.u,LI (Jb (AG ms (i:Nat)) ms (Fm ms n i) j),LL ms,LI (AG ms (i:Nat)),.u,.u,LL ms,.n ms.length,.n i,.u,LL ms,.n ms.length,.n j,.u]) ms.length trivial rfl (λj hj _=>?_) (λ_=>?_);have W:=QY (a:=AG ms (i:Nat)) (ms:=ms) (o:=Fm ms n i) j;have J:=H i j hi hj;have b1:=S9 (a:=AG ms (i:Nat)) (ms:=ms) b2 (λj hj=>by rw[N];exact H i j hi hj) j (by omega) (H7 (AG ms (i:Nat)) (AG ms (j:Nat))) (by omega);have q:=c i hi;have I:=c j hj;refine wW ?_;exact cZ (AUP (by omega) (by omega) (Mi (f i hi)) (Mi (f j hj)));exact wZ;exact wZ;have V:=Sy (K:=K) (n:=n) (by omega);refine qw I488 ?_;refine cB Bt ?_;rw[B];refine wW ?_;refine cW V ?_;refine AN (λ_=>True) (λi=>[.n n,.u,.u,LS (AI n),LL (ms.take i),.n i,.u,.u,.u,.u,.u,.u,.u,.u,.u]) (AI n).length trivial rfl (λi hi _=>?_) (λ_=>?_);have M:=k i (by omega);have L:=s i (by omega);have P:(ms.take i).length=i:=by rw[List.length_take];omega
 have G:ms.take (i+1)=ms.take i++[AG ms (i:Nat)]:=by rw[CQ (by omega)];simp[AG,show i<ms.length by omega]
 rw[G];obtain⟨zs,T⟩:∃zs,zs=ms.take i:=⟨_,rfl⟩;rw[<-T]at P|-;refine wW ?_;refine cB (Xc L.1 M) ?_;simp(disch:=try exact dV) only[AD,O8];rw[<-C,List.take_length];refine wW ?_;refine AN (λ_=>True) (λi=>[.u,.u,.u,.u,LL ms,.u,.u,LI (Fm ms n i),.n i,.u,.u,.u,.u,.u,.u]) ms.length trivial ?_ (λi hi _=>?_) (λ_=>?_);rfl;have N:=QA (ms:=ms) (n:=n) i;have b2:=g i (by omega);refine wW ?_;refine AN (λ_=>True) (λj=>[.u,.u,.u,.u,LL ms,.u,.u,LI (Jb (AG ms (i:Nat)) ms (Fm ms n i) j),.n i,.n j,.u,.u,.u,.u,.u]) ms.length trivial rfl (λj hj _=>?_) (λ_=>?_);have W:=QY (a:=AG ms (i:Nat)) (ms:=ms) (o:=Fm ms n i) j;have J:=H i j hi hj;have b1:=S9 (a:=AG ms (i:Nat)) (ms:=ms) b2 (λj hj=>by rw[N];exact H i j hi hj) j (by omega) (H7 (AG ms (i:Nat)) (AG ms (j:Nat))) (by omega);have q:=c i hi;have I:=c j hj;refine wW ?_;exact cZ (AmB q.1 I.1 (by omega));exact wZ;exact wZ
end Go.Cat
namespace Go.Cat
set_option maxRecDepth 100000
variable{K:Nat->List D->List D->Prop}
theorem AbJ{h i a2 k l o q x B C a b c e f g:List Nat}:DK [.s h,.s i,.s a2,.s k,.s l,.s o,.s q,.s x,.s B,.s C,.s a,.s b,.s c,.s e,.s f,.s g]=some (LS [h,i,a2,k,l,o,q,x,B,C,a,b,c,e,f,g]):=rfl
theorem AUV:∀n,n<6->(0<=JT.getD n 0/\JT.getD n 0<=100000)/\(0<=Ll.getD n 0/\Ll.getD n 0<=100000)/\(0<=ME.getD n 0/\ME.getD n 0<=100000)/\(0<=MJ.getD n 0/\MJ.getD n 0<=100000)/\(0<=LJ.getD n 0/\LJ.getD n 0<=100000):=by decide
theorem AYT[HA K][Jz K]{n:Nat}(h:n<=5):∃v,(v≠[]/\Nw v)/\K 456 [.n n] [.s v]/\K 455 [.n n] [.s v]:=by
 obtain⟨b1,b2,O,Q,R⟩:=AUV n (by omega);obtain⟨i,G,I,a,b⟩:=AbG (K:=K) h;obtain⟨l,l1,L,li,N⟩:=AZL (K:=K) h;have k:=Ai4 (K:=K) (n:=n) (by omega);have o:=AiV (K:=K) (n:=n) (by omega);have x:=Jz.sch (K:=K) n h;have B:=AaY (K:=K) (n:=n) (by omega);have F:=AgB (K:=K) (n:=n) (by omega);have e:=AgU (K:=K) (n:=n) (by omega);have P:=AWE (K:=K) (n:=n) (by omega);have q:=AdC (K:=K) (n:=n) (by omega);have c:=AN7 (K:=K) (n:=n) (by omega);have C:=AGM (K:=K) (n:=n) (by omega);generalize JT.getD n 0=ca at*;generalize Ll.getD n 0=sh at*;generalize ME.getD n 0=f at*;generalize MJ.getD n 0=pk at*;generalize LJ.getD n 0=M at*;have hi:HQ l:=λy J=>by have:=L y J;omega
 have H:AR 0 5 (n:Int)=true:=A7.2 (by omega);have T:=Aw (n:=(n:Int)) (by omega);have U:=Aw (n:=ca) (by omega);have f3:=Aw (n:=M) (by omega);have V:=Aw (n:=sh) (by omega);have W:=Aw (n:=f) (by omega);have Y:=Aw (n:=pk) (by omega);have Z:=Aw (n:=i) (by omega);have f8:=JN hi;refine⟨[115,105,122,101,32]++AQ n++[32,99,97,116,97,108,97,110,32]++AQ ca++[32,109,111,116,122,107,105,110,32]++AQ M++[32,115,99,104,114,111,101,100,101,114,32]++AQ sh++[32,116,101,114,110,97,114,121,32]++AQ f++[32,112,97,114,107,105,110,103,32]++AQ pk++[32,105,110,116,101,114,118,97,108,115,32]++AQ i++[32,108,111,111,112,115,32]++EP l,⟨by simp,by simp;omega,by simp[Fh,Su]⟩,?_,?_⟩;refine qw ALS ?_;refine cB Br ?_;rw[H];refine wW ?_;refine cW li ?_;refine cW (C8 (by omega)) ?_;refine cW c ?_;refine cW (C8 (by omega)) ?_;refine cW k ?_;refine cW (C8 (by omega)) ?_;refine cW x ?_;refine cW (C8 (by omega)) ?_;refine cW F ?_;refine cW (C8 (by omega)) ?_;refine cW P ?_;refine cW (C8 (by omega)) ?_;refine cW a ?_;refine cW (C8 (by omega)) ?_;refine cB (PY (by omega) hi) ?_;simp(disch:=try exact dV) only[AD,AbJ];have g:=IM (K:=K) (ws:=[[115,105,122,101],AQ n,[99,97,116,97,108,97,110],AQ ca,[109,111,116,122,107,105,110],AQ M,[115,99,104,114,111,101,100,101,114],AQ sh,[116,101,114,110,97,114,121],AQ f,[112,97,114,107,105,110,103],AQ pk,[105,110,116,101,114,118,97,108,115],AQ i,[108,111,111,112,115],EP l]) (by simp) (by simp;omega);refine cW g ?_;simp[glue,BH,AF];refine qw AIJ ?_;refine cB Bt ?_;rw[H];refine wW ?_;refine cW N ?_;refine cW (CB (by omega)) ?_;refine cW C ?_;refine cW (CB (by omega)) ?_;refine cW o ?_;refine cW (CB (by omega)) ?_;refine cW B ?_;refine cW (CB (by omega)) ?_;refine cW e ?_;refine cW (CB (by omega)) ?_;refine cW q ?_;refine cW (CB (by omega)) ?_;refine cW b ?_;refine cW (CB (by omega)) ?_;exact cZ (QU (by omega) hi)
theorem AU2[HA K][Jz K](a:Int):∃v,Nw v/\K 456 [.n a] [.s v]/\K 455 [.n a] [.s v]:=by by_cases h:0<=a/\a<=5;obtain⟨m,rfl⟩:=CJ h.1;obtain⟨v,H,k⟩:=AYT (K:=K) (n:=m) (by omega);exact⟨v,H.2,k⟩;have e:AR 0 5 a=false:=JS.2 h;refine⟨[],⟨by simp,by simp⟩,?_,?_⟩;refine qw ALS ?_;refine cB Br ?_;rw[e];exact wZ;refine qw AIJ ?_;refine cB Bt ?_;rw[e];exact wZ
end Go.Cat
namespace Go.Cat
def kq(f:Nat->Int):Nat->Int
 |0=>0
 |1=>1
 |m+2=>f m*kq f (m+1)-kq f m
theorem Ox{f g:Nat->Int}:∀m,(∀t,t+2<=m->f t=g t)->kq f m=kq g m
 |0,_=>rfl
 |1,_=>rfl
 |m+2,h=>by simp only[kq];rw[Ox (m+1) λt H=>h t (by omega),Ox m λt H=>h t (by omega),h m (by omega)]
def wv(A:Nat->Int)(a b:Int):Nat->Int
 |0=>a
 |1=>b
 |v+2=>A (v+1)*wv A a b (v+1)-wv A a b v
def dt(x y:Nat->Int)(u t:Nat):Int:=x u*y t-y u*x t
def Gu(A x:Nat->Int):Prop:=∀v,x (v+2)=A (v+1)*x (v+1)-x v
theorem Cn{A:Nat->Int}{a b:Int}:Gu A (wv A a b):=λ_=>rfl
theorem Ms{x y:Nat->Int}{u:Nat}:dt x y u u=0:=by unfold dt;grind
theorem JB{A x y:Nat->Int}(h:Gu A x)(H:Gu A y){u t:Nat}:dt x y u (t+2)=A (t+1)*dt x y u (t+1)-dt x y u t:=by simp only[dt,h t,H t];grind
theorem Aj0{A x y:Nat->Int}(h:Gu A x)(H:Gu A y){u t:Nat}:dt x y (u+2) t=A (u+1)*dt x y (u+1) t-dt x y u t:=by simp only[dt,h u,H u];grind
theorem Th{A x y:Nat->Int}(h:Gu A x)(H:Gu A y)(h0:dt x y 0 1=1):∀u,dt x y u (u+1)=1
 |0=>h0
 |u+1=>by have:=Th h H h0 u;simp only[dt,h u,H u]at this|-;grind
theorem RR{A x y:Nat->Int}(h:Gu A x)(H:Gu A y)(h0:∀u,dt x y u (u+1)=1):∀m u,dt x y u (u+m)=kq (λt=>A (u+1+t)) m
 |0,_=>Ms
 |1,u=>h0 u
 |m+2,u=>by rw[show u+(m+2)=u+m+2 from rfl,JB h H,show u+m+1=u+(m+1)from rfl,RR h H h0 (m+1) u,RR h H h0 m u];simp only[kq];rw[show u+(m+1)=u+1+m by omega]
abbrev dq(A:Nat->Int)(u t:Nat):Int:=dt (wv A 1 0) (wv A 0 1) u t
theorem MX{A:Nat->Int}(u:Nat):dq A u (u+1)=1:=Th Cn Cn (by simp[dt,wv]) u
theorem Pq{A:Nat->Int}(m u:Nat):dq A u (u+m)=kq (λt=>A (u+1+t)) m:=RR Cn Cn MX m u
def pz(n:Nat):Prop:=n=4\/n=5\/n=6\/n=7\/n=8\/n=9\/n=10
def sg(n j:Nat):Nat->Nat
 |0=>if j=0 then 1 else 0
 |v+1=>if(sg n j v+1)%n=j then sg n j v+2 else sg n j v+1
section
variable{n j:Nat}(hn:pz n)(hj:j<n)
include hn hj
theorem Qs:∀v,sg n j v%n≠j
 |0=>by unfold sg;rcases hn with rfl|rfl|rfl|rfl|rfl|rfl|rfl<;>split<;>omega
 |v+1=>by have:=Qs v;unfold sg;generalize sg n j v=s at this|-;rcases hn with rfl|rfl|rfl|rfl|rfl|rfl|rfl<;>split<;>omega
theorem ASE(s:Nat)(h:s%n≠j):∃p,1<=p/\p<n/\(s+p)%n=j:=by refine⟨(j+n-s%n)%n,?_⟩;rcases hn with rfl|rfl|rfl|rfl|rfl|rfl|rfl<;>omega
theorem Ab7{s a b:Nat}(h:(s+a)%n=j)(H:(s+b)%n=j)(c:a<b+n)(e:b<a+n):a=b:=by rcases hn with rfl|rfl|rfl|rfl|rfl|rfl|rfl<;>omega
theorem R3{v p:Nat}(H:1<=p)(c:p<n)(h:(sg n j v+p)%n=j):∀m,m<n->sg n j (v+m)=sg n j v+m+(if p<=m then 1 else 0)
 |0,_=>by simp;omega
 |m+1,f=>by
  have I:=R3 H c h m (by omega);have e:sg n j (v+(m+1))=if(sg n j (v+m)+1)%n=j then sg n j (v+m)+2 else sg n j (v+m)+1:=rfl;rw[e,I];have i:=λa=>Ab7 hn hj (s:=sg n j v) (a:=a) (b:=p);generalize sg n j v=s at*;by_cases q:p<=m;simp only[if_pos q,if_pos (show p<=m+1 by omega)];rw[if_neg (λe=>?_)];omega;have:=i (m+2) (by rw[<-e];congr 1) h (by omega) (by omega);omega;simp only[if_neg q];by_cases Q:p=m+1;have:(s+m+0+1)%n=j:=by rw[<-h,Q];congr 1
  rw[if_pos this,if_pos (by omega)];omega;rw[if_neg (λe=>?_),if_neg (by omega)];omega;have:=i (m+1) (by rw[<-e];congr 1) h (by omega) (by omega);omega
end
structure Gv(n j:Nat)(A A':Nat->Int):Prop where
 z:pz n
 lt:j<n
 one:∀k,k%n=j->A k=1
 a:∀v,A' v=A (sg n j v)-(if(sg n j v+1)%n=j then 1 else 0)-(if(sg n j v+n-1)%n=j then 1 else 0)
theorem Gv.flw{n j:Nat}{A c x:Nat->Int}(h:Gv n j A c)(H:Gu A x):Gu c (λv=>x (sg n j v)):=by
 intro v;show x (sg n j (v+2))=c (v+1)*x (sg n j (v+1))-x (sg n j v);rw[h.a (v+1)];have g:=Qs h.z h.lt v;have f:sg n j (v+2)=if(sg n j (v+1)+1)%n=j then sg n j (v+1)+2 else sg n j (v+1)+1:=rfl;have e:sg n j (v+1)=if(sg n j v+1)%n=j then sg n j v+2 else sg n j v+1:=rfl;rw[f,e];generalize sg n j v=s at g;have hn:=h.z;have hj:=h.lt;by_cases C:(s+1)%n=j
 rw[if_pos C,if_neg (show ¬(s+2+1)%n=j by rcases hn with rfl|rfl|rfl|rfl|rfl|rfl|rfl<;>omega),if_neg (show ¬(s+2+1)%n=j by rcases hn with rfl|rfl|rfl|rfl|rfl|rfl|rfl<;>omega),
  if_pos (show(s+2+n-1)%n=j by rcases hn with rfl|rfl|rfl|rfl|rfl|rfl|rfl<;>omega)]
 have k:=H s;have b:=H (s+1);rw[h.one _ C]at k;rw[show s+2+1=s+1+2 from rfl,b];grind;rw[if_neg C];rw[if_neg (show ¬(s+1+n-1)%n=j by rcases hn with rfl|rfl|rfl|rfl|rfl|rfl|rfl<;>omega)];by_cases c2:(s+1+1)%n=j;rw[if_pos c2,if_pos c2];have k:=H s;have b:=H (s+1);rw[show s+1+1=s+2 from rfl]at c2 b;rw[h.one _ c2]at b;rw[show s+1+2=s+1+2 from rfl,b,k];grind;rw[if_neg c2,if_neg c2];have k:=H s;rw[show s+1+1=s+2 from rfl,k];grind
theorem Gv.one1{n j:Nat}{A a x y:Nat->Int}(h:Gv n j A a)(b:Gu A x)(f:Gu A y)(H:∀u,dt x y u (u+1)=1)(v:Nat):dt (λv=>x (sg n j v)) (λv=>y (sg n j v)) v (v+1)=1:=by show dt x y (sg n j v) (sg n j (v+1))=1;have e:sg n j (v+1)=if(sg n j v+1)%n=j then sg n j v+2 else sg n j v+1:=rfl;rw[e];by_cases c:(sg n j v+1)%n=j;rw[if_pos c,JB b f,h.one _ c,H,Ms];omega;rw[if_neg c,H]
theorem Gv.dq{n j:Nat}{A a:Nat->Int}(h:Gv n j A a)(v m:Nat):dq A (sg n j v) (sg n j (v+m))=dq a v (v+m):=by rw[Pq,<-RR (h.flw Cn) (h.flw Cn) (h.one1 Cn Cn MX) m v]<;>rfl
def GR(n:Nat)(M:Int)(A:Nat->Int):Prop:=∀u,(∀m,1<=m->m<n->1<=Cat.dq A u (u+m)/\Cat.dq A u (u+m)<=M)/\Cat.dq A u (u+(n-1))=1/\Cat.dq A u (u+n)=0
theorem Gv.cut{n j:Nat}{A a:Nat->Int}{M:Int}(h:Gv n j A a)(H:GR n M A):GR (n-1) M a:=by
 intro v;have e:4<=n:=by rcases h.z with rfl|rfl|rfl|rfl|rfl|rfl|rfl<;>omega
 obtain⟨f,F,f3⟩:=H (sg n j v);obtain⟨p,l,o,P⟩:=ASE h.z h.lt _ (Qs h.z h.lt v);have sa:=R3 h.z h.lt l o P;refine⟨λm i q=>?_,?_,?_⟩;rw[<-h.dq,sa m (by omega)];split;exact f (m+1) (by omega) (by omega);exact f m i (by omega);rw[<-h.dq,sa (n-1-1) (by omega)];split;rw[show sg n j v+(n-1-1)+1=sg n j v+(n-1) by omega];exact F;have g:p=n-1:=by omega
 subst g;have k:=JB (A:=A) (x:=wv A 1 0) (y:=wv A 0 1) Cn Cn (u:=sg n j v) (t:=sg n j v+(n-1-1));rw[show sg n j v+(n-1-1)+2=sg n j v+n by omega,show sg n j v+(n-1-1)+1=sg n j v+(n-1) by omega,h.one _ P]at k;have b:=F;have c:=f3;show Cat.dq A (sg n j v) (sg n j v+(n-1-1))=1;simp only[Cat.dq]at*;omega;rw[<-h.dq,sa (n-1) (by omega),if_pos (by omega),show sg n j v+(n-1)+1=sg n j v+n by omega];exact f3
theorem Y3(n j v:Nat):sg n j (v+1)=if(sg n j v+1)%n=j then sg n j v+2 else sg n j v+1:=rfl
theorem ABW{n j:Nat}:∀d,(∃v,sg n j v=sg n j 0+d)\/((sg n j 0+d)%n=j/\∃v,sg n j v+1=sg n j 0+d/\sg n j (v+1)=sg n j 0+d+1)
 |0=>.inl ⟨0,rfl⟩
 |d+1=>by have st:=Y3 n j;rcases ABW (n:=n) (j:=j) d with⟨v,H⟩|⟨a,v,H,h⟩;have e:=st v;rw[H]at e;by_cases c:(sg n j 0+d+1)%n=j;rw[if_pos c]at e;exact .inr ⟨c,v,by omega,by rw[e];omega⟩;rw[if_neg c]at e;exact .inl ⟨v+1,by rw[e];omega⟩;exact .inl ⟨v+1,by rw[h];omega⟩
theorem Gv.AgO{n j:Nat}{A a:Nat->Int}{M:Int}(h:Gv n j A a)(Z:1<=M)(N:GR (n-1) M a)(u:Nat)(hu:sg n j 0<=u):
  (∀m,1<=m->m<n->1<=Cat.dq A u (u+m)/\Cat.dq A u (u+m)<=2*M)/\Cat.dq A u (u+(n-1))=1/\Cat.dq A u (u+n)=0:=by
 have U:4<=n:=by rcases h.z with rfl|rfl|rfl|rfl|rfl|rfl|rfl<;>omega
 have f:∀A u,Cat.dq A u u=0:=λ_ _=>Ms;have H:∀A u t,Cat.dq A u (t+2)=A (t+1)*Cat.dq A u (t+1)-Cat.dq A u t:=λ_ _ _=>JB Cn Cn;have l:∀A u t,Cat.dq A (u+2) t=A (u+1)*Cat.dq A (u+1) t-Cat.dq A u t:=λ_ _ _=>Aj0 Cn Cn;have hd:=h.dq;rcases ABW (n:=n) (j:=j) (u-sg n j 0)with⟨v,o⟩|⟨c,v,o,e⟩
 .rw[show sg n j 0+(u-sg n j 0)=u by omega]at o;subst o;obtain⟨p,W,Y,P⟩:=ASE h.z h.lt _ (Qs h.z h.lt v);have sa:=R3 h.z h.lt W Y P;obtain⟨G,x,g⟩:=N v;have L:∀m,m<p->Cat.dq A (sg n j v) (sg n j v+m)=Cat.dq a v (v+m):=λm Q=>by rw[<-hd,sa m (by omega),if_neg (by omega)]<;>rfl
  have C:∀m,p<=m->m<n->Cat.dq A (sg n j v) (sg n j v+(m+1))=Cat.dq a v (v+m):=λm Q O=>by rw[<-hd,sa m O,if_pos Q]<;>rfl
  have T:Cat.dq A (sg n j v) (sg n j v+p)=Cat.dq a v (v+(p-1))+Cat.dq a v (v+p):=by have k:=H A (sg n j v) (sg n j v+(p-1));rw[show sg n j v+(p-1)+2=sg n j v+(p+1) by omega,show sg n j v+(p-1)+1=sg n j v+p by omega,h.one _ P,L (p-1) (by omega),C p (by omega) (by omega)]at k;omega
  generalize sg n j v=s at*;refine⟨λm b i=>?_,?_,?_⟩
  .rcases Nat.lt_trichotomy m p with q|q|q
   .rw[L m q];have:=G m b (by omega);omega
   .subst q;rw[T];have V:m-1=0/\Cat.dq a v (v+(m-1))=0\/1<=Cat.dq a v (v+(m-1))/\Cat.dq a v (v+(m-1))<=M:=by by_cases q:m-1=0;exact .inl ⟨q,by rw[q];exact f _ _⟩;exact .inr (G (m-1) (by omega) (by omega))
    have B:m=n-1/\Cat.dq a v (v+m)=0\/1<=Cat.dq a v (v+m)/\Cat.dq a v (v+m)<=M:=by by_cases q:m=n-1;exact .inl ⟨q,by rw[q];exact g⟩;exact .inr (G m b (by omega))
    omega
   .have:=C (m-1) (by omega) (by omega);rw[show m-1+1=m by omega]at this;rw[this];have:=G (m-1) (by omega) (by omega);omega
  .by_cases q:p=n-1
   .rw[<-q,T,q,g,show n-1-1=n-1-1 from rfl,x]<;>rfl
   .have:=C (n-2) (by omega) (by omega);rw[show n-2+1=n-1 by omega]at this;rw[this,show n-2=n-1-1 by omega,x]
  .have:=C (n-1) (by omega) (by omega);rw[show n-1+1=n by omega]at this;rw[this,g]
 .rw[show sg n j 0+(u-sg n j 0)=u by omega]at o e c;have P:(sg n j v+1)%n=j:=by rw[o];exact c
  have sa:=R3 h.z h.lt (Nat.le_refl 1) (by omega) P;obtain⟨G,x,g⟩:=N v;obtain⟨F,I,J⟩:=N (v+1);have R:∀t,Cat.dq A u t=Cat.dq A (sg n j v) t+Cat.dq A (u+1) t:=λt=>by have k:=l A (sg n j v) t;rw[h.one _ P,show sg n j v+2=u+1 by omega,show sg n j v+1=u by omega]at k;omega
  have sv:∀m,1<=m->m<n->sg n j (v+m)=u+m:=λm b i=>by rw[sa m i,if_pos b];omega
  have L:∀m,1<=m->m<n->Cat.dq A u (u+m)=Cat.dq a v (v+m)+Cat.dq a (v+1) (v+1+(m-1)):=λm b i=>by rw[R,<-hd,<-hd,sv m b i,e,show v+1+(m-1)=v+m by omega,sv m b i]
  have en:Cat.dq A u (u+(n-1))=1:=by rw[L (n-1) (by omega) (by omega),g,I]<;>rfl
  refine⟨λm b i=>?_,en,?_⟩
  .rw[L m b i];have V:m-1=0/\Cat.dq a (v+1) (v+1+(m-1))=0\/1<=Cat.dq a (v+1) (v+1+(m-1))/\Cat.dq a (v+1) (v+1+(m-1))<=M:=by by_cases q:m-1=0;exact .inl ⟨q,by rw[q];exact f _ _⟩;exact .inr (F (m-1) (by omega) (by omega))
   have B:m=n-1/\Cat.dq a v (v+m)=0\/1<=Cat.dq a v (v+m)/\Cat.dq a v (v+m)<=M:=by by_cases q:m=n-1;exact .inl ⟨q,by rw[q];exact g⟩;exact .inr (G m b (by omega))
   omega
  .have c2:(u+n)%n=j:=by rw[Nat.add_mod_right];exact c
   have k:=H A u (u+(n-1));rw[show u+(n-1)+1=u+n by omega,h.one _ c2,en]at k;have sn:sg n j (v+n)=u+(n-1)+2:=by have q:=Y3 n j (v+(n-1));rw[sv (n-1) (by omega) (by omega),show u+(n-1)+1=u+n by omega,if_pos c2,show v+(n-1)+1=v+n by omega]at q;exact q
   have B:=R (u+(n-1)+2);rw[<-sn,hd,<-e,show v+n=v+1+(n-1) by omega,hd,J,show v+1+(n-1)=v+(n-1-1)+2 by omega,H a,show v+(n-1-1)+1=v+(n-1) by omega,g,x]at B;rw[show v+(n-1-1)+2=v+n by omega,sn]at B;omega
theorem Ae0{n:Nat}{A:Nat->Int}(h:∀k,A (k+n)=A k)(u m:Nat):Cat.dq A (u+n) (u+n+m)=Cat.dq A u (u+m):=by rw[Pq,Pq];exact Ox m λt _=>by rw[<-h (u+1+t)];congr 1;omega
theorem Gv.glue{n j:Nat}{A a:Nat->Int}{M:Int}(h:Gv n j A a)(c:∀k,A (k+n)=A k)(H:1<=M)(f:GR (n-1) M a):GR n (2*M) A:=by
 intro u;have e:sg n j 0<=1:=by unfold sg;split<;>omega
 have b:4<=n:=by rcases h.z with rfl|rfl|rfl|rfl|rfl|rfl|rfl<;>omega
 have:=h.AgO H f (u+n) (by omega);simpa only[Ae0 c]using this
theorem GR.one{n:Nat}{M:Int}{A:Nat->Int}(hn:3<=n)(h:GR n M A):∃k,A (k+1)=1:=by
 have H:∀u,Cat.dq A u (u+2)=A (u+1):=λu=>by have:=JB (A:=A) (x:=wv A 1 0) (y:=wv A 0 1) Cn Cn (u:=u) (t:=u);simp only[Cat.dq];rw[this,Ms,Th Cn Cn (by simp[dt,wv])];omega
 by_cases q:∀k,2<=A (k+1);exfalso;have:∀m,0<=Cat.dq A 0 m/\Cat.dq A 0 m+1<=Cat.dq A 0 (m+1):=by
  intro m;induction m with
  |zero=>simp[Cat.dq,dt,wv]
  |succ m i=>
   have k:Cat.dq A 0 (m+2)=A (m+1)*Cat.dq A 0 (m+1)-Cat.dq A 0 m:=JB Cn Cn
   have f:=Int.mul_le_mul_of_nonneg_right (q m) (show 0<=Cat.dq A 0 (m+1) by omega)
   rw[show m+1+1=m+2 from rfl,k]
   omega
 have a:=(this (n-1)).1;have b:=(this (n-1)).2;have c:=(h 0).2.2;rw[show n-1+1=n by omega]at b;rw[Nat.zero_add]at c;omega;simp only[Classical.not_forall]at q;obtain⟨k,e⟩:=q;refine⟨k,?_⟩;have:=((h k).1 2 (by omega) (by omega)).1;rw[H]at this;omega
theorem GR.tri{M:Int}{A:Nat->Int}(a:1<=M):GR 3 M A↔∀k,A (k+1)=1:=by
 have H:∀u,Cat.dq A u (u+2)=A (u+1):=λu=>by have:=JB (A:=A) (x:=wv A 1 0) (y:=wv A 0 1) Cn Cn (u:=u) (t:=u);simp only[Cat.dq];rw[this,Ms,Th Cn Cn (by simp[dt,wv])];omega
 constructor;intro f k;rw[<-H];exact(f k).2.1;intro h u;have k:Cat.dq A u (u+3)=A (u+2)*Cat.dq A u (u+2)-Cat.dq A u (u+1):=JB Cn Cn;rw[H,MX,h u,h (u+1)]at k;refine⟨λm b c=>?_,?_,by rw[k];rfl⟩;obtain rfl|rfl:m=1\/m=2:=by omega
 rw[MX];omega;rw[H,h];omega;rw[show u+(3-1)=u+2 from rfl,H,h]
end Go.Cat
namespace Go.Cat
def qa(q:List Int)(i:Nat):Int:=AB q ((i%q.length:Nat):Int)
theorem ALL{q:List Int}(k:Nat):qa q (k+q.length)=qa q k:=by simp[qa]
def D8(n j:Nat):Nat:=(j+n-1)%n
def FG(n j:Nat):Nat:=(j+1)%n
def Ku(q:List Int)(j:Nat):List Int:=BE (BE q (D8 q.length j:Nat) (AB q (D8 q.length j:Nat)-1)) (FG q.length j:Nat) (AB (BE q (D8 q.length j:Nat) (AB q (D8 q.length j:Nat)-1)) (FG q.length j:Nat)-1)
def IP{α:Type}(l:List α)(j:Nat):List α:=l.take j++l.drop (j+1)
def H6(q:List Int)(j:Nat):List Int:=IP (Ku q j) j
theorem Pf{l:List Int}{i x:Int}:(BE l i x).length=l.length:=by simp[BE]
theorem M1{q:List Int}{j:Nat}:(Ku q j).length=q.length:=by simp[Ku,BE]
theorem AO2{α:Type}{l:List α}{j:Nat}(h:j<l.length):(IP l j).length=l.length-1:=by simp[IP];omega
theorem Nx{q:List Int}{j:Nat}(h:j<q.length):(H6 q j).length=q.length-1:=by rw[H6,AO2 (by rw[M1];exact h),M1]
theorem P6{l:List Int}{i k:Nat}{x:Int}(h:i<l.length):AB (BE l (i:Int) x) (k:Int)=if k=i then x else AB l (k:Int):=by simp only[AB,BE,BM,Ap,List.getElem?_set];by_cases q:i=k;subst q;simp[h];simp[q,Ne.symm q]
theorem Aj2{l:List Int}{j k:Nat}(h:j<l.length):AB (IP l j) (k:Int)=if k<j then AB l (k:Int)else AB l ((k+1:Nat):Int):=by simp only[AB,IP,BM,Ap];by_cases q:k<j;rw[if_pos q,D4 (by simp;omega),List.getElem?_take,if_pos q];rw[if_neg q,GX (by simp;omega)];simp only[List.length_take,List.getElem?_drop];congr 2;omega
theorem Sn{q:List Int}{j k:Nat}(H:3<=q.length)(hj:j<q.length):AB (Ku q j) (k:Int)=AB q (k:Int)-(if k=D8 q.length j then 1 else 0)-(if k=FG q.length j then 1 else 0):=by
 have a:D8 q.length j<q.length:=Nat.mod_lt _ (by omega);have b:FG q.length j<q.length:=Nat.mod_lt _ (by omega);have c:D8 q.length j≠FG q.length j:=by
  unfold D8 FG;generalize q.length=n at*;rcases BQ (j+1) n with h|h;rw[Nat.mod_eq_of_lt h]
  cases j with
  |zero=>rw[Nat.mod_eq_of_lt (by omega)];omega
  |succ j=>rw[show j+1+n-1=j+n by omega,Nat.add_mod_right,Nat.mod_eq_of_lt (by omega)];omega
  obtain rfl:n=j+1:=by omega
  rw[Nat.mod_self,show j+(j+1)-1=j-1+(j+1) by omega,Nat.add_mod_right,Nat.mod_eq_of_lt (by omega)];omega
 rw[Ku,P6 (by rw[Pf];exact b),P6 a,P6 a];split;rename_i h;subst h;rw[if_neg (Ne.symm c),if_neg (Ne.symm c)];omega;split;rename_i h;subst h;omega;omega
theorem AN0{n j:Nat}(hn:pz n)(hj:j<n):∀v,sg n j v%n=if v%(n-1)<j then v%(n-1)else v%(n-1)+1
 |0=>by unfold sg;rw[Nat.zero_mod];rcases hn with rfl|rfl|rfl|rfl|rfl|rfl|rfl<;>split<;>split<;>omega
 |v+1=>by have:=AN0 hn hj v;rw[Y3];generalize sg n j v=s at this;rcases hn with rfl|rfl|rfl|rfl|rfl|rfl|rfl<;>simp only[Nat.add_one_sub_one]at this|-<;>split at this<;>split<;>split<;>omega
theorem ATA{q:List Int}{j:Nat}(H:pz q.length)(hj:j<q.length)(a:AB q (j:Int)=1):Gv q.length j (qa q) (qa (H6 q j)):=by
 have f:4<=q.length:=by rcases H with h|h|h|h|h|h|h<;>omega
 refine⟨H,hj,λk b=>by rw[qa,b,a],λv=>?_⟩;have e:=AN0 H hj v;have g:v%(q.length-1)<q.length-1:=Nat.mod_lt _ (by omega);have c:∀s,((s+1)%q.length=j↔s%q.length=D8 q.length j):=λs=>by unfold D8;generalize q.length=n at H hj;rcases H with rfl|rfl|rfl|rfl|rfl|rfl|rfl<;>omega
 have c2:∀s,((s+q.length-1)%q.length=j↔s%q.length=FG q.length j):=λs=>by unfold FG;generalize q.length=n at H hj;rcases H with rfl|rfl|rfl|rfl|rfl|rfl|rfl<;>omega
 simp only[c,c2];rw[qa,qa,Nx hj,H6,Aj2 (by rw[M1];exact hj),Sn (by omega) hj,Sn (by omega) hj,e];split<;>rfl
def Bk(q:List Int):Nat:=q.findIdx (λx=>x==1)
def Hp:Nat->List Int->Bool
 |0,q=>q==[1,1,1]
 |f+1,q=>decide (Bk q<q.length)&&Hp f (H6 q (Bk q))
theorem UN{q:List Int}(h:Bk q<q.length):AB q (Bk q:Nat)=1:=by have:=List.findIdx_getElem (w:=h);simp only[beq_iff_eq]at this;simp only[AB,BM,Ap];rw[Eg h];exact this
theorem ABZ:∀f:Nat,(1:Int)<=2^f
 |0=>by decide
 |f+1=>by have:=ABZ f;rw[Int.pow_succ];omega
theorem Vt:∀f (q:List Int),q.length=f+3->f<=7->(Hp f q=true->GR q.length (2^f) (qa q))/\(∀M,1<=M->GR q.length M (qa q)->Hp f q=true)
 |0,q,l,_=>by
  match q,l with
  |[a,b,c],_=>
   refine⟨λh=>?_,λM i h=>?_⟩
   .simp only[Hp,beq_iff_eq,List.cons.injEq,and_true]at h
    obtain⟨rfl,rfl,rfl⟩:=h
    refine(GR.tri (by decide)).2 λk=>?_
    have:(k+1)%3=0\/(k+1)%3=1\/(k+1)%3=2:=by omega
    simp only[qa,AP,A5]
    rcases this with h|h|h<;>rw[h]<;>rfl
   .have:=(GR.tri i).1 h
    have e:=this 2
    have g:=this 0
    have a2:=this 1
    simp only[qa,AP,A5,AB]at e g a2
    simp at e g a2
    simp[Hp,e,g,a2]
 |f+1,q,l,x=>by
  have o:pz q.length:=by unfold pz;omega
  refine⟨λh=>?_,λM i h=>?_⟩
  simp only[Hp,AV,Ac]at h
  have I:=(Vt f (H6 q (Bk q)) (by rw[Nx h.1];omega) (by omega)).1 h.2
  rw[Nx h.1]at I
  have:=(ATA o h.1 (UN h.1)).glue ALL (ABZ f) I
  rw[show(2:Int)^(f+1)=2*2^f by rw[Int.pow_succ,Int.mul_comm]]
  exact this
  obtain⟨k,s⟩:=h.one (by omega)
  have H:Bk q<q.length:=by
   refine List.findIdx_lt_length_of_exists ⟨qa q (k+1),?_,by rw[s];rfl⟩
   simp only[qa,AB,BM,Ap]
   have:(k+1)%q.length<q.length:=Nat.mod_lt _ (by omega)
   rw[Eg this]
   exact List.getElem_mem _
  simp only[Hp,AV,Ac]
  refine⟨H,(Vt f (H6 q (Bk q)) (by rw[Nx H];omega) (by omega)).2 M i ?_⟩
  rw[Nx H]
  exact(ATA o H (UN H)).cut h
def An(q:List Int)(r i:Nat):Int:=kq (λt=>qa q (i+t)) r
theorem Py{q:List Int}{r i:Nat}:An q r (i+q.length)=An q r i:=Ox r λt _=>by rw[<-ALL (i+t)];congr 1;omega
theorem IQ{q:List Int}{r i:Nat}:An q r (i%q.length)=An q r i:=Ox r λt _=>by simp[qa]
def frQ(q:List Int)(M:Int):Prop:=∀i,(∀m,1<=m->m<q.length->1<=An q m i/\An q m i<=M)/\An q (q.length-1) i=1/\An q q.length i=0
theorem AL2{q:List Int}{M:Int}(h:1<=q.length):frQ q M↔GR q.length M (qa q):=by have e:∀u m,dq (qa q) u (u+m)=An q m (u+1):=λu m=>Pq m u;constructor;intro h u;simp only[e];exact h (u+1);intro H i;have:=H (i+q.length-1);simp only[e]at this;simp only[show i+q.length-1+1=i+q.length by omega,Py]at this;exact this
theorem SC{q:List Int}{r i:Nat}(H:1<=q.length):An q (r+1) i*An q (r+1) (i+1)-An q r (i+1)*An q (r+2) i=1:=by
 have e:∀u m,dq (qa q) u (u+m)=An q m (u+1):=λu m=>Pq m u;rw[<-Py (i:=i+1) (r:=r+1),<-Py (i:=i+1) (r:=r),<-Py (i:=i) (r:=r+1),<-Py (i:=i) (r:=r+2)];obtain⟨u,h⟩:∃u,i+q.length=u+1:=⟨i+q.length-1,by omega⟩;rw[show i+1+q.length=u+1+1 by omega,h,<-e,<-e,<-e,<-e];have s1:∀r,dq (qa q) u (u+1)=1/\dq (qa q) u (u+(r+1))*dq (qa q) (u+1) (u+1+(r+1))-dq (qa q) (u+1) (u+1+r)*dq (qa q) u (u+(r+2))=1:=by
  intro r;refine⟨MX u,?_⟩;induction r with
  |zero=>
   have k:dq (qa q) u (u+1)=1:=MX u
   have a:dq (qa q) (u+1) (u+1+1)=1:=MX (u+1)
   have b:dq (qa q) (u+1) (u+1+0)=0:=Ms
   rw[Nat.zero_add,k,a,b];omega
  |succ r I=>
   have k:dq (qa q) (u+1) (u+1+(r+2))=qa q (u+1+(r+1))*dq (qa q) (u+1) (u+1+(r+1))-dq (qa q) (u+1) (u+1+r):=JB Cn Cn
   have a:dq (qa q) u (u+(r+3))=qa q (u+(r+2))*dq (qa q) u (u+(r+2))-dq (qa q) u (u+(r+1)):=JB Cn Cn
   rw[show u+1+(r+1)=u+(r+2) by omega]at k
   rw[show r+1+1=r+2 from rfl,show r+1+2=r+3 from rfl,k,a]
   rw[show u+1+(r+1)=u+(r+2) by omega]at I|-
   grind
 exact(s1 r).2
end Go.Cat
