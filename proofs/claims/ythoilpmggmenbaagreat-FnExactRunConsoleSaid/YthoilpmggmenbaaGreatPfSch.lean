/-
 Schroeder numbers, and what is asked of the program's own function.
-/
import Derived.Test.YthoilpmggmenbaaGreatPfWayD
set_option linter.unusedSimpArgs false
set_option linter.unusedVariables false
namespace Go.Cat
def Lb:List Int:=[1,2,6,22,90,394]
theorem AjH{P:Program}{fid:Nat->Nat}{f:Nat}{n v:Int}(h:∀w,Calls P f #[.int .i64 n] w λe w'=>e=.returned (.int .i64 v)/\Gr w w'):H7 P fid f ⟨[.v],[.v],[],none⟩ [.n n] [.n v]:=by
 intro w X args B k hX H _;match args,H with
 |[],H=>simp[BU]at H
 |_::_::_,H=>simp[BU]at H
 |[V],H=>
  simp only[BU,AE,Rd]at H
  obtain⟨B1,B2,rfl,⟨rfl,rfl⟩,rfl⟩:=H
  refine(h w).mono ?_
  rintro e w' ⟨rfl,g,G,a,c,i⟩
  refine⟨_,[.int .i64 v],[],rfl,rfl,rfl,⟨g,λb j _=>G b j⟩,a,c,i,List.nodup_nil,by simp,?_⟩
  simp only[Sg.outs,List.map_nil,List.append_nil,BU,AE,Rd]
  exact⟨[],[],rfl,⟨rfl,trivial⟩,rfl⟩
class KN(K:Nat->List D->List D->Prop):Prop where
 sch:∀n:Nat,n<=5->K 494 [.n n] [.n (Lb.getD n 0)]
end Go.Cat
namespace Go.Cat
variable{K:Nat->List D->List D->Prop}
end Go.Cat
namespace Go.Cat
set_option maxRecDepth 100000
variable{K:Nat->List D->List D->Prop}
def Ko:List Int:=[1,1,2,4,9,21]
def Lu:List Int:=[1,1,3,12,55,273]
def LD:List Int:=[1,1,3,16,125,1296]
abbrev AFN:List (Nat×IF):=[(256,I256.v),(23,L8.v)]
abbrev ASA:List (Nat×IF):=[(267,I267.v),(22,Lq.v)]
abbrev APR:List (Nat×IF):=[(489,I489.v),(79,I79.v),(84,I84.v),(22,Lq.v),(24,I24.v)]
abbrev ACR:List (Nat×IF):=[(490,I490.v),(22,Lq.v),(24,I24.v)]
abbrev AG0:List (Nat×IF):=[(495,I495.v),(23,L8.v),(25,I25.v)]
abbrev AF2:List (Nat×IF):=[(491,I491.v),(22,Lq.v)]
abbrev AAZ:List (Nat×IF):=[(496,I496.v),(23,L8.v)]
theorem AgG:BR 6 (λn=>Gy (E2 (EU AFN) 60 8 256 [.n n]) (Ko.getD n 0))=true:=by kernel_rfl
theorem AW7[HA K]{n:Nat}(h:n<6):K 256 [.n n] [.n (Ko.getD n 0)]:=run AFN 60 8 256 (IP (BY AgG n h))
theorem AXI:BR 6 (λn=>Gy (E2 (EU ASA) 60 8 267 [.n n]) (Ko.getD n 0))=true:=by kernel_rfl
theorem ATJ[HA K]{n:Nat}(h:n<6):K 267 [.n n] [.n (Ko.getD n 0)]:=run ASA 60 8 267 (IP (BY AXI n h))
theorem AfD:BR 6 (λn=>Gy (E2 (EU APR) 60 8 489 [.n n]) (Lb.getD n 0))=true:=by kernel_rfl
theorem AeF[HA K]{n:Nat}(h:n<6):K 489 [.n n] [.n (Lb.getD n 0)]:=run APR 60 8 489 (IP (BY AfD n h))
theorem AhK:BR 6 (λn=>Gy (E2 (EU ACR) 60 8 490 [.n 3,.n n]) (Lu.getD n 0))=true:=by kernel_rfl
theorem AVB[HA K]{n:Nat}(h:n<6):K 490 [.n 3,.n n] [.n (Lu.getD n 0)]:=run ACR 60 8 490 (IP (BY AhK n h))
theorem AaS:BR 6 (λn=>Gy (E2 (EU AG0) 60 8 495 [.n 3,.n n]) (Lu.getD n 0))=true:=by kernel_rfl
theorem AU6[HA K]{n:Nat}(h:n<6):K 495 [.n 3,.n n] [.n (Lu.getD n 0)]:=run AG0 60 8 495 (IP (BY AaS n h))
theorem AZI:BR 6 (λn=>Gy (E2 (EU AF2) 60 8 491 [.n n]) (LD.getD n 0))=true:=by kernel_rfl
theorem AjC[HA K]{n:Nat}(h:n<6):K 491 [.n n] [.n (LD.getD n 0)]:=run AF2 60 8 491 (IP (BY AZI n h))
theorem AVK:BR 6 (λn=>Gy (E2 (EU AAZ) 60 8 496 [.n n]) (LD.getD n 0))=true:=by kernel_rfl
theorem AcK[HA K]{n:Nat}(h:n<6):K 496 [.n n] [.n (LD.getD n 0)]:=run AAZ 60 8 496 (IP (BY AVK n h))
def I2(x:BT)(t:List BT)(j:Nat):Nat:=((List.range j).filter λk:Nat=>Cr x (An t k)).length
theorem AKN{x:BT}{t:List BT}{j:Nat}:I2 x t (j+1)=I2 x t j+if Cr x (An t j)=true then 1 else 0:=by simp only[I2,List.range_succ,List.filter_append,A4];by_cases h:Cr x (An t j)=true;simp[h];simp[h]
theorem Wa{x:BT}{t:List BT}{j:Nat}:I2 x t j<=j:=by have:=List.length_filter_le (λk:Nat=>Cr x (An t k)) (List.range j);simpa[I2]using this
def Ik(t:List BT):Nat->Nat
 |0=>0
 |i+1=>Ik t i+I2 (An t i) t t.length
theorem APU{t:List BT}:∀{i:Nat},Ik t i<=i*t.length
 |0=>by simp[Ik]
 |i+1=>by have h:=APU (t:=t) (i:=i);have H:=Wa (x:=An t i) (t:=t) (j:=t.length);simp only[Ik,Nat.add_mul,Nat.one_mul];omega
theorem Af0[HA K]{n:Nat}(h:n<=5):∃v:Int,0<=v/\v<=1764/\K 497 [.n n] [.n v]/\K 492 [.n n] [.n v]:=by
 obtain⟨t,o,T,C,ks⟩:=AIU (K:=K) (n:=n) h;have l:∀i,i<=t.length->Ik t i<=1764:=λi hi=>by have F:=APU (t:=t) (i:=i);have G:i*t.length<=42*42:=Nat.mul_le_mul (by omega) o;omega
 have b:AR 0 5 (n:Int)=true:=A5.2 (by omega);refine⟨Ik t t.length,by omega,by have:=l t.length (Nat.le_refl _);omega,?_,?_⟩;refine qw I497 ?_;refine cB Bq ?_;rw[b];refine wW ?_;refine cB C ?_;simp(disch:=try exact dV) only[AD,List.length_map];refine Aj (λi (c:Int)=>c=Ik t i) (λi c=>[.u,.u,.n c,D3 t,.u,.u,.u,D3 t,.n t.length,.n i,.u,.u,.u,.u,.u,.u]) t.length 0 rfl rfl (λi c hi a=>?_) (λc a=>?_);have b1:=l i (by omega);have g:=Gc hi;simp(disch:=try exact dV) only[AD,List.length_map,g];refine Aj (λj (e:Int)=>e=c+I2 (An t i) t j) (λj e=>[.u,.u,.n e,D3 t,.s (An t i).t,.u,.u,D3 t,.n t.length,.n i,.u,D3 t,.n t.length,.n j,.u,.u]) t.length c (by simp[I2]) rfl (λj e f he=>?_) (λe he=>?_);have k:=Gc f;have H:=AKN (x:=An t i) (t:=t) (j:=j);have B:=Wa (x:=An t i) (t:=t) (j:=j);simp(disch:=try exact dV) only[AD,List.length_map,k];refine cB (Nc (T _ (Fz hi)) (T _ (Fz f))) ?_
 cases q:Cr (An t i) (An t j)with
 |false=>
  rw[q,if_neg (by simp)]at H
  refine wW ?_
  exact⟨_,by rw[H,he];omega,rfl⟩
 |true=>
  rw[q,if_pos rfl]at H
  refine wW ?_
  exact⟨_,by rw[H,he];omega,rfl⟩
 refine wW ?_;exact⟨_,by rw[he,a];simp only[Ik];omega,rfl⟩;refine wW ?_;rw[a];refine qw I492 ?_;refine cB Bt ?_;rw[b];refine wW ?_;refine cB ks ?_;simp(disch:=try exact dV) only[AD,List.length_map];refine Aj (λi (c:Int)=>c=Ik t i) (λi c=>[.u,.u,D3 t,.n c,.n i,.u,.u,.u,.u,.u]) t.length 0 rfl rfl (λi c hi a=>?_) (λc a=>?_);have b1:=l i (by omega);have g:=Gc hi;simp(disch:=try exact dV) only[AD,List.length_map,g];refine Aj (λj (e:Int)=>e=c+I2 (An t i) t j) (λj e=>[.u,.u,D3 t,.n e,.n i,.n j,.u,.u,.u,.u]) t.length c (by simp[I2]) rfl (λj e f he=>?_) (λe he=>?_);have k:=Gc f;have H:=AKN (x:=An t i) (t:=t) (j:=j);have B:=Wa (x:=An t i) (t:=t) (j:=j);simp(disch:=try exact dV) only[AD,List.length_map,g,k];refine cB (N0 (T _ (Fz hi)) (T _ (Fz f))) ?_
 cases q:Cr (An t i) (An t j)with
 |false=>
  rw[q,if_neg (by simp)]at H
  refine wW ?_
  exact⟨_,by rw[H,he];omega,rfl⟩
 |true=>
  rw[q,if_pos rfl]at H
  refine wW ?_
  exact⟨_,by rw[H,he];omega,rfl⟩
 simp(disch:=try exact dV) only[AD,List.length_map];exact⟨_,by rw[he,a];simp only[Ik];omega,rfl⟩;simp(disch:=try exact dV) only[AD,List.length_map];rw[a]
end Go.Cat
namespace Go.Cat
set_option maxRecDepth 100000
variable{K:Nat->List D->List D->Prop}
def O6(a:List Int)(s:List Bool):Prop:=∀j:Nat,j<a.length->CQ s (j:Nat)=true->CQ s (AB a (j:Nat))=true
theorem PV{s:List Bool}{i j:Nat}(hi:i<s.length):(s.set i true).getD j false=if i=j then true else s.getD j false:=by simp only[Ap,List.getElem?_set];by_cases h:i=j;subst h;simp[hi];simp[h]
theorem AeA{a:List Int}{s:List Bool}{n:Nat}(I:C1 a=true)(R:s.length=a.length)(M:n<a.length)(C:O6 a s)(f:CQ s (n:Nat)=false):
  Dk (Cb (Cb s (n:Nat) true) (AB a (n:Nat)) true)+2=Dk s/\O6 a (Cb (Cb s (n:Nat) true) (AB a (n:Nat)) true):=by
 obtain⟨q,J,Q⟩:=(HZ I).2 n M;have q:=A5.1 q;obtain⟨k,G⟩:=CE q.1;rw[G]at J Q|-;have l:k≠n:=λe=>J (by rw[e]);have L:k<s.length:=by omega
 have c:s.getD k false=false:=by
  cases h:s.getD k false with
  |false=>rfl
  |true=>
   have:=C k (by omega) (by rw[KZ];exact h)
   rw[Q,f]at this
   cases this
 rw[KZ]at f;have O:=TA (s:=s) (i:=n) (by omega) f;have P:=TA (s:=s.set n true) (i:=k) (by rw[List.length_set];omega) (by rw[PV (by omega),if_neg (λe=>l e.symm)];exact c);rw[R2,R2];refine⟨by omega,λj F H=>?_⟩;rw[KZ,PV (by rw[List.length_set];omega),PV (by omega)]at H;have g:∀m:Nat,CQ ((s.set n true).set k true) (m:Nat)=if k=m then true else if n=m then true else s.getD m false:=λm=>by rw[KZ,PV (by rw[List.length_set];omega),PV (by omega)]
 by_cases x:k=j
 .subst x;rw[Q,g];simp
 .by_cases B:n=j
  .subst B;rw[G,g];simp
  .rw[if_neg x,if_neg B]at H;have b:=C j F (by rw[KZ];exact H);have N:=A5.1 ((HZ I).2 j F).1;obtain⟨m,o⟩:=CE N.1;rw[o]at b|-;rw[KZ]at b;rw[g,b];simp
theorem AHQ{a b:List Int}(g:C1 a=true)(j:KV b)(e:b.length=a.length):∀(f:Nat)(s:List Bool)(n:Nat),s.length=a.length->n<a.length->O6 a s->
  O6 a (Fk a b f s (n:Nat))/\Dk (Fk a b f s (n:Nat))<=Dk s/\(0<f->CQ s (n:Nat)=false->Dk (Fk a b f s (n:Nat))+2<=Dk s)
 |0,s,n,_,_,c=>⟨c,Nat.le_refl _,λh=>absurd h (by omega)⟩
 |f+1,s,n,l,k,c=>by
  simp only[Fk]
  cases B:CQ s (n:Nat)with
  |true=>
   simp only[if_true]
   exact⟨c,Nat.le_refl _,λ_ h=>by cases h⟩
  |false=>
   simp only[I1,if_false]
   obtain⟨C,o⟩:=AeA g l k c B
   have q:=NL g n k
   have H:=Pd j (x:=AB a (n:Nat)) (by omega)
   obtain⟨m,i⟩:=CE H.1
   rw[i]at H|-
   have I:=AHQ g j e f (Cb (Cb s (n:Nat) true) (AB a (n:Nat)) true) m (by rw[G1,G1,l]) (by omega) o
   exact⟨I.1,by omega,λ_ _=>by omega⟩
theorem AH9{a b:List Int}(f:C1 a=true)(c:KV b)(H:b.length=a.length):∀i:Nat,i<=a.length->O6 a (DJ a b i).1/\2*(DJ a b i).2+Dk (DJ a b i).1<=a.length
 |0,_=>by
  refine⟨λj g h=>?_,?_⟩;rw[KZ]at h;simp[DJ,rep,g]at h;have:=List.countP_le_length (p:=λb=>!b) (l:=rep a.length false);simp only[DJ,Dk];have e:(rep a.length false).length=a.length:=by simp[rep]
  omega
 |i+1,hi=>by
  have I:=AH9 f c H i (by omega);have k:=(Sl (a:=a) (b:=b) i).1;unfold DJ
  cases x:CQ (DJ a b i).1 (i:Nat)with
  |true=>
   simp only[if_true]
   exact I
  |false=>
   simp only[I1,if_false]
   have:=AHQ f c H (a.length+1) (DJ a b i).1 i k (by omega) I.1
   have o:=this.2.2 (by omega) x
   exact⟨this.1,by omega⟩
theorem AWN{a b:List Int}(c:C1 a=true)(H:KV b)(h:b.length=a.length):2*HK a b<=a.length:=by have:=(AH9 c H h a.length (Nat.le_refl _)).2;simp only[HK];omega
def JX(a:List Int)(ms:List (List Int))(o:List Int):Nat->List Int
 |0=>o
 |j+1=>BH (JX a ms o j) (HK a (AF ms (j:Nat)):Nat) (AB (JX a ms o j) (HK a (AF ms (j:Nat)):Nat)+1)
def Fb(ms:List (List Int))(n:Nat):Nat->List Int
 |0=>rep (n+1) 0
 |i+1=>JX (AF ms (i:Nat)) ms (Fb ms n i) ms.length
theorem OP{a:List Int}{ms:List (List Int)}{o:List Int}:∀j,(JX a ms o j).length=o.length
 |0=>rfl
 |j+1=>by simp only[JX,DO,OP j]
theorem Oh{ms:List (List Int)}{n:Nat}:∀i,(Fb ms n i).length=n+1
 |0=>by simp[Fb,rep]
 |i+1=>by simp only[Fb,OP,Oh i]
def Sr(o:List Int)(k:Nat):Prop:=∀j:Nat,j<o.length->0<=AB o (j:Nat)/\AB o (j:Nat)<=k
theorem Re{a:List Int}{ms:List (List Int)}{o:List Int}{k:Nat}(h:Sr o k)(c:∀j:Nat,j<ms.length->HK a (AF ms (j:Nat))<o.length):∀j,j<=ms.length->Sr (JX a ms o j) (k+j)
 |0,_=>h
 |j+1,f=>by have I:=Re h c j (by omega);have H:=c j (by omega);have l:=OP (a:=a) (ms:=ms) (o:=o) j;intro i hi;simp only[JX]at hi|-;rw[DO]at hi;rw[H6 (by omega)];have b:=I i hi;have e:=I (HK a (AF ms (j:Nat))) (by omega);split<;>omega
theorem APC{ms:List (List Int)}{n:Nat}(c:∀i j:Nat,i<ms.length->j<ms.length->HK (AF ms (i:Nat)) (AF ms (j:Nat))<n+1):∀i,i<=ms.length->Sr (Fb ms n i) (i*ms.length)
 |0,_=>λj h=>by
  simp only[Fb,rep,List.length_replicate]at h|-;have e:(List.replicate (((n:Nat):Int)+1).toNat (0:Int))[j]?=some 0:=by rw[List.getElem?_replicate,if_pos h]
  simp only[AB,BM,Ap];rw[e];simp
 |i+1,hi=>by have I:=APC c i (by omega);have:=Re (a:=AF ms (i:Nat)) (ms:=ms) I (λj h=>by rw[Oh];exact c i j (by omega) h) ms.length (Nat.le_refl _);simp only[Fb,Nat.add_mul,Nat.one_mul];exact this
theorem Ab9:∀n:Nat,n<6->(AI n).length<=42:=by decide
theorem AWW{ws:List (List Nat)}{ms:List (List Int)}(h:Ir ws ms):∀i:Nat,i<ms.length->PP (AG ws i) (AF ms i):=λi hi=>AkT h i (by rw[<-TO h];exact hi)
theorem AaV[HA K]{n:Nat}(h:n<=5):∃l:List Int,l.length=n+1/\(∀x∈l,0<=x/\x<=1764)/\K 493 [.n n] [LI l,.b true]/\K 488 [.n n] [LI l,.b true]:=by
 obtain⟨_,⟨ms,rfl,G⟩,V⟩:=AeZ (K:=K) (n:=n) (by omega);have F:=TO G;have R:=Ab9 n (by omega);have C:AR 0 5 (n:Int)=true:=A5.2 (by omega);have B:∀i:Nat,i<ms.length->AK (AG (AI n) i)=true/\(AG (AI n) i).length=2*n:=λi hi=>apd (n:=n) (by omega) (AEE (ws:=AI n) (i:=i) (by omega));have q:∀i:Nat,i<ms.length->PP (AG (AI n) i) (AF ms i):=AWW G;have c:∀i:Nat,i<ms.length->EG (AF ms i)=true/\(AF ms i).length=2*n:=λi hi=>by have s:=B i hi;exact⟨AaF (by omega) (q i hi),by rw[(q i hi).1];exact s.2⟩
 have g:∀i:Nat,i<ms.length->C1 (AF ms i)=true:=λi hi=>by have:=(c i hi).1;simp[EG]at this;exact this.1
 have f:∀i j:Nat,i<ms.length->j<ms.length->HK (AF ms (i:Nat)) (AF ms (j:Nat))<n+1:=λi j hi H=>by have:=AWN (g i hi) (NL (g j H)) (by rw[(c i hi).2,(c j H).2]);rw[(c i hi).2]at this;omega
 have k:∀i,i<=ms.length->Sr (Fb ms n i) 1764:=λi hi j H=>by have s:=APC f i hi j H;have J:i*ms.length<=42*42:=Nat.mul_le_mul (by omega) (by omega);omega
 refine⟨Fb ms n ms.length,Oh _,λx T=>?_,?_,?_⟩;obtain⟨j,H,e⟩:=List.getElem_of_mem T;have:=k ms.length (Nat.le_refl _) j H;have P:AB (Fb ms n ms.length) (j:Nat)=x:=by simp[AB,H,e]
 rw[P]at this;exact this;refine qw I493 ?_;refine cB Bq ?_;rw[C];refine wW ?_;refine cW V ?_;refine AN (λ_=>True) (λi=>[.u,.u,.u,LI (Fb ms n i),LL ms,.u,.u,.u,LL ms,.n ms.length,.n i,.u,.u,.u,.u,.u]) ms.length trivial ?_ (λi hi _=>?_) (λ_=>?_);rfl;have O:=Oh (ms:=ms) (n:=n) i;have b2:=k i (by omega);refine wW ?_;refine AN (λ_=>True) (λj=>[.u,.u,.u,LI (JX (AF ms (i:Nat)) ms (Fb ms n i) j),LL ms,LI (AF ms (i:Nat)),.u,.u,LL ms,.n ms.length,.n i,.u,LL ms,.n ms.length,.n j,.u]) ms.length trivial rfl (λj H _=>?_) (λ_=>?_);have Y:=OP (a:=AF ms (i:Nat)) (ms:=ms) (o:=Fb ms n i) j;have L:=f i j hi H;have b1:=Re (a:=AF ms (i:Nat)) (ms:=ms) b2 (λj H=>by rw[O];exact f i j hi H) j (by omega) (HK (AF ms (i:Nat)) (AF ms (j:Nat))) (by omega);have s:=c i hi;have J:=c j H;refine wW ?_;exact cZ (AXU (by omega) (by omega) (NL (g i hi)) (NL (g j H)));exact wZ;exact wZ;have W:=Q7 (K:=K) (n:=n) (by omega);refine qw I488 ?_;refine cB Bt ?_;rw[C];refine wW ?_;refine cW W ?_;refine AN (λ_=>True) (λi=>[.n n,.u,.u,LS (AI n),LL (ms.take i),.n i,.u,.u,.u,.u,.u,.u,.u,.u,.u]) (AI n).length trivial rfl (λi hi _=>?_) (λ_=>?_);have N:=q i (by omega);have M:=B i (by omega);have Q:(ms.take i).length=i:=by rw[List.length_take];omega
 have I:ms.take (i+1)=ms.take i++[AF ms (i:Nat)]:=by rw[CP (by omega)];simp[AF,show i<ms.length by omega]
 rw[I];obtain⟨zs,U⟩:∃zs,zs=ms.take i:=⟨_,rfl⟩;rw[<-U]at Q|-;refine wW ?_;refine cB (Ws M.1 N) ?_;simp(disch:=try exact dV) only[AD,OV];rw[<-F,List.take_length];refine wW ?_;refine AN (λ_=>True) (λi=>[.u,.u,.u,.u,LL ms,.u,.u,LI (Fb ms n i),.n i,.u,.u,.u,.u,.u,.u]) ms.length trivial ?_ (λi hi _=>?_) (λ_=>?_);rfl;have O:=Oh (ms:=ms) (n:=n) i;have b2:=k i (by omega);refine wW ?_;refine AN (λ_=>True) (λj=>[.u,.u,.u,.u,LL ms,.u,.u,LI (JX (AF ms (i:Nat)) ms (Fb ms n i) j),.n i,.n j,.u,.u,.u,.u,.u]) ms.length trivial rfl (λj H _=>?_) (λ_=>?_);have Y:=OP (a:=AF ms (i:Nat)) (ms:=ms) (o:=Fb ms n i) j;have L:=f i j hi H;have b1:=Re (a:=AF ms (i:Nat)) (ms:=ms) b2 (λj H=>by rw[O];exact f i j hi H) j (by omega) (HK (AF ms (i:Nat)) (AF ms (j:Nat))) (by omega);have s:=c i hi;have J:=c j H;refine wW ?_;exact cZ (AaD s.1 J.1 (by omega));exact wZ;exact wZ
end Go.Cat
namespace Go.Cat
set_option maxRecDepth 100000
variable{K:Nat->List D->List D->Prop}
theorem Ad3{h i a2 j k l o q x B a b c e f g:List Nat}:Dv [.s h,.s i,.s a2,.s j,.s k,.s l,.s o,.s q,.s x,.s B,.s a,.s b,.s c,.s e,.s f,.s g]=some (LS [h,i,a2,j,k,l,o,q,x,B,a,b,c,e,f,g]):=rfl
theorem Ab5:∀n,n<6->(0<=JH.getD n 0/\JH.getD n 0<=100000)/\(0<=Lb.getD n 0/\Lb.getD n 0<=100000)/\(0<=Lu.getD n 0/\Lu.getD n 0<=100000)/\(0<=LD.getD n 0/\LD.getD n 0<=100000)/\(0<=Ko.getD n 0/\Ko.getD n 0<=100000):=by decide
theorem AZC[HA K][KN K]{n:Nat}(h:n<=5):∃v,(v≠[]/\Nw v)/\K 456 [.n n] [.s v]/\K 455 [.n n] [.s v]:=by
 obtain⟨b1,b2,N,O,Q⟩:=Ab5 n (by omega);obtain⟨i,B,G,a,b⟩:=Af0 (K:=K) h;obtain⟨l,l1,L,li,J⟩:=AaV (K:=K) h;have j:=AW7 (K:=K) (n:=n) (by omega);have k:=ATJ (K:=K) (n:=n) (by omega);have q:=KN.sch (K:=K) n h;have x:=AeF (K:=K) (n:=n) (by omega);have F:=AU6 (K:=K) (n:=n) (by omega);have e:=AVB (K:=K) (n:=n) (by omega);have P:=AcK (K:=K) (n:=n) (by omega);have o:=AjC (K:=K) (n:=n) (by omega);have c:=AGY (K:=K) (n:=n) (by omega);have C:=ABF (K:=K) (n:=n) (by omega);generalize JH.getD n 0=ca at*;generalize Lb.getD n 0=sh at*;generalize Lu.getD n 0=f at*;generalize LD.getD n 0=pk at*;generalize Ko.getD n 0=M at*;have hi:H4 l:=λy I=>by have:=L y I;omega
 have H:AR 0 5 (n:Int)=true:=A5.2 (by omega);have R:=Ax (n:=(n:Int)) (by omega);have T:=Ax (n:=ca) (by omega);have f3:=Ax (n:=M) (by omega);have U:=Ax (n:=sh) (by omega);have V:=Ax (n:=f) (by omega);have W:=Ax (n:=pk) (by omega);have Y:=Ax (n:=i) (by omega);have Z:=Jf hi;refine⟨[115,105,122,101,32]++AQ n++[32,99,97,116,97,108,97,110,32]++AQ ca++[32,109,111,116,122,107,105,110,32]++AQ M++[32,115,99,104,114,111,101,100,101,114,32]++AQ sh++[32,116,101,114,110,97,114,121,32]++AQ f++[32,112,97,114,107,105,110,103,32]++AQ pk++[32,105,110,116,101,114,118,97,108,115,32]++AQ i++[32,108,111,111,112,115,32]++EO l,⟨by simp,by simp;omega,by simp[Fp,Td]⟩,?_,?_⟩;refine qw AFF ?_;refine cB Bq ?_;rw[H];refine wW ?_;refine cW li ?_;refine cW (C4 (by omega)) ?_;refine cW c ?_;refine cW (C4 (by omega)) ?_;refine cW j ?_;refine cW (C4 (by omega)) ?_;refine cW q ?_;refine cW (C4 (by omega)) ?_;refine cW F ?_;refine cW (C4 (by omega)) ?_;refine cW P ?_;refine cW (C4 (by omega)) ?_;refine cW a ?_;refine cW (C4 (by omega)) ?_;refine cB (QF (by omega) hi) ?_;simp(disch:=try exact dV) only[AD,Ad3];have g:=Hk (K:=K) (ws:=[[115,105,122,101],AQ n,[99,97,116,97,108,97,110],AQ ca,[109,111,116,122,107,105,110],AQ M,[115,99,104,114,111,101,100,101,114],AQ sh,[116,101,114,110,97,114,121],AQ f,[112,97,114,107,105,110,103],AQ pk,[105,110,116,101,114,118,97,108,115],AQ i,[108,111,111,112,115],EO l]) (by simp) (by simp;omega);refine cW g ?_;simp[glue,BE,AG];refine qw ACX ?_;refine cB Bt ?_;rw[H];refine wW ?_;refine cW J ?_;refine cW (By (by omega)) ?_;refine cW C ?_;refine cW (By (by omega)) ?_;refine cW k ?_;refine cW (By (by omega)) ?_;refine cW x ?_;refine cW (By (by omega)) ?_;refine cW e ?_;refine cW (By (by omega)) ?_;refine cW o ?_;refine cW (By (by omega)) ?_;refine cW b ?_;refine cW (By (by omega)) ?_;exact cZ (Pq (by omega) hi)
theorem AgE[HA K][KN K](a:Int):∃v,Nw v/\K 456 [.n a] [.s v]/\K 455 [.n a] [.s v]:=by by_cases h:0<=a/\a<=5;obtain⟨m,rfl⟩:=CE h.1;obtain⟨v,H,k⟩:=AZC (K:=K) (n:=m) (by omega);exact⟨v,H.2,k⟩;have e:AR 0 5 a=false:=JB.2 h;refine⟨[],⟨by simp,by simp⟩,?_,?_⟩;refine qw AFF ?_;refine cB Bq ?_;rw[e];exact wZ;refine qw ACX ?_;refine cB Bt ?_;rw[e];exact wZ
end Go.Cat
