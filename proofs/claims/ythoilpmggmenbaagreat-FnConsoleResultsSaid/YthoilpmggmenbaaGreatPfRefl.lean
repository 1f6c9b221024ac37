/-
 Words and their reflections.
-/
import Derived.Test.YthoilpmggmenbaaGreatPfH
set_option linter.unusedSimpArgs false
set_option linter.unusedVariables false
namespace Go.Cat
variable{K:Nat->List D->List D->Prop}
def HE(w:List Nat):Bool:=w.all λc=>decide (c=117\/c=100)
theorem NV{c:Nat}{w:List Nat}:HE (c::w)=(decide (c=117\/c=100)&&HE w):=rfl
theorem ALA:∀(w:List Nat),steps w=HE w
 |[]=>rfl
 |c::w=>by
  have i:=ALA w
  have l:=Nt (w:=w) (c:=117)
  have:AA w 117+AA w 100<=w.length:=by
   clear i l
   induction w with
   |nil=>simp[AA]
   |cons a w i=>simp only[MC,AO];split<;>split<;>omega
  rw[NV,<-i]
  simp only[steps,MC,AO]
  by_cases h:c=117
  subst h;simp;omega
  by_cases H:c=100
  subst H;simp;omega
  simp[h,H];omega
def swp(c:Nat):Nat:=if c=117 then 100 else 117
def refl:List Nat->Int->List Nat
 |[],_=>[]
 |c::w,h=>if(if c=117 then h+1 else h-1)=-1 then c::w.map swp else c::refl w (if c=117 then h+1 else h-1)
def GJ(a c d x:Nat):Nat:=if x=a then c else d
def only(a b:Nat)(w:List Nat):Bool:=w.all λx=>decide (x=a\/x=b)
theorem AGX{a b c:Nat}{w:List Nat}:only a b (c::w)=(decide (c=a\/c=b)&&only a b w):=rfl
theorem UE[HA K]{w:List Nat}{a b c d:Nat}(h:w.length<=1000000000)(J:c<256)(hd:d<256):
  K 83 [.s w,.s [a,b],.s [c,d]] [.s (if only a b w=true then w.map (GJ a c d)else []),.b (only a b w)]:=by
 refine qb I83 ?_;have F:AI [a,b] 0=a:=rfl;have o:AI [a,b] 1=b:=rfl;have C:AI [c,d] 0=c:=rfl;have f3:AI [c,d] 1=d:=rfl;simp(disch:=try exact dV) only[AD,AJ7];refine BE (λi (l:List Nat)=>l.length=i/\(∀x∈l,x<256)/\l++(w.drop i).map (GJ a c d)=w.map (GJ a c d)/\only a b w=only a b (w.drop i)) (λi l=>[.s w,.s [a,b],.s [c,d],.u,.u,LB l,.n i,.u,.u,.u,.u]) w.length [] ⟨rfl,by simp,by simp,by simp⟩ rfl (λi l hi P=>?_) (λl P=>?_)
 .obtain⟨G,g,H,f⟩:=P;rw[EJ hi]at H f;rw[AGX]at f;rw[List.map_cons]at H;by_cases j:AI w i=a
  .have e:GJ a c d (AI w i)=c:=by simp[GJ,j]
   simp(disch:=try exact dV) only[AD,F,C];refine⟨l++[c],⟨by simp;omega,?_,?_,?_⟩,rfl⟩
   .intro x k;rcases Ac.1 k with q|q
    .exact g x q
    .simp at q;omega
   .rw[<-H,e];simp
   .rw[f,j];simp
  .by_cases B:AI w i=b
   .have e:GJ a c d (AI w i)=d:=by simp[GJ,j]
    simp(disch:=try exact dV) only[AD,F,o,f3];refine⟨l++[d],⟨by simp;omega,?_,?_,?_⟩,rfl⟩
    .intro x k;rcases Ac.1 k with q|q
     .exact g x q
     .simp at q;omega
    .rw[<-H,e];simp
    .rw[f,B];simp
   .simp(disch:=try exact dV) only[AD,F,o];have:only a b w=false:=by rw[f];simp[j,B]
    simp[this]
 .obtain⟨G,g,H,f⟩:=P;rw[List.drop_length]at H f;simp at H;have I:only a b w=true:=by rw[f];rfl
  simp(disch:=try exact dV) only[AD,QP g];simp[I,H]
theorem AR6{w:List Nat}:only 117 100 w=HE w:=rfl
end Go.Cat
namespace Go.Cat
variable{K:Nat->List D->List D->Prop}
def Hh(w:List Nat)(i:Nat):Int:=(AA (w.take i) 117:Int)-AA (w.take i) 100
theorem Ef{w:List Nat}:Hh w 0=0:=by simp[Hh,AA]
theorem KV{c:Nat}{w:List Nat}{i:Nat}:Hh (c::w) (i+1)=(if c=117 then 1 else 0)-(if c=100 then 1 else 0)+Hh w i:=by simp only[Hh,List.take_succ_cons,MC];split<;>split<;>omega
theorem AO4{a b:List Nat}{i:Nat}(h:i<=a.length):Hh (a++b) i=Hh a i:=by simp only[Hh];rw[List.take_append_of_le_length h]
theorem IM{a b:List Nat}{c:Nat}:AA (a++b) c=AA a c+AA b c:=by simp[AA]
theorem Ab4{a b:List Nat}{i:Nat}:Hh (a++b) (a.length+i)=Hh a a.length+Hh b i:=by simp only[Hh];rw[List.take_length_add_append,IM,IM];simp;omega
theorem Lu:∀(w:List Nat)(h r:Int),0<=h->(Bb w h=some r↔HE w=true/\(∀i≤w.length,0<=h+Hh w i)/\r=h+Hh w w.length)
 |[],h,r,h0=>by
  simp only[Bb,HE,List.all_nil,Aa,Ef,AL,true_and]
  constructor
  rintro rfl
  refine⟨λi hi=>?_,by omega⟩
  have:i=0:=by omega
  subst this;rw[Ef];omega
  rintro⟨_,h⟩;omega
 |c::w,h,r,h0=>by
  have sh:∀x:Int,(if c=117 then(1:Int)else 0)-(if c=100 then 1 else 0)=x->((∀i≤w.length+1,0<=h+Hh (c::w) i)↔∀i≤w.length,0<=(h+x)+Hh w i):=by
   intro x e
   constructor
   intro q i hi
   have:=q (i+1) (by omega)
   rw[KV,e]at this
   omega
   intro q i hi
   cases i with
   |zero=>rw[Ef];omega
   |succ i=>
    have:=q i (by omega)
    rw[KV,e]
    omega
  simp only[Bb,NV,AO,KV]
  by_cases H:c=117
  rw[if_pos H,Lu w (h+1) r (by omega)]
  rw[sh 1 (by simp[H])]
  simp[H]
  intro _ _;constructor<;>intro _<;>omega
  by_cases a:c=100
  rw[if_neg H,if_pos a,sh (-1) (by simp[a])]
  by_cases b:h-1<0
  rw[if_pos b]
  simp only[reduceCtorEq,false_iff,not_and]
  intro _ q
  have:=q 0 (by omega)
  rw[Ef]at this
  omega
  rw[if_neg b,Lu w (h-1) r (by omega)]
  simp[a]
  intro _
  constructor
  rintro⟨q,_⟩;exact⟨λi hi=>by have:=q i hi;omega,by omega⟩
  rintro⟨q,_⟩;exact⟨λi hi=>by have:=q i hi;omega,by omega⟩
  rw[if_neg H,if_neg a]
  simp[H,a]
theorem ARB{w:List Nat}:AK w=true↔w.length<=16/\HE w=true/\(∀i≤w.length,0<=Hh w i)/\Hh w w.length=0:=by simp only[AK,AU,Ad,Lu w 0 0 (by omega)];constructor;rintro⟨⟨h,H,a⟩,b⟩;exact⟨b,h,λi hi=>by have:=H i hi;omega,by omega⟩;rintro⟨h,H,a,b⟩;exact⟨⟨H,λi hi=>by have:=a i hi;omega,by omega⟩,h⟩
end Go.Cat
namespace Go.Cat
variable{K:Nat->List D->List D->Prop}
def PR(w:List Nat)(j k:Nat):Prop:=j<k/\k<w.length/\Hh w (k+1)=Hh w j/\∀m,j<m->m<=k->Hh w j<Hh w m
theorem SY{w:List Nat}{j k a:Nat}(h:PR w j k)(H:PR w j a):k=a:=by obtain⟨c,a2,e,b⟩:=h;obtain⟨b1,b2,f,B⟩:=H;rcases Nat.lt_trichotomy k a with q|q|q;have:=B (k+1) (by omega) (by omega);omega;exact q;have:=b (a+1) (by omega) (by omega);omega
theorem Yu{w:List Nat}{j J k:Nat}(h:PR w j k)(H:PR w J k):j=J:=by obtain⟨c,a2,e,a⟩:=h;obtain⟨b1,b2,B,b⟩:=H;rcases Nat.lt_trichotomy j J with q|q|q;have:=a J (by omega) (by omega);omega;exact q;have:=b j (by omega) (by omega);omega
theorem Ra{w:List Nat}{i j k:Nat}(h:PR w i j)(H:PR w j k):False:=by obtain⟨c,a2,e,a⟩:=h;obtain⟨b1,b2,B,b⟩:=H;have:=a j (by omega) (by omega);have:=b (j+1) (by omega) (by omega);omega
theorem APO{w:List Nat}{a b c d:Nat}(h:PR w a c)(H:PR w b d):¬(a<b/\b<c/\c<d):=by rintro⟨q,Q,j⟩;obtain⟨f,a2,g,e⟩:=h;obtain⟨b1,b2,i,B⟩:=H;have:=e b (by omega) (by omega);have:=B (c+1) (by omega) (by omega);omega
def PP(w:List Nat)(m:List Int):Prop:=m.length=w.length/\∀a:Nat,a<w.length->∃b:Nat,AB m a=b/\(PR w a b\/PR w b a)
theorem AbH{w:List Nat}{m M:List Int}(h:PP w m)(a:PP w M):m=M:=by refine Lm (by rw[h.1,a.1]) λj H=>?_;rw[h.1]at H;obtain⟨b,e,q⟩:=h.2 j H;obtain⟨B,c,Q⟩:=a.2 j H;rw[e,c];rcases q with q|q<;>rcases Q with Q|Q;rw[SY q Q];exact(Ra Q q).elim;exact(Ra q Q).elim;rw[Yu q Q]
theorem Ac9{w:List Nat}{m:List Int}(h:PP w m){a:Nat}(f:a<m.length):0<=AB m a/\AB m a<m.length:=by obtain⟨c,H⟩:=h;obtain⟨b,e,q⟩:=H a (by omega);rcases q with q|q;have:=q.2.1;omega;have:=q.1;omega
theorem F6{w:List Nat}{i:Nat}(h:i<w.length)(H:AI w i=117):Hh w (i+1)=Hh w i+1:=by
 have e:w.take (i+1)=w.take i++[AI w i]:=by rw[CO h];simp[AI,h]
 simp only[Hh,e,IM,H];simp[AA];omega
theorem Ej{w:List Nat}{i:Nat}(h:i<w.length)(H:AI w i=100):Hh w (i+1)=Hh w i-1:=by
 have e:w.take (i+1)=w.take i++[AI w i]:=by rw[CO h];simp[AI,h]
 simp only[Hh,e,IM,H];simp[AA];omega
structure DY(w:List Nat):Prop where
 l:w.length<=16
 ud:∀i:Nat,i<w.length->AI w i=117\/AI w i=100
 h0:∀i:Nat,i<=w.length->0<=Hh w i
 he:Hh w w.length=0
theorem A8{w:List Nat}(h:AK w=true):DY w:=by simp only[AK,AU,Ad]at h;obtain⟨H,b⟩:=h;obtain⟨a,a2,c⟩:=(Lu w 0 0 (Int.le_refl _)).1 H;refine⟨b,λi hi=>?_,λi hi=>by have:=a2 i hi;omega,by omega⟩;have:=Aj.1 a (AI w i) (by simp[AI,hi]);simpa using this
def SO(w:List Nat):List Nat->Nat->Prop
 |[],i=>Hh w i=0
 |j::t,i=>j<i/\Hh w i=Hh w j+1/\(∀m,j<m->m<=i->Hh w j<Hh w m)/\SO w t j
theorem Ad8{w:List Nat}:∀{t:List Nat}{j i:Nat},SO w t j->j<=i->Hh w i=Hh w j->(∀m,j<m->m<=i->Hh w j<=Hh w m)->SO w t i
 |[],j,i,h,_,he,_=>by simp only[SO]at h|-;omega
 |k::t,j,i,h,e,he,f=>by obtain⟨g,a2,a,b⟩:=h;refine⟨by omega,by omega,λm H c=>?_,b⟩;by_cases q:m<=j;exact a m H q;have:=f m (by omega) c;omega
theorem K2{w:List Nat}:∀{t:List Nat}{i:Nat},SO w t i->Hh w i=t.length
 |[],_,h=>by simpa[SO]using h
 |k::t,i,h=>by have:=K2 h.2.2.2;have:=h.2.1;simp only[AO];omega
theorem AFO{w:List Nat}{t:List Nat}{i:Nat}(h:SO w t i)(hi:i<w.length)(H:AI w i=117):SO w (i::t) (i+1):=by
 have e:=F6 hi H;exact⟨by omega,e,λm a b=>by
  obtain rfl:m=i+1:=by omega
  omega,h⟩
theorem Z3{w:List Nat}{t:List Nat}{i j:Nat}(h:SO w (j::t) i)(hi:i<w.length)(hd:AI w i=100):PR w j i/\SO w t (i+1):=by
 obtain⟨b,a2,a,c⟩:=h;have e:=Ej hi hd;refine⟨⟨b,hi,by omega,a⟩,Ad8 c (by omega) (by omega) λm H f=>?_⟩;by_cases q:m<=i;have:=a m H q;omega;obtain rfl:m=i+1:=by omega
 omega
end Go.Cat
namespace Go.Cat
variable{K:Nat->List D->List D->Prop}
def H6(m:List Int)(i:Nat):Prop:=∀j:Nat,j<i->A4 0 ((m.length:Int)-1) (AB m j)=true/\AB m j≠j/\AB m (AB m j)=j
instance{m:List Int}{i:Nat}:Decidable (H6 m i):=by unfold H6;infer_instance
def CV(m:List Int):Bool:=decide (m.length<=16)&&decide (H6 m m.length)
theorem LG{m:List Int}(h:¬H6 m m.length):CV m=false:=by simp[CV,h]
theorem GY{m:List Int}(h:CV m=true):m.length<=16/\H6 m m.length:=by simpa[CV]using h
theorem XA[HA K]{m:List Int}(h:m.length<=1099511627776):K 380 [LI m] [.b (CV m)]:=by
 refine qb I380 ?_;by_cases l:m.length<=16
 .refine wW ?_;refine AR (λi=>H6 m i) (λi=>[LI m,.u,.u,.u,.u,LI m,.n m.length,.n i,.u,.u]) m.length (by simp[H6]) rfl (λi hi P=>?_) (λP=>?_)
  .refine wW ?_
   cases H:A4 0 ((m.length:Int)-1) (AB m i)
   .repeat(refine cB CN ?_;try simp(disch:=omega) only[AD,H])
    rw[LG λq=>by have:=(q i hi).1;rw[H]at this;cases this]
   have e:=Af.1 H;repeat(refine cB CN ?_;try simp(disch:=omega) only[AD,H])
   by_cases a:AB m i=i;simp(disch:=omega) only[AD,a];rw[LG λq=>(q i hi).2.1 a];refine wW ?_;by_cases c:AB m (AB m i)=i;refine wW ?_;exact Cw P ⟨H,a,c⟩;refine wW ?_;rw[LG λq=>c (q i hi).2.2]
  refine wW ?_;simp[CV,l,P]
 refine wW ?_;simp[CV,l]
theorem Qd[HA K]{m:List Int}(h:m.length<=1099511627776):K 379 [LI m] [.b (CV m)]:=by
 refine qw I379 ?_;refine AR (λi=>H6 m i) (λi=>[LI m,.u,.n i,.u,.u]) m.length (by simp[H6]) rfl (λi hi P=>?_) (λP=>?_)
 .refine wW ?_
  cases H:A4 0 ((m.length:Int)-1) (AB m i)
  .repeat(refine cB Cl ?_;try simp(disch:=omega) only[AD,H])
   rw[LG λq=>by have:=(q i hi).1;rw[H]at this;cases this]
  have e:=Af.1 H;repeat(refine cB Cl ?_;try simp(disch:=omega) only[AD,H])
  by_cases a:AB m i=i;simp(disch:=omega) only[AD,a];rw[LG λq=>(q i hi).2.1 a];refine wW ?_;by_cases c:AB m (AB m i)=i;refine wW ?_;exact Cw P ⟨H,a,c⟩;refine wW ?_;rw[LG λq=>c (q i hi).2.2]
 refine wW ?_;simp[CV,P];omega
def CG(g:Nat->Nat):Nat->Nat
 |0=>0
 |n+1=>CG g n+g n
theorem KQ{g:Nat->Nat}{b:Nat}(h:∀i,g i<=b):∀n,CG g n<=n*b
 |0=>by simp[CG]
 |n+1=>by have:=KQ h n;have:=h n;simp only[CG,Nat.succ_mul];omega
theorem N1{g:Nat->Nat}:∀{n},(∀i,i<n->g i=0)->CG g n=0
 |0,_=>rfl
 |n+1,h=>by simp only[CG];rw[N1 λi hi=>h i (by omega),h n (by omega)]
def EF(m:List Int)(a b:Nat):Nat:=if(a:Int)<b/\(b:Int)<AB m a/\AB m a<AB m b then 1 else 0
def OZ(m:List Int):Nat:=CG (λa=>CG (EF m a) m.length) m.length
theorem AG1{m:List Int}{a b:Nat}:EF m a b<=1:=by unfold EF;split<;>omega
theorem AWQ[HA K]{m:List Int}(h:m.length<=1099511627776):K 369 [LI m] [.n (if CV m=true then(OZ m:Int)else -1)]:=by
 refine qw I369 ?_;refine cB (Qd h) ?_
 cases q:CV m;refine wW ?_;simp;have B:=(GY q).1;rw[if_pos rfl];refine wW ?_;refine BE (λi (c:Nat)=>c=CG (λa=>CG (EF m a) m.length) i) (λi c=>[LI m,.u,.n c,.n i,.u,.u,.u,.u,.u]) m.length 0 rfl rfl (λi c hi P=>?_) (λc P=>?_);subst P;have j:=KQ (g:=λa=>CG (EF m a) m.length) (b:=16) (λa=>by have:=KQ (g:=EF m a) (b:=1) (λ_=>AG1) m.length;omega) i;have h0:CG (EF m i) (i+1)=0:=N1 λb j=>by unfold EF;rw[if_neg (by omega)]
 refine wW ?_;refine Bd (λ(x:Nat×Nat)=>(i+1<=x.1/\x.1<=m.length)/\x.2=CG (EF m i) x.1) (λx=>[LI m,.u,.n (CG (λa=>CG (EF m a) m.length) i+x.2:Nat),.n i,.n x.1,.u,.u,.u,.u]) (λx=>m.length-x.1) (i+1,0) ⟨by omega,h0.symm⟩ rfl ?_;rintro⟨k,c⟩ ⟨l,H⟩;simp only at l H|-;subst H;have s:=KQ (g:=EF m i) (b:=1) (λ_=>AG1) k;by_cases o:k<m.length;have f:CG (EF m i) (k+1)=CG (EF m i) k+EF m i k:=rfl;by_cases Q:(k:Int)<AB m i;by_cases C:AB m i<AB m k;have e:EF m i k=1:=if_pos (by omega);refine wW ?_;exact⟨(k+1,CG (EF m i) (k+1)),by show m.length-(k+1)<m.length-k;omega,⟨by show i+1<=k+1/\k+1<=m.length;omega,rfl⟩,by rw[f,e];simp;omega⟩;have e:EF m i k=0:=if_neg (by omega);refine wW ?_;exact⟨(k+1,CG (EF m i) (k+1)),by show m.length-(k+1)<m.length-k;omega,⟨by show i+1<=k+1/\k+1<=m.length;omega,rfl⟩,by rw[f,e];simp⟩;have e:EF m i k=0:=if_neg (by omega);refine wW ?_;exact⟨(k+1,CG (EF m i) (k+1)),by show m.length-(k+1)<m.length-k;omega,⟨by show i+1<=k+1/\k+1<=m.length;omega,rfl⟩,by rw[f,e];simp⟩;obtain rfl:k=m.length:=by omega
 refine wW ?_;exact⟨_,rfl,rfl⟩;subst P;exact wZ
def EG(m:List Int):Bool:=CV m&&decide (OZ m=0)
theorem AU0{m:List Int}:decide ((if CV m=true then(OZ m:Int)else -1)=0)=EG m:=by
 unfold EG
 cases CV m;rfl;simp
theorem TP[HA K]{m:List Int}(h:m.length<=1099511627776):K 355 [LI m] [.b (EG m)]:=by refine qw I355 ?_;refine cB (AWQ h) ?_;simp(disch:=omega) only[AD,AU0]
theorem Wn{w:List Nat}{m:List Int}(l:w.length<=16)(h:PP w m):CV m=true:=by
 have key:H6 m m.length:=by
  intro j k;have i:=Ac9 h k;obtain⟨f,H⟩:=h;obtain⟨b,e,q⟩:=H j (by omega);have g:b<w.length:=by rcases q with q|q<;>have:=q.2.1<;>have:=q.1<;>omega
  obtain⟨c,a,Q⟩:=H b g;refine⟨Af.2 (by omega),?_,?_⟩;rcases q with q|q<;>have:=q.1<;>omega;rw[e,a];rcases q with q|q<;>rcases Q with Q|Q;exact(Ra q Q).elim;rw[Yu q Q];rw[SY q Q];exact(Ra Q q).elim
 have f:=h.1;simp only[CV,AU,Ad];exact⟨by omega,key⟩
theorem AOV{w:List Nat}{m:List Int}(h:PP w m):OZ m=0:=by obtain⟨g,H⟩:=h;refine N1 λa i=>N1 λb j=>if_neg ?_;rintro⟨P,k,l⟩;obtain⟨c,e,q⟩:=H a (by omega);obtain⟨d,f,Q⟩:=H b (by omega);rcases q with q|q;rcases Q with Q|Q;exact APO q Q (by omega);have:=Q.1;omega;have:=q.1;omega
theorem AW2{w:List Nat}{m:List Int}(l:w.length<=16)(h:PP w m):EG m=true:=by simp[EG,Wn l h,AOV h]
end Go.Cat
