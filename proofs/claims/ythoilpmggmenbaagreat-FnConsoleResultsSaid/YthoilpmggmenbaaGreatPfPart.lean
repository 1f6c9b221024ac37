/-
 Partitions of a path: blocks, numbers of blocks.
-/
import Derived.Test.YthoilpmggmenbaaGreatPfPlane
set_option linter.unusedSimpArgs false
set_option linter.unusedVariables false
namespace Go.Cat
variable{K:Nat->List D->List D->Prop}
def Dz(p:List Int):Nat->Int
 |0=>0
 |i+1=>max (Dz p i) (AB p i+1)
def Ex(p:List Int)(i:Nat):Prop:=∀j:Nat,j<i->A4 0 (Dz p j) (AB p j)=true
instance{p:List Int}{i:Nat}:Decidable (Ex p i):=by unfold Ex;infer_instance
def CJ(p:List Int):Bool:=decide (p.length<=8)&&decide (Ex p p.length)
theorem Hk{p:List Int}:∀{i:Nat},Ex p i->0<=Dz p i/\Dz p i<=i
 |0,_=>by simp[Dz]
 |i+1,h=>by have H:=Hk (p:=p) (i:=i) λj b=>h j (by omega);have a:=Af.1 (h i (by omega));simp only[Dz];omega
theorem ANH{p:List Int}(h:¬Ex p p.length):CJ p=false:=by simp[CJ,h]
theorem Wr[HA K]{p:List Int}(h:p.length<=1099511627776):K 478 [LI p] [.b (CJ p)]:=by
 refine qb I478 ?_;by_cases l:p.length<=8;refine wW ?_;refine AR (λi=>Ex p i) (λi=>[.u,.u,.n (Dz p i),.u,.u,LI p,.n p.length,.n i,.u,.u]) p.length (by simp[Ex]) rfl (λi hi P=>?_) (λP=>?_);have a:=Hk P;refine wW ?_;refine cB CN ?_
 cases H:A4 0 (Dz p i) (AB p i);refine wW ?_;rw[ANH λq=>by have:=q i hi;rw[H]at this;cases this];have:=Af.1 H;refine wW ?_;refine⟨Cw P H,?_⟩;simp only[Dz];refine wW ?_;simp[CJ,l,P];refine wW ?_;simp[CJ,l]
theorem Nu[HA K]{p:List Int}(h:p.length<=1099511627776):K 324 [LI p] [.b (CJ p)]:=by
 refine qw I324 ?_;refine AR (λi=>Ex p i) (λi=>[LI p,.u,.n (Dz p i),.n i,.u,.u,.u]) p.length (by simp[Ex]) rfl (λi hi P=>?_) (λP=>?_);have a:=Hk P;refine wW ?_;refine cB Cl ?_
 cases H:A4 0 (Dz p i) (AB p i);refine wW ?_;rw[ANH λq=>by have:=q i hi;rw[H]at this;cases this];have:=Af.1 H;by_cases he:AB p i=Dz p i;have e:Dz p (i+1)=Dz p i+1:=by simp only[Dz];omega
 rw[e];refine wW ?_;exact Cw P H;have e:Dz p (i+1)=Dz p i:=by simp only[Dz];omega
 rw[e];refine wW ?_;exact Cw P H;refine wW ?_;simp[CJ,P];omega
def Ak(p:List Int):Nat->List (List Int)
 |0=>[]
 |i+1=>
  let o:=if AB p i=(Ak p i).length then Ak p i++[[]]else Ak p i
  D9 o (AB p i) (AF o (AB p i)++[(i:Int)])
theorem Jj{p:List Int}:∀{i:Nat},Ex p i->((Ak p i).length:Int)=Dz p i
 |0,_=>rfl
 |i+1,h=>by have H:=Jj (p:=p) (i:=i) λj b=>h j (by omega);have a:=Af.1 (h i (by omega));simp only[Ak,Dz,VF];split;simp only[AZ,AO,Aa];omega;omega
theorem Ku{p:List Int}:∀{i:Nat}{r:List Int},r∈Ak p i->r.length<=i
 |0,r,h=>by simp[Ak]at h
 |i+1,r,h=>by
  have o:∀r∈(if AB p i=(Ak p i).length then Ak p i++[[]]else Ak p i),r.length<=i:=by
   intro r H
   split at H
   rcases Ac.1 H with q|q
   exact Ku q
   simp at q;subst q;simp
   exact Ku H
  simp only[Ak,D9]at h
  rcases List.mem_or_eq_of_mem_set h with q|q
  have:=o _ q;omega
  subst q
  have:(AF (if AB p i=(Ak p i).length then Ak p i++[[]]else Ak p i) (AB p i)).length<=i:=by
   simp only[AF]
   rcases B7 (AB p i).toNat (if AB p i=(Ak p i).length then Ak p i++[[]]else Ak p i).length with q|q
   rw[Ap,GB q]
   exact o _ (List.getElem_mem q)
   rw[Ap,D7 q];simp
  simp only[AZ,AO,Aa];omega
theorem AF5:D.l []=LL []:=rfl
theorem AH2{a b:List (List Int)}(h:a.length+b.length<=1099511627776):Ev false (LL a) (LL b)=some (LL (a++b)):=KU ⟨h,rfl⟩
theorem ABC:EK [D.l []]=some (LL [[]]):=rfl
theorem AHR[HA K]{p:List Int}(h:p.length<=1099511627776):K 479 [LI p] [LL (if CJ p=true then Ak p p.length else [])]:=by
 refine qw I479 ?_;refine cB (Wr h) ?_
 cases hp:CJ p;exact wZ;have c:Ex p p.length/\p.length<=8:=by simp[CJ]at hp;exact⟨hp.2,hp.1⟩
 obtain⟨c,k⟩:=c;refine wW ?_;rw[AF5];refine AR (λ_=>True) (λi=>[.u,.u,LL (Ak p i),.u,.u,.u,LI p,.n p.length,.n i,.u,.u]) p.length trivial rfl (λi hi _=>?_) (λ_=>?_);have a:Ex p i:=λj s=>c j (by omega);have x:=Jj a;have q:=Hk a;have g:=Af.1 (c i hi);by_cases he:AB p i=(Ak p i).length;obtain⟨o,b⟩:∃o,o=Ak p i++[[]]:=⟨_,rfl⟩;have e:Ak p (i+1)=D9 o (AB p i) (AF o (AB p i)++[(i:Int)]):=by rw[b];simp only[Ak];rw[if_pos he]
 have l:o.length=(Ak p i).length+1:=by rw[b];simp
 have H:(AF o (AB p i)).length<=i:=by
  have:AF o (AB p i)=[]:=by rw[b,he];simp[AF]
  rw[this];simp
 rw[e];simp(disch:=try exact dV) only[AD,ABC,AH2,<-b,M5,ND];have e:Ak p (i+1)=D9 (Ak p i) (AB p i) (AF (Ak p i) (AB p i)++[(i:Int)]):=by simp only[Ak];rw[if_neg he]
 have H:(AF (Ak p i) (AB p i)).length<=i:=by obtain⟨n,f⟩:=CZ g.1;rw[f];exact Ku (G8 (i:=n) (by omega))
 rw[e];simp(disch:=try exact dV) only[AD,M5,ND];refine wW ?_;all_goals simp
theorem VV[HA K]{p:List Int}(h:p.length<=1099511627776):K 302 [LI p] [LL (if CJ p=true then Ak p p.length else [])]:=by
 refine qw I302 ?_;rw[AF5]
 cases hp:CJ p
 .refine Bd (λ(_:Unit)=>True) (λ_=>[LI p,.u,LL [],.n 0,.u,.u]) (λ_=>0) () trivial rfl (λ_ _=>?_);by_cases h0:0<p.length
  .refine wW ?_;repeat(refine cB (Nu h) ?_;try simp(disch:=try exact dV) only[AD,hp])
   simp
  refine wW ?_;simp
 have c:Ex p p.length/\p.length<=8:=by simp[CJ]at hp;exact⟨hp.2,hp.1⟩
 obtain⟨c,k⟩:=c;simp only[if_true];refine AR (λ_=>True) (λi=>[LI p,.u,LL (Ak p i),.n i,.u,.u]) p.length trivial rfl (λi hi _=>?_) (λ_=>?_)
 .have a:Ex p i:=λj s=>c j (by omega);have x:=Jj a;have q:=Hk a;have g:=Af.1 (c i hi);by_cases he:AB p i=(Ak p i).length
  .obtain⟨o,b⟩:∃o,o=Ak p i++[[]]:=⟨_,rfl⟩;have e:Ak p (i+1)=D9 o (AB p i) (AF o (AB p i)++[(i:Int)]):=by rw[b];simp only[Ak];rw[if_pos he]
   have l:o.length=(Ak p i).length+1:=by rw[b];simp
   have H:(AF o (AB p i)).length<=i:=by
    have:AF o (AB p i)=[]:=by rw[b,he];simp[AF]
    rw[this];simp
   rw[e];refine wW ?_;repeat(refine cB (Nu h) ?_;try simp(disch:=try exact dV) only[AD,hp])
   simp(disch:=try exact dV) only[AD,ABC,AH2,<-b,M5,ND]
  have e:Ak p (i+1)=D9 (Ak p i) (AB p i) (AF (Ak p i) (AB p i)++[(i:Int)]):=by simp only[Ak];rw[if_neg he]
  have H:(AF (Ak p i) (AB p i)).length<=i:=by obtain⟨n,f⟩:=CZ g.1;rw[f];exact Ku (G8 (i:=n) (by omega))
  rw[e];refine wW ?_;repeat(refine cB (Nu h) ?_;try simp(disch:=try exact dV) only[AD,hp])
 exact wZ
def Ck:List Int->Int->Nat
 |[],_=>0
 |y::t,x=>if y=x then 0 else Ck t x+1
theorem SM{x:Int}:∀{l:List Int},Ck l x<=l.length
 |[]=>Nat.le_refl _
 |y::t=>by have:=SM (x:=x) (l:=t);unfold Ck;split<;>simp<;>omega
theorem IW{x:Int}:∀{l:List Int},Ck l x<l.length↔x∈l
 |[]=>by simp[Ck]
 |y::t=>by have:=IW (x:=x) (l:=t);unfold Ck;by_cases h:y=x;simp[h];rw[if_neg h];simp only[AO,Nat.add_lt_add_iff_right,this,AY];constructor;exact λq=>.inr q;rintro(q|q);exact absurd q.symm h;exact q
theorem Ue{x:Int}:∀{l:List Int},x∈l->AB l (Ck l x)=x
 |[],h=>by cases h
 |y::t,h=>by
  unfold Ck
  by_cases H:y=x
  rw[if_pos H];simp[AB,H]
  rw[if_neg H]
  have a:x∈t:=by
   rcases AY.1 h with q|q
   exact absurd q.symm H
   exact q
  have:=Ue a
  simpa[AB]using this
theorem AGS{x:Int}{b:List Int}:∀{a:List Int},x∈a->Ck (a++b) x=Ck a x
 |[],h=>by cases h
 |y::t,h=>by
  simp only[List.cons_append,Ck]
  by_cases H:y=x
  rw[if_pos H,if_pos H]
  rw[if_neg H,if_neg H]
  have c:x∈t:=by
   rcases AY.1 h with q|q
   exact absurd q.symm H
   exact q
  rw[AGS c]
def Au(l:List Int):Nat->List Int
 |0=>[]
 |i+1=>if AB l i∈Au l i then Au l i else Au l i++[AB l i]
def Cq(l:List Int):Nat->List Int
 |0=>[]
 |i+1=>Cq l i++[(Ck (Au l i) (AB l i):Int)]
theorem Nz{l:List Int}:∀i,(Cq l i).length=i
 |0=>rfl
 |i+1=>by simp[Cq,Nz i]
theorem SS{l:List Int}:∀i,(Au l i).length<=i
 |0=>by simp[Au]
 |i+1=>by have:=SS (l:=l) i;unfold Au;split;omega;simp;omega
theorem Pu{l:List Int}{x:Int}:∀{i:Nat},x∈Au l i↔∃k:Nat,k<i/\AB l k=x
 |0=>by simp[Au]
 |i+1=>by
  have I:=Pu (l:=l) (x:=x) (i:=i)
  have key:x∈Au l (i+1)↔x∈Au l i\/AB l i=x:=by
   have e:Au l (i+1)=if AB l i∈Au l i then Au l i else Au l i++[AB l i]:=rfl
   rw[e]
   split
   rename_i h
   constructor
   exact λq=>.inl q
   rintro(q|q)
   exact q
   rw[<-q];exact h
   simp only[Ac,List.mem_singleton]
   constructor
   rintro(q|q)
   exact .inl q
   exact .inr q.symm
   rintro(q|q)
   exact .inl q
   exact .inr q.symm
  rw[key,I]
  constructor
  rintro(⟨k,a,H⟩|h)
  exact⟨k,by omega,H⟩
  exact⟨i,by omega,h⟩
  rintro⟨k,a,H⟩
  rcases B7 k i with q|q
  exact .inl ⟨k,q,H⟩
  obtain rfl:k=i:=by omega
  exact .inr H
theorem AGV{l:List Int}:∀{i k:Nat},k<i->AB (Cq l i) k=Ck (Au l i) (AB l k)
 |0,k,h=>by omega
 |i+1,k,h=>by
  have g:=Nz (l:=l) i
  have H:∀{x:Int},x∈Au l i->Ck (Au l (i+1)) x=Ck (Au l i) x:=by
   intro x b
   simp only[Au]
   split
   rfl
   exact AGS b
  rcases B7 k i with q|q
  have I:=AGV (l:=l) (i:=i) (k:=k) q
  rw[H (Pu.2 ⟨k,q,rfl⟩),<-I]
  simp only[Cq,AB,Ap]
  rw[DP (by simpa[g]using q)]
  obtain rfl:k=i:=by omega
  have e:AB (Cq l (k+1)) k=(Ck (Au l k) (AB l k):Int):=by
   simp only[Cq,AB,Ap,BM]
   rw[GK (by omega)]
   simp[g]
  rw[e]
  by_cases b:AB l k∈Au l k
  rw[H b]
  have j:Au l (k+1)=Au l k++[AB l k]:=by simp only[Au];rw[if_neg b]
  have f:∀(a:List Int),AB l k∉a->Ck (a++[AB l k]) (AB l k)=a.length/\Ck a (AB l k)=a.length:=by
   intro a c
   induction a with
   |nil=>simp[Ck]
   |cons y t I=>
    simp only[AY,not_or]at c
    have:=I c.2
    simp only[List.cons_append,Ck,if_neg (λq=>c.1 (Eq.symm q)),AO,this,and_self]
  rw[j,(f _ b).1,(f _ b).2]
theorem ACR[HA K]{l:List Int}(h:l.length<=8):K 475 [LI l] [LI (Cq l l.length),.b true]:=by
 refine qw I475 ?_;rw[N8];refine AR (λ_=>True) (λi=>[LI l,.u,.u,LI (Cq l i),.n (Au l i).length,.u,.u,.u,.u,.u,.u,LI l,.n l.length,.n i,.u,.u,.u,.u,.u,.u,.u]) l.length trivial rfl (λi hi _=>?_) (λ_=>?_);have M:=Nz (l:=l) i;have L:=SS (l:=l) i;have H:(sub l 0 (i:Int)).length=i:=by rw[LO];omega
 have o:∀k:Nat,k<i->AB (sub l 0 (i:Int)) k=AB l k:=by intro k c;simp[AB,sub,Ap,List.getElem?_take,c]
 obtain⟨B,g⟩:∃B:Nat,B=Ck (Au l i) (AB l i):=⟨_,rfl⟩;have J:B<=(Au l i).length:=by rw[g];exact SM
 have C:Cq l (i+1)=Cq l i++[(B:Int)]:=by simp only[Cq,g]
 have F:((Au l (i+1)).length:Int)=if B=(Au l i).length then(Au l i).length+1 else(Au l i).length:=by simp only[Au];by_cases f:AB l i∈Au l i;have:=IW.2 f;rw[if_pos f,if_neg (by omega)];have:¬Ck (Au l i) (AB l i)<(Au l i).length:=λq=>f (IW.1 q);rw[if_neg f,if_pos (by omega)];simp
 rw[C,F];simp(disch:=try exact dV) only[AD,H];refine BE (λk (_:Unit)=>∀j:Nat,j<k->AB l j≠AB l i) (λk _=>[LI l,.u,.u,LI (Cq l i),.n (Au l i).length,.u,.n (AB l i),.n (Au l i).length,.u,.u,.u,LI l,.n l.length,.n i,.u,LI (sub l 0 (i:Int)),.n i,.n k,.u,.u,.u]) i () (by simp) rfl (λk _ c P=>?_) (λ_ P=>?_);have s:=o k c;by_cases he:AB l i=AB l k;have x:=AGV (l:=l) c;rw[<-he,<-g]at x;have a:AB l i∈Au l i:=Pu.2 ⟨k,c,he.symm⟩;have:=IW.2 a;have N:¬((2:Nat)=3):=by omega
 rw[if_neg (by omega)];simp(disch:=try exact dV) only[AD,H,s,x,if_neg N];simp(disch:=try exact dV) only[AD,H,s];exact⟨(),Cw P λq=>he q.symm⟩;have a:¬AB l i∈Au l i:=λq=>by obtain⟨k,G,I⟩:=Pu.1 q;exact P k G I
 have:¬Ck (Au l i) (AB l i)<(Au l i).length:=λq=>a (IW.1 q);have e:B=(Au l i).length:=by omega
 rw[if_pos e];refine wW ?_;rw[e];exact wZ
theorem AK4{l:List Int}:∀i,(Au l i).Nodup
 |0=>by simp[Au]
 |i+1=>by have I:=AK4 (l:=l) i;have e:Au l (i+1)=if AB l i∈Au l i then Au l i else Au l i++[AB l i]:=rfl;rw[e];split;exact I;rename_i h;rw[List.nodup_append];refine⟨I,by simp,λa c b H=>?_⟩;rw[List.mem_singleton]at H;subst H;intro q;exact h (q▸c)
theorem AT2{a:List Int}(h:a.Nodup){j k:Nat}(H:j<a.length)(b:k<a.length)(e:AB a j=AB a k):j=k:=by
 have e:a[j]=a[k]:=by simpa[AB,H,b]using e
 have c:=List.pairwise_iff_getElem.1 h;rcases Nat.lt_trichotomy j k with q|q|q;exact absurd e (c j k H b q);exact q;exact absurd e.symm (c k j b H q)
theorem XG[HA K]{l:List Int}(h:l.length<=1000000):K 323 [LI l] [LI (Cq l l.length)]:=by
 refine qw I323 ?_;rw[N8];refine AR (λ_=>True) (λi=>[LI l,.u,LI (Cq l i),LI (Au l i),.n i,.u,.u,.u,.u,.u,.u]) l.length trivial rfl (λi hi _=>?_) (λ_=>?_);have L:=Nz (l:=l) i;have J:=SS (l:=l) i;obtain⟨B,c⟩:∃B:Nat,B=Ck (Au l i) (AB l i):=⟨_,rfl⟩;have G:B<=(Au l i).length:=by rw[c];exact SM
 have F:Cq l (i+1)=Cq l i++[(B:Int)]:=by simp only[Cq,c]
 rw[F];refine wW ?_;refine BE (λk (a:Int)=>(a=-1/\∀j:Nat,j<k->AB (Au l i) j≠AB l i)\/(a=B/\B<k)) (λk a=>[LI l,.u,LI (Cq l i),LI (Au l i),.n i,.n a,.n k,.u,.u,.u,.u]) (Au l i).length (-1) (.inl ⟨rfl,by simp⟩) rfl (λk a C P=>?_) (λa P=>?_);by_cases he:AB (Au l i) k=AB l i;have H:AB l i∈Au l i:=by rw[<-he];simp[AB,C]
 have s:B=k:=by have e:=IW.2 H;have x:=Ue H;rw[<-c]at e x;exact AT2 (AK4 i) e C (by rw[x,he])
 simp(disch:=try exact dV) only[AD,he];exact⟨_,.inr ⟨by rw[s],by omega⟩,rfl⟩;refine wW ?_;refine⟨a,?_,rfl⟩;rcases P with⟨g,b⟩|⟨g,b⟩;exact .inl ⟨g,Cw b he⟩;exact .inr ⟨g,by omega⟩;rcases P with⟨rfl,b⟩|⟨rfl,b⟩;have H:AB l i∉Au l i:=λq=>by have e:=IW.2 q;exact b _ e (Ue q)
 have I:¬Ck (Au l i) (AB l i)<(Au l i).length:=λq=>H (IW.1 q);have o:B=(Au l i).length:=by omega
 have f:Au l (i+1)=Au l i++[AB l i]:=by simp only[Au];rw[if_neg H]
 rw[f,o];exact wZ;have H:AB l i∈Au l i:=IW.1 (by rw[<-c];exact b);have f:Au l (i+1)=Au l i:=by simp only[Au];rw[if_pos H]
 rw[f];exact wZ;exact wZ
def Cr(w:List Nat)(g:Nat->Int):Nat->List Int
 |0=>[]
 |i+1=>if AI w i=117 then Cr w g i++[g i]else Cr w g i
def CD(w:List Nat)(i:Nat):Nat:=AA (w.take i) 117
theorem G9{w:List Nat}{i:Nat}(h:i<w.length):CD w (i+1)=CD w i+(if AI w i=117 then 1 else 0):=by
 have e:w.take (i+1)=w.take i++[AI w i]:=by rw[CO h];simp[AI,h]
 simp only[CD,e,IM];congr 1;by_cases q:AI w i=117;rw[if_pos q,q];simp[AA];rw[if_neg q];simp only[AA,List.count_cons,List.count_nil];rw[if_neg];simpa using q
theorem RE{w:List Nat}{g:Nat->Int}:∀{i:Nat},i<=w.length->(Cr w g i).length=CD w i
 |0,_=>by simp[Cr,CD,AA]
 |i+1,h=>by have I:=RE (w:=w) (g:=g) (i:=i) (by omega);rw[G9 (by omega)];unfold Cr;split;simp[I];simp[I]
theorem AEN{w:List Nat}{g G:Nat->Int}:∀{i:Nat},(∀a,a<i->AI w a=117->g a=G a+1)->Cr w g i=(Cr w G i).map (·+1)
 |0,_=>rfl
 |i+1,h=>by have I:=AEN (w:=w) (i:=i) λa b=>h a (by omega);simp only[Cr];split;rename_i H;rw[I,h i (by omega) H];simp;exact I
theorem AD4{x:Int}:∀{l:List Int},Ck (l.map (·+1)) (x+1)=Ck l x
 |[]=>rfl
 |y::t=>by simp only[List.map_cons,Ck];by_cases h:y=x;rw[if_pos h,if_pos (by omega)];rw[if_neg h,if_neg (by omega),AD4]
theorem ANA{l:List Int}:∀{i:Nat},i<=l.length->Au (l.map (·+1)) i=(Au l i).map (·+1)
 |0,_=>rfl
 |i+1,h=>by
  have I:=ANA (l:=l) (i:=i) (by omega);have e:AB (l.map (·+1)) i=AB l i+1:=by simp[AB,show i<l.length by omega]
  simp only[Au,I,e];by_cases H:AB l i∈Au l i;rw[if_pos H,if_pos (List.mem_map.2 ⟨_,H,rfl⟩)];rw[if_neg H,if_neg];simp;intro q;obtain⟨y,a,b⟩:=List.mem_map.1 q;have:y=AB l i:=by omega
  exact H (this▸a)
theorem Yh{l:List Int}:∀{i:Nat},i<=l.length->Cq (l.map (·+1)) i=Cq l i
 |0,_=>rfl
 |i+1,h=>by
  have I:=Yh (l:=l) (i:=i) (by omega);have e:AB (l.map (·+1)) i=AB l i+1:=by simp[AB,show i<l.length by omega]
  simp only[Cq,I,e,ANA (show i<=l.length by omega),AD4]
theorem IL{w:List Nat}{a:Nat}:∀{b:Nat},a<=b->b<=w.length->CD w a<=CD w b
 |0,h,_=>by
  obtain rfl:a=0:=by omega
  exact Nat.le_refl _
 |b+1,h,H=>by
  rcases B7 a (b+1)with q|q;have:=IL (w:=w) (a:=a) (b:=b) (by omega) (by omega)
  rw[G9 (by omega)];omega;obtain rfl:a=b+1:=by omega
  exact Nat.le_refl _
theorem Ka{w:List Nat}(hd:AK w=true):2*CD w w.length=w.length:=by
 have h:=A8 hd;have s:steps w=true:=by rw[ALA];exact Mn hd
 simp only[steps,Ad]at s;have he:=h.he;simp only[Hh,List.take_length]at he;simp only[CD,List.take_length];omega
def D8(w:List Nat)(k:Nat):Nat:=Cz 100 117 (λ_=>1) w k
def E0(w:List Nat)(k:Nat):Nat:=Cz 117 100 (λ_=>1) w k
theorem TC{a b:Nat}{w:List Nat}:∀{i:Nat},Cz a b (λ_=>1) w i<=i
 |0=>by simp[Cz,CG]
 |i+1=>by have:=TC (a:=a) (b:=b) (w:=w) (i:=i);simp only[Cz,CG]at this|-;split<;>omega
theorem ACD{w:List Nat}(hd:AK w=true):∀{k:Nat},k<w.length->E0 w k=D8 w k+(if AI w k=100 then 1 else 0)
 |0,h=>by
  have a:=A8 hd
  have j:=a.h0 1 (by omega)
  have i:AI w 0=117:=by
   rcases a.ud 0 h with q|q
   exact q
   have:=Ej h q;rw[Ef]at this;simp at this;omega
  have e:AI w ((0:Nat):Int)=117:=i
  rw[if_neg (by omega)]<;>rfl
 |k+1,h=>by
  have a:=A8 hd
  have I:=ACD hd (k:=k) (by omega)
  have c:E0 w (k+1)=E0 w k+(if AI w k=117/\AI w ((k:Int)+1)=100 then 1 else 0):=rfl
  have f:D8 w (k+1)=D8 w k+(if AI w k=100/\AI w ((k:Int)+1)=117 then 1 else 0):=rfl
  have g:((k+1:Nat):Int)=(k:Int)+1:=by omega
  have b:=a.ud k (by omega)
  have H:=a.ud (k+1) h
  rw[g]at H|-
  rw[c,f,I]
  rcases b with b|b<;>rcases H with H|H<;>simp[b,H]
theorem AQT{n a:Nat}:AB (rep (n:Int) 0) a=0:=by simp only[AB,rep,Ap,List.getElem?_replicate];split<;>rfl
theorem AOL[HA K]{w:List Nat}(hd:AK w=true):∃rs,(∃m,PP w m/\rs=[LI (Cq (Cr w (λa=>(E0 w (AB m a).toNat:Int)) w.length) (CD w w.length)),.b true])/\K 503 [.s w] rs:=by
 have R:=A8 hd;have hl:=R.l;have W:=Ka hd;obtain⟨_,⟨m,rfl,F⟩,Z⟩:=Qz (K:=K) hd;have U:=F.1;refine qx I503 ?_;refine wW ?_;repeat(refine cB (Bf (by omega)) ?_;try simp(disch:=try exact dV) only[AD,hd])
 refine cW Z ?_;refine BE (λi (x:List Int)=>x.length=w.length/\∀a:Nat,a<w.length->a<i+1->AB x a=E0 w a) (λi x=>[.s w,.u,.u,LI m,LI x,.n (E0 w i),.n ((i:Int)+1),.u,.u,.u,.u,.u,.u,.u]) (w.length-1) (rep w.length 0) ⟨by simp[rep],λa H f=>by
  obtain rfl:a=0:=by omega
  rw[AQT];rfl⟩ rfl (λi x hi P=>?_) (λx P=>?_)
 obtain⟨M,o⟩:=P;have k:=TC (a:=117) (b:=100) (w:=w) (i:=i);have c:E0 w (i+1)=E0 w i+(if AI w i=117/\AI w ((i:Int)+1)=100 then 1 else 0):=rfl;have T:E0 w i<=i:=k;have h:∀z:Int,z=E0 w (i+1)->(B9 x ((i:Int)+1) z).length=w.length/\∀a:Nat,a<w.length->a<i+1+1->AB (B9 x ((i:Int)+1) z) a=E0 w a:=by
  intro z Y;refine⟨by rw[DD,M],λa H f=>?_⟩;have Q:((i:Int)+1)=((i+1:Nat):Int):=by omega
  rw[Q,Gb (by omega)];by_cases q:i+1=a;subst q;rw[if_pos rfl,Y];rw[if_neg q];exact o a H (by omega)
 by_cases H:AI w ((i:Int)+1)=100;by_cases f:AI w i=117;rw[if_pos ⟨f,H⟩]at c;simp(disch:=try exact dV) only[AD,H,f,Bl];refine⟨_,h ((E0 w i:Int)+1) (by rw[c];simp),?_⟩;rw[c];simp;rw[if_neg λq=>f q.1]at c;simp(disch:=try exact dV) only[AD,H,Bl];refine⟨_,h (E0 w i:Int) (by rw[c];simp),?_⟩;rw[c];simp;rw[if_neg λq=>H q.2]at c;refine wW ?_;refine⟨_,h (E0 w i:Int) (by rw[c];simp),?_⟩;rw[c];simp;obtain⟨M,o⟩:=P;refine wW ?_;rw[N8];obtain⟨G,N⟩:∃G:Nat->Int,G=λ(a:Nat)=>(E0 w (AB m (a:Int)).toNat:Int):=⟨_,rfl⟩;refine AR (λ_=>True) (λi=>[.s w,.u,.u,LI m,LI x,.u,.u,LI (Cr w G i),.n i,.u,.u,.u,.u,.u]) w.length trivial rfl (λi hi _=>?_) (λ_=>?_);have j:=RE (w:=w) (g:=G) (i:=i) (by omega);have I:=IL (w:=w) (a:=i) (b:=w.length) (by omega) (by omega);obtain⟨b,k,V⟩:=F.2 i hi;have C:b<w.length:=by rcases V with q|q<;>have:=q.1<;>have:=q.2.1<;>omega
 have L:=o b C (by omega);have B:G i=E0 w b:=by rw[N];simp only[k,BM]
 by_cases J:AI w i=117;have e:Cr w G (i+1)=Cr w G i++[(E0 w b:Int)]:=by simp only[Cr];rw[if_pos J,B]
 rw[e];simp(disch:=try exact dV) only[AD,J,k,L];have e:Cr w G (i+1)=Cr w G i:=by simp only[Cr];rw[if_neg J]
 rw[e];exact wZ;have j:=RE (w:=w) (g:=G) (i:=w.length) (by omega);have O:=ACR (K:=K) (l:=Cr w G w.length) (by omega);rw[j]at O;refine wW ?_;refine cW O ?_;exact⟨m,F,by rw[N]⟩
def PB(w:List Nat)(i:Nat)(bl:List Int)(st:List Nat):Prop:=
 SO w st i/\(∀j∈st,AI w j=117)/\bl.length=w.length/2/\∀a k:Nat,a<i->AI w a=117->a∉st->PR w a k->AB bl (CD w a)=D8 w k
theorem AQM{w:List Nat}{a b:Nat}(c:a<w.length)(e:b<w.length)(U:AI w a=117)(f:AI w b=117)(h:CD w a=CD w b):a=b:=by
 rcases Nat.lt_trichotomy a b with q|q|q;have H:=G9 c;rw[if_pos U]at H;have:=IL (w:=w) (a:=a+1) (b:=b) (by omega) (by omega)
 omega;exact q;have H:=G9 e;rw[if_pos f]at H;have:=IL (w:=w) (a:=b+1) (b:=a) (by omega) (by omega);omega
theorem AW4{w:List Nat}{i:Nat}{bl:List Int}{st:List Nat}(h:PB w i bl st)(hi:i<w.length)(c:AI w i=117):PB w (i+1) bl (i::st):=by obtain⟨f,g,l,o⟩:=h;refine⟨AFO f hi c,λj s=>?_,l,λa k B H b x=>?_⟩;rcases AY.1 s with rfl|q;exact c;exact g j q;have e:a≠i:=λe=>b (by rw[e];exact List.mem_cons_self ..);exact o a k (by omega) H (λq=>b (BL _ q)) x
theorem AO5{w:List Nat}{i j:Nat}{bl:List Int}{st:List Nat}(hd:AK w=true)(h:PB w i bl (j::st))(hi:i<w.length)(l:AI w i=100):
  CD w j<w.length/2/\PB w (i+1) (B9 bl (CD w j) (D8 w i)) st:=by
 obtain⟨x,f,B,C⟩:=h;obtain⟨Q,I⟩:=Z3 x hi l;have M:=Q.1;have U:=f j (List.mem_cons_self ..);have o:=G9 (w:=w) (i:=j) (by omega);rw[if_pos U]at o;have J:=IL (w:=w) (a:=j+1) (b:=w.length) (by omega) (by omega);have L:=Ka hd;refine⟨by omega,I,λa g=>f a (BL _ g),by rw[DD,B],λa k g H G c=>?_⟩;rw[Gb (by omega)];by_cases e:CD w j=CD w a
 .have s:j=a:=by
   refine AQM (by omega) ?_ U H e
   have:=c.1;have:=c.2.1;omega
  subst s
  rw[if_pos rfl,SY Q c]
 .rw[if_neg e];have F:a≠i:=λq=>by rw[q,l]at H;omega
  refine C a k (by omega) H (λq=>?_) c;rcases AY.1 q with q|q
  .exact e (by rw[q])
  .exact G q
def E9(w:List Nat)(st:List Nat):List Int:=st.map λ(j:Nat)=>(CD w j:Int)
theorem Xh{w:List Nat}{j:Nat}{t:List Nat}:(E9 w (j::t)).reverse=(E9 w t).reverse++[(CD w j:Int)]:=by simp[E9]
theorem ABU{w:List Nat}{bl:List Int}{m:List Int}(hd:AK w=true)(f:PP w m)(h:PB w w.length bl []):∀{i:Nat},i<=w.length->bl.take (CD w i)=Cr w (λa=>(D8 w (AB m a).toNat:Int)) i
 |0,_=>by simp[CD,AA,Cr]
 |i+1,hi=>by
  have I:=ABU hd f h (i:=i) (by omega)
  obtain⟨s,x,B,g⟩:=h
  have e:=G9 (w:=w) (i:=i) (by omega)
  have l:=IL (w:=w) (a:=i+1) (b:=w.length) (by omega) (by omega)
  have o:=Ka hd
  by_cases H:AI w i=117
  rw[if_pos H]at e
  simp only[Cr]
  rw[if_pos H,e,Vt (by omega),I]
  obtain⟨b,j,c⟩:=f.2 i (by omega)
  have c:PR w i b:=by
   rcases c with q|q
   exact q
   have k:=A8 hd
   have:=q.2.2.1
   have:=F6 (i:=i) (by omega) H
   have:=q.2.2.2 i q.1 (Nat.le_refl _)
   omega
  rw[g i b (by omega) H (by simp) c,j]
  simp
  rw[if_neg H]at e
  simp only[Cr]
  rw[if_neg H,e,Nat.add_zero,I]
theorem Yf[HA K]{w:List Nat}{m:List Int}(hd:AK w=true)(W:PP w m):K 301 [.s w] [LI (Cq (Cr w (λa=>(D8 w (AB m a).toNat:Int)) w.length) (CD w w.length)),.b true]:=by
 have F:=A8 hd;have hl:=F.l;have Y:=Ka hd;refine qb I301 ?_;simp(disch:=first|omega|simp only[vl];omega) only[AD];repeat(first|(refine Aq (By (K:=K) (w:=w) (by omega)) rfl ?_;try simp(disch:=first|omega|simp only[vl];omega) only[AD,hd]))
 rw[N8];have R:((w.length:Int)/2)=((w.length/2:Nat):Int):=by omega
 simp(disch:=first|omega|simp only[vl];omega) only[AD,R];refine BE (λi (x:List Int×List Nat×Int)=>PB w i x.1 x.2.1/\(i<w.length->x.2.2=D8 w i)) (λi x=>[.s w,.u,.u,LI x.1,LI (E9 w x.2.1).reverse,.n (CD w i),.n x.2.2,.n i,.u,.u,.u,.u]) w.length (rep (w.length/2:Nat) 0,[],0) ⟨⟨by simp[SO,Ef],by simp,by simp[rep];omega,by omega⟩,λ_=>by simp[D8,Cz,CG]⟩ (by simp[E9,CD,AA]) (λi x hi h=>?_) (λx h=>?_);obtain⟨bl,st,nx⟩:=x;obtain⟨h,f⟩:=h;simp only at h f;have f:=f hi;subst f;have P:=K2 h.1;have hb:=Fx (w:=w) (i:=i);have h1:=F.h0 (i+1) (by omega);have g:=G9 hi;have Z:=IL (w:=w) (a:=i) (b:=w.length) (by omega) (by omega);have B:=TC (a:=100) (b:=117) (w:=w) (i:=i);have B:D8 w i<=i:=B;have hxl:((E9 w st).reverse).length=st.length:=by simp[E9]
 have Q:(E9 w st).length=st.length:=by simp[E9]
 have o:D8 w (i+1)=D8 w i+(if AI w i=100/\AI w ((i:Int)+1)=117 then 1 else 0):=rfl;rcases F.ud i hi with H|H;rw[if_pos H]at g;rw[if_neg (by omega)]at o;rw[g];simp(disch:=first|omega|simp only[vl];omega) only[AD,H];exact⟨(bl,i::st,(D8 w i:Int)),⟨AW4 h hi H,λ_=>by rw[o];simp⟩,by simp only[Xh]⟩;have T:=Ej hi H;rw[if_neg (by omega)]at g
 cases st with
 |nil=>simp at P;omega
 |cons j t=>
  obtain⟨hj,c⟩:=AO5 hd h hi H
  have J:=h.2.2.1
  have C:((E9 w t).reverse).length=t.length:=by simp[E9]
  have V:(E9 w t).length=t.length:=by simp[E9]
  have G:AB ((E9 w t).reverse++[(CD w j:Int)]) t.length=CD w j:=by rw[<-C];exact NH
  have I:sub ((E9 w t).reverse++[(CD w j:Int)]) 0 t.length=(E9 w t).reverse:=by rw[<-C];exact Mh
  have f3:((((E9 w t).reverse++[(CD w j:Int)]).length:Nat):Int)=(t.length:Int)+1:=by simp[E9]
  simp only[AO]at P
  simp only[Xh]
  rw[g]
  by_cases U:(i:Int)+1=w.length
  .have O:=c
   simp(disch:=first|omega|simp only[vl];omega) only[AD,H,f3,G,I,Bl]
   exact⟨(B9 bl (CD w j) (D8 w i),t,(D8 w i:Int)+1),⟨c,λq=>by omega⟩,by simp⟩
  .by_cases k:AI w ((i:Int)+1)=117
   .rw[if_pos ⟨H,k⟩]at o
    simp(disch:=first|omega|simp only[vl];omega) only[AD,H,f3,G,I,Bl,k]
    exact⟨(B9 bl (CD w j) (D8 w i),t,(D8 w i:Int)+1),⟨c,λ_=>by rw[o];simp⟩,by simp⟩
   .rw[if_neg λq=>k q.2]at o
    simp(disch:=first|omega|simp only[vl];omega) only[AD,H,f3,G,I,Bl]
    exact⟨(B9 bl (CD w j) (D8 w i),t,(D8 w i:Int)),⟨c,λ_=>by rw[o];simp⟩,by simp⟩
 obtain⟨bl,st,nx⟩:=x;obtain⟨h,_⟩:=h;simp only at h;have L:st=[]:=by have:=K2 h.1;rw[F.he]at this;exact Dd (by omega)
 subst L;have M:=ABU hd W h (i:=w.length) (Nat.le_refl _);have J:=h.2.2.1;rw[List.take_of_length_le (by omega)]at M;have N:=XG (K:=K) (l:=bl) (by omega);have e:bl.length=CD w w.length:=by omega
 rw[e]at N;rw[M]at N;simp(disch:=first|omega|simp only[vl];omega) only[AD];rw[M];refine Aq (N) rfl ?_;simp(disch:=first|omega|simp only[vl];omega) only[AD]
end Go.Cat
