/-
 Partitions of a path: blocks, numbers of blocks.
-/
import Derived.Test.YthoilpmggmenbaaGreatPfPlane
set_option linter.unusedSimpArgs false
set_option linter.unusedVariables false
namespace Go.Cat
variable{K:Nat->List D->List D->Prop}
def Ea(p:List Int):Nat->Int
 |0=>0
 |i+1=>max (Ea p i) (AB p i+1)
def FK(p:List Int)(i:Nat):Prop:=∀j:Nat,j<i->AR 0 (Ea p j) (AB p j)=true
instance{p:List Int}{i:Nat}:Decidable (FK p i):=by unfold FK;infer_instance
def CZ(p:List Int):Bool:=decide (p.length<=8)&&decide (FK p p.length)
theorem Jk{p:List Int}:∀{i:Nat},FK p i->0<=Ea p i/\Ea p i<=i
 |0,_=>by simp[Ea]
 |i+1,h=>by have H:=Jk (p:=p) (i:=i) λj b=>h j (by omega);have a:=A7.1 (h i (by omega));simp only[Ea];omega
theorem AFV{p:List Int}(h:¬FK p p.length):CZ p=false:=by simp[CZ,h]
theorem AHZ[HA K]{p:List Int}(h:p.length<=1099511627776):K 478 [LI p] [.b (CZ p)]:=by
 refine qb I478 ?_;by_cases l:p.length<=8;refine wW ?_;refine AN (λi=>FK p i) (λi=>[.u,.u,.n (Ea p i),.u,.u,LI p,.n p.length,.n i,.u,.u]) p.length (by simp[FK]) rfl (λi hi P=>?_) (λP=>?_);have a:=Jk P;refine wW ?_;refine cB Br ?_
 cases H:AR 0 (Ea p i) (AB p i);refine wW ?_;rw[AFV λq=>by have:=q i hi;rw[H]at this;cases this];have:=A7.1 H;refine wW ?_;refine⟨Bg P H,?_⟩;simp only[Ea];refine wW ?_;simp[CZ,l,P];refine wW ?_;simp[CZ,l]
theorem PL[HA K]{p:List Int}(h:p.length<=1099511627776):K 324 [LI p] [.b (CZ p)]:=by
 refine qw I324 ?_;refine AN (λi=>FK p i) (λi=>[LI p,.u,.n (Ea p i),.n i,.u,.u,.u]) p.length (by simp[FK]) rfl (λi hi P=>?_) (λP=>?_);have a:=Jk P;refine wW ?_;refine cB Bt ?_
 cases H:AR 0 (Ea p i) (AB p i);refine wW ?_;rw[AFV λq=>by have:=q i hi;rw[H]at this;cases this];have:=A7.1 H;by_cases he:AB p i=Ea p i;have e:Ea p (i+1)=Ea p i+1:=by simp only[Ea];omega
 rw[e];refine wW ?_;exact Bg P H;have e:Ea p (i+1)=Ea p i:=by simp only[Ea];omega
 rw[e];refine wW ?_;exact Bg P H;refine wW ?_;simp[CZ,P];omega
def Ar(p:List Int):Nat->List (List Int)
 |0=>[]
 |i+1=>
  let o:=if AB p i=(Ar p i).length then Ar p i++[[]]else Ar p i
  Dz o (AB p i) (AG o (AB p i)++[(i:Int)])
theorem Lq{p:List Int}:∀{i:Nat},FK p i->((Ar p i).length:Int)=Ea p i
 |0,_=>rfl
 |i+1,h=>by have H:=Lq (p:=p) (i:=i) λj b=>h j (by omega);have a:=A7.1 (h i (by omega));simp only[Ar,Ea,Xy];split;simp only[AW,AP,A5];omega;omega
theorem Nz{p:List Int}:∀{i:Nat}{r:List Int},r∈Ar p i->r.length<=i
 |0,r,h=>by simp[Ar]at h
 |i+1,r,h=>by
  have o:∀r∈(if AB p i=(Ar p i).length then Ar p i++[[]]else Ar p i),r.length<=i:=by
   intro r H
   split at H
   rcases A9.1 H with q|q
   exact Nz q
   simp at q;subst q;simp
   exact Nz H
  simp only[Ar,Dz]at h
  rcases List.mem_or_eq_of_mem_set h with q|q
  have:=o _ q;omega
  subst q
  have:(AG (if AB p i=(Ar p i).length then Ar p i++[[]]else Ar p i) (AB p i)).length<=i:=by
   simp only[AG]
   rcases BQ (AB p i).toNat (if AB p i=(Ar p i).length then Ar p i++[[]]else Ar p i).length with q|q
   rw[Ap,Eg q]
   exact o _ (List.getElem_mem q)
   rw[Ap,Dt q];simp
  simp only[AW,AP,A5];omega
theorem AMY:D.l []=LL []:=rfl
theorem AHH{a b:List (List Int)}(h:a.length+b.length<=1099511627776):EG false (LL a) (LL b)=some (LL (a++b)):=KG ⟨h,rfl⟩
theorem ANZ:DK [D.l []]=some (LL [[]]):=rfl
theorem AIA[HA K]{p:List Int}(h:p.length<=1099511627776):K 479 [LI p] [LL (if CZ p=true then Ar p p.length else [])]:=by
 refine qw I479 ?_;refine cB (AHZ h) ?_
 cases hp:CZ p;exact wZ;have c:FK p p.length/\p.length<=8:=by simp[CZ]at hp;exact⟨hp.2,hp.1⟩
 obtain⟨c,k⟩:=c;refine wW ?_;rw[AMY];refine AN (λ_=>True) (λi=>[.u,.u,LL (Ar p i),.u,.u,.u,LI p,.n p.length,.n i,.u,.u]) p.length trivial rfl (λi hi _=>?_) (λ_=>?_);have a:FK p i:=λj s=>c j (by omega);have x:=Lq a;have q:=Jk a;have g:=A7.1 (c i hi);by_cases he:AB p i=(Ar p i).length;obtain⟨o,b⟩:∃o,o=Ar p i++[[]]:=⟨_,rfl⟩;have e:Ar p (i+1)=Dz o (AB p i) (AG o (AB p i)++[(i:Int)]):=by rw[b];simp only[Ar];rw[if_pos he]
 have l:o.length=(Ar p i).length+1:=by rw[b];simp
 have H:(AG o (AB p i)).length<=i:=by
  have:AG o (AB p i)=[]:=by rw[b,he];simp[AG]
  rw[this];simp
 rw[e];simp(disch:=try exact dV) only[AD,ANZ,AHH,<-b,Pz,QI];have e:Ar p (i+1)=Dz (Ar p i) (AB p i) (AG (Ar p i) (AB p i)++[(i:Int)]):=by simp only[Ar];rw[if_neg he]
 have H:(AG (Ar p i) (AB p i)).length<=i:=by obtain⟨n,f⟩:=CJ g.1;rw[f];exact Nz (HR (i:=n) (by omega))
 rw[e];simp(disch:=try exact dV) only[AD,Pz,QI];refine wW ?_;all_goals simp
theorem YR[HA K]{p:List Int}(h:p.length<=1099511627776):K 302 [LI p] [LL (if CZ p=true then Ar p p.length else [])]:=by
 refine qw I302 ?_;rw[AMY]
 cases hp:CZ p
 .refine Bd (λ(_:Unit)=>True) (λ_=>[LI p,.u,LL [],.n 0,.u,.u]) (λ_=>0) () trivial rfl (λ_ _=>?_);by_cases h0:0<p.length
  .refine wW ?_;repeat(refine cB (PL h) ?_;try simp(disch:=try exact dV) only[AD,hp])
   simp
  refine wW ?_;simp
 have c:FK p p.length/\p.length<=8:=by simp[CZ]at hp;exact⟨hp.2,hp.1⟩
 obtain⟨c,k⟩:=c;simp only[if_true];refine AN (λ_=>True) (λi=>[LI p,.u,LL (Ar p i),.n i,.u,.u]) p.length trivial rfl (λi hi _=>?_) (λ_=>?_)
 .have a:FK p i:=λj s=>c j (by omega);have x:=Lq a;have q:=Jk a;have g:=A7.1 (c i hi);by_cases he:AB p i=(Ar p i).length
  .obtain⟨o,b⟩:∃o,o=Ar p i++[[]]:=⟨_,rfl⟩;have e:Ar p (i+1)=Dz o (AB p i) (AG o (AB p i)++[(i:Int)]):=by rw[b];simp only[Ar];rw[if_pos he]
   have l:o.length=(Ar p i).length+1:=by rw[b];simp
   have H:(AG o (AB p i)).length<=i:=by
    have:AG o (AB p i)=[]:=by rw[b,he];simp[AG]
    rw[this];simp
   rw[e];refine wW ?_;repeat(refine cB (PL h) ?_;try simp(disch:=try exact dV) only[AD,hp])
   simp(disch:=try exact dV) only[AD,ANZ,AHH,<-b,Pz,QI]
  have e:Ar p (i+1)=Dz (Ar p i) (AB p i) (AG (Ar p i) (AB p i)++[(i:Int)]):=by simp only[Ar];rw[if_neg he]
  have H:(AG (Ar p i) (AB p i)).length<=i:=by obtain⟨n,f⟩:=CJ g.1;rw[f];exact Nz (HR (i:=n) (by omega))
  rw[e];refine wW ?_;repeat(refine cB (PL h) ?_;try simp(disch:=try exact dV) only[AD,hp])
 exact wZ
def DI:List Int->Int->Nat
 |[],_=>0
 |y::t,x=>if y=x then 0 else DI t x+1
theorem XC{x:Int}:∀{l:List Int},DI l x<=l.length
 |[]=>Nat.le_refl _
 |y::t=>by have:=XC (x:=x) (l:=t);unfold DI;split<;>simp<;>omega
theorem Ja{x:Int}:∀{l:List Int},DI l x<l.length↔x∈l
 |[]=>by simp[DI]
 |y::t=>by have:=Ja (x:=x) (l:=t);unfold DI;by_cases h:y=x;simp[h];rw[if_neg h];simp only[AP,Nat.add_lt_add_iff_right,this,A6];constructor;exact λq=>.inr q;rintro(q|q);exact absurd q.symm h;exact q
theorem WM{x:Int}:∀{l:List Int},x∈l->AB l (DI l x)=x
 |[],h=>by cases h
 |y::t,h=>by
  unfold DI
  by_cases H:y=x
  rw[if_pos H];simp[AB,H]
  rw[if_neg H]
  have a:x∈t:=by
   rcases A6.1 h with q|q
   exact absurd q.symm H
   exact q
  have:=WM a
  simpa[AB]using this
theorem AHQ{x:Int}{b:List Int}:∀{a:List Int},x∈a->DI (a++b) x=DI a x
 |[],h=>by cases h
 |y::t,h=>by
  simp only[List.cons_append,DI]
  by_cases H:y=x
  rw[if_pos H,if_pos H]
  rw[if_neg H,if_neg H]
  have c:x∈t:=by
   rcases A6.1 h with q|q
   exact absurd q.symm H
   exact q
  rw[AHQ c]
def BA(l:List Int):Nat->List Int
 |0=>[]
 |i+1=>if AB l i∈BA l i then BA l i else BA l i++[AB l i]
def DB(l:List Int):Nat->List Int
 |0=>[]
 |i+1=>DB l i++[(DI (BA l i) (AB l i):Int)]
theorem P2{l:List Int}:∀i,(DB l i).length=i
 |0=>rfl
 |i+1=>by simp[DB,P2 i]
theorem ZI{l:List Int}:∀i,(BA l i).length<=i
 |0=>by simp[BA]
 |i+1=>by have:=ZI (l:=l) i;unfold BA;split;omega;simp;omega
theorem TW{l:List Int}{x:Int}:∀{i:Nat},x∈BA l i↔∃k:Nat,k<i/\AB l k=x
 |0=>by simp[BA]
 |i+1=>by
  have I:=TW (l:=l) (x:=x) (i:=i)
  have key:x∈BA l (i+1)↔x∈BA l i\/AB l i=x:=by
   have e:BA l (i+1)=if AB l i∈BA l i then BA l i else BA l i++[AB l i]:=rfl
   rw[e]
   split
   rename_i h
   constructor
   exact λq=>.inl q
   rintro(q|q)
   exact q
   rw[<-q];exact h
   simp only[A9,List.mem_singleton]
   constructor
   rintro(q|q)
   exact .inl q
   exact .inr q.symm
   rintro(q|q)
   exact .inl q
   exact .inr q.symm
  rw[key,I]
  constructor
  rintro(⟨k,a,H⟩|h)
  exact⟨k,by omega,H⟩
  exact⟨i,by omega,h⟩
  rintro⟨k,a,H⟩
  rcases BQ k i with q|q
  exact .inl ⟨k,q,H⟩
  obtain rfl:k=i:=by omega
  exact .inr H
theorem ASO{l:List Int}:∀{i k:Nat},k<i->AB (DB l i) k=DI (BA l i) (AB l k)
 |0,k,h=>by omega
 |i+1,k,h=>by
  have g:=P2 (l:=l) i
  have H:∀{x:Int},x∈BA l i->DI (BA l (i+1)) x=DI (BA l i) x:=by
   intro x b
   simp only[BA]
   split
   rfl
   exact AHQ b
  rcases BQ k i with q|q
  have I:=ASO (l:=l) (i:=i) (k:=k) q
  rw[H (TW.2 ⟨k,q,rfl⟩),<-I]
  simp only[DB,AB,Ap]
  rw[D4 (by simpa[g]using q)]
  obtain rfl:k=i:=by omega
  have e:AB (DB l (k+1)) k=(DI (BA l k) (AB l k):Int):=by
   simp only[DB,AB,Ap,BM]
   rw[GX (by omega)]
   simp[g]
  rw[e]
  by_cases b:AB l k∈BA l k
  rw[H b]
  have j:BA l (k+1)=BA l k++[AB l k]:=by simp only[BA];rw[if_neg b]
  have f:∀(a:List Int),AB l k∉a->DI (a++[AB l k]) (AB l k)=a.length/\DI a (AB l k)=a.length:=by
   intro a c
   induction a with
   |nil=>simp[DI]
   |cons y t I=>
    simp only[A6,not_or]at c
    have:=I c.2
    simp only[List.cons_append,DI,if_neg (λq=>c.1 (Eq.symm q)),AP,this,and_self]
  rw[j,(f _ b).1,(f _ b).2]
theorem Z1[HA K]{l:List Int}(h:l.length<=8):K 475 [LI l] [LI (DB l l.length),.b true]:=by
 refine qw I475 ?_;rw[Q0];refine AN (λ_=>True) (λi=>[LI l,.u,.u,LI (DB l i),.n (BA l i).length,.u,.u,.u,.u,.u,.u,LI l,.n l.length,.n i,.u,.u,.u,.u,.u,.u,.u]) l.length trivial rfl (λi hi _=>?_) (λ_=>?_);have M:=P2 (l:=l) i;have L:=ZI (l:=l) i;have H:(sub l 0 (i:Int)).length=i:=by rw[J6];omega
 have o:∀k:Nat,k<i->AB (sub l 0 (i:Int)) k=AB l k:=by intro k c;simp[AB,sub,Ap,List.getElem?_take,c]
 obtain⟨B,g⟩:∃B:Nat,B=DI (BA l i) (AB l i):=⟨_,rfl⟩;have J:B<=(BA l i).length:=by rw[g];exact XC
 have C:DB l (i+1)=DB l i++[(B:Int)]:=by simp only[DB,g]
 have F:((BA l (i+1)).length:Int)=if B=(BA l i).length then(BA l i).length+1 else(BA l i).length:=by simp only[BA];by_cases f:AB l i∈BA l i;have:=Ja.2 f;rw[if_pos f,if_neg (by omega)];have:¬DI (BA l i) (AB l i)<(BA l i).length:=λq=>f (Ja.1 q);rw[if_neg f,if_pos (by omega)];simp
 rw[C,F];simp(disch:=try exact dV) only[AD,H];refine Ah (λk (_:Unit)=>∀j:Nat,j<k->AB l j≠AB l i) (λk _=>[LI l,.u,.u,LI (DB l i),.n (BA l i).length,.u,.n (AB l i),.n (BA l i).length,.u,.u,.u,LI l,.n l.length,.n i,.u,LI (sub l 0 (i:Int)),.n i,.n k,.u,.u,.u]) i () (by simp) rfl (λk _ c P=>?_) (λ_ P=>?_);have s:=o k c;by_cases he:AB l i=AB l k;have x:=ASO (l:=l) c;rw[<-he,<-g]at x;have a:AB l i∈BA l i:=TW.2 ⟨k,c,he.symm⟩;have:=Ja.2 a;have N:¬((2:Nat)=3):=by omega
 rw[if_neg (by omega)];simp(disch:=try exact dV) only[AD,H,s,x,if_neg N];simp(disch:=try exact dV) only[AD,H,s];exact⟨(),Bg P λq=>he q.symm⟩;have a:¬AB l i∈BA l i:=λq=>by obtain⟨k,G,I⟩:=TW.1 q;exact P k G I
 have:¬DI (BA l i) (AB l i)<(BA l i).length:=λq=>a (Ja.1 q);have e:B=(BA l i).length:=by omega
 rw[if_pos e];refine wW ?_;rw[e];exact wZ
theorem ANA{l:List Int}:∀i,(BA l i).Nodup
 |0=>by simp[BA]
 |i+1=>by have I:=ANA (l:=l) i;have e:BA l (i+1)=if AB l i∈BA l i then BA l i else BA l i++[AB l i]:=rfl;rw[e];split;exact I;rename_i h;rw[List.nodup_append];refine⟨I,by simp,λa c b H=>?_⟩;rw[List.mem_singleton]at H;subst H;intro q;exact h (q▸c)
theorem Ac2{a:List Int}(h:a.Nodup){j k:Nat}(H:j<a.length)(b:k<a.length)(e:AB a j=AB a k):j=k:=by
 have e:a[j]=a[k]:=by simpa[AB,H,b]using e
 have c:=List.pairwise_iff_getElem.1 h;rcases Nat.lt_trichotomy j k with q|q|q;exact absurd e (c j k H b q);exact q;exact absurd e.symm (c k j b H q)
theorem AJD[HA K]{l:List Int}(h:l.length<=1000000):K 323 [LI l] [LI (DB l l.length)]:=by
 refine qw I323 ?_;rw[Q0];refine AN (λ_=>True) (λi=>[LI l,.u,LI (DB l i),LI (BA l i),.n i,.u,.u,.u,.u,.u,.u]) l.length trivial rfl (λi hi _=>?_) (λ_=>?_);have L:=P2 (l:=l) i;have J:=ZI (l:=l) i;obtain⟨B,c⟩:∃B:Nat,B=DI (BA l i) (AB l i):=⟨_,rfl⟩;have G:B<=(BA l i).length:=by rw[c];exact XC
 have F:DB l (i+1)=DB l i++[(B:Int)]:=by simp only[DB,c]
 rw[F];refine wW ?_;refine Ah (λk (a:Int)=>(a=-1/\∀j:Nat,j<k->AB (BA l i) j≠AB l i)\/(a=B/\B<k)) (λk a=>[LI l,.u,LI (DB l i),LI (BA l i),.n i,.n a,.n k,.u,.u,.u,.u]) (BA l i).length (-1) (.inl ⟨rfl,by simp⟩) rfl (λk a C P=>?_) (λa P=>?_);by_cases he:AB (BA l i) k=AB l i;have H:AB l i∈BA l i:=by rw[<-he];simp[AB,C]
 have s:B=k:=by have e:=Ja.2 H;have x:=WM H;rw[<-c]at e x;exact Ac2 (ANA i) e C (by rw[x,he])
 simp(disch:=try exact dV) only[AD,he];exact⟨_,.inr ⟨by rw[s],by omega⟩,rfl⟩;refine wW ?_;refine⟨a,?_,rfl⟩;rcases P with⟨g,b⟩|⟨g,b⟩;exact .inl ⟨g,Bg b he⟩;exact .inr ⟨g,by omega⟩;rcases P with⟨rfl,b⟩|⟨rfl,b⟩;have H:AB l i∉BA l i:=λq=>by have e:=Ja.2 q;exact b _ e (WM q)
 have I:¬DI (BA l i) (AB l i)<(BA l i).length:=λq=>H (Ja.1 q);have o:B=(BA l i).length:=by omega
 have f:BA l (i+1)=BA l i++[AB l i]:=by simp only[BA];rw[if_neg H]
 rw[f,o];exact wZ;have H:AB l i∈BA l i:=Ja.1 (by rw[<-c];exact b);have f:BA l (i+1)=BA l i:=by simp only[BA];rw[if_pos H]
 rw[f];exact wZ;exact wZ
def DO(w:List Nat)(g:Nat->Int):Nat->List Int
 |0=>[]
 |i+1=>if AH w i=117 then DO w g i++[g i]else DO w g i
def CV(w:List Nat)(i:Nat):Nat:=AA (w.take i) 117
theorem Hr{w:List Nat}{i:Nat}(h:i<w.length):CV w (i+1)=CV w i+(if AH w i=117 then 1 else 0):=by
 have e:w.take (i+1)=w.take i++[AH w i]:=by rw[CQ h];simp[AH,h]
 simp only[CV,e,J0];congr 1;by_cases q:AH w i=117;rw[if_pos q,q];simp[AA];rw[if_neg q];simp only[AA,List.count_cons,List.count_nil];rw[if_neg];simpa using q
theorem S1{w:List Nat}{g:Nat->Int}:∀{i:Nat},i<=w.length->(DO w g i).length=CV w i
 |0,_=>by simp[DO,CV,AA]
 |i+1,h=>by have I:=S1 (w:=w) (g:=g) (i:=i) (by omega);rw[Hr (by omega)];unfold DO;split;simp[I];simp[I]
theorem ATO{w:List Nat}{g G:Nat->Int}:∀{i:Nat},(∀a,a<i->AH w a=117->g a=G a+1)->DO w g i=(DO w G i).map (·+1)
 |0,_=>rfl
 |i+1,h=>by have I:=ATO (w:=w) (i:=i) λa b=>h a (by omega);simp only[DO];split;rename_i H;rw[I,h i (by omega) H];simp;exact I
theorem AB7{x:Int}:∀{l:List Int},DI (l.map (·+1)) (x+1)=DI l x
 |[]=>rfl
 |y::t=>by simp only[List.map_cons,DI];by_cases h:y=x;rw[if_pos h,if_pos (by omega)];rw[if_neg h,if_neg (by omega),AB7]
theorem AFD{l:List Int}:∀{i:Nat},i<=l.length->BA (l.map (·+1)) i=(BA l i).map (·+1)
 |0,_=>rfl
 |i+1,h=>by
  have I:=AFD (l:=l) (i:=i) (by omega);have e:AB (l.map (·+1)) i=AB l i+1:=by simp[AB,show i<l.length by omega]
  simp only[BA,I,e];by_cases H:AB l i∈BA l i;rw[if_pos H,if_pos (List.mem_map.2 ⟨_,H,rfl⟩)];rw[if_neg H,if_neg];simp;intro q;obtain⟨y,a,b⟩:=List.mem_map.1 q;have:y=AB l i:=by omega
  exact H (this▸a)
theorem ARA{l:List Int}:∀{i:Nat},i<=l.length->DB (l.map (·+1)) i=DB l i
 |0,_=>rfl
 |i+1,h=>by
  have I:=ARA (l:=l) (i:=i) (by omega);have e:AB (l.map (·+1)) i=AB l i+1:=by simp[AB,show i<l.length by omega]
  simp only[DB,I,e,AFD (show i<=l.length by omega),AB7]
theorem JX{w:List Nat}{a:Nat}:∀{b:Nat},a<=b->b<=w.length->CV w a<=CV w b
 |0,h,_=>by
  obtain rfl:a=0:=by omega
  exact Nat.le_refl _
 |b+1,h,H=>by
  rcases BQ a (b+1)with q|q;have:=JX (w:=w) (a:=a) (b:=b) (by omega) (by omega)
  rw[Hr (by omega)];omega;obtain rfl:a=b+1:=by omega
  exact Nat.le_refl _
theorem ML{w:List Nat}(hd:AK w=true):2*CV w w.length=w.length:=by
 have h:=Af hd;have s:steps w=true:=by rw[AMG];exact Pj hd
 simp only[steps,Ac]at s;have he:=h.he;simp only[Hh,List.take_length]at he;simp only[CV,List.take_length];omega
def ED(w:List Nat)(k:Nat):Nat:=DP 100 117 (λ_=>1) w k
def Ep(w:List Nat)(k:Nat):Nat:=DP 117 100 (λ_=>1) w k
theorem XO{a b:Nat}{w:List Nat}:∀{i:Nat},DP a b (λ_=>1) w i<=i
 |0=>by simp[DP,CY]
 |i+1=>by have:=XO (a:=a) (b:=b) (w:=w) (i:=i);simp only[DP,CY]at this|-;split<;>omega
theorem ATC{w:List Nat}(hd:AK w=true):∀{k:Nat},k<w.length->Ep w k=ED w k+(if AH w k=100 then 1 else 0)
 |0,h=>by
  have a:=Af hd
  have j:=a.h0 1 (by omega)
  have i:AH w 0=117:=by
   rcases a.ud 0 h with q|q
   exact q
   have:=F0 h q;rw[FI]at this;simp at this;omega
  have e:AH w ((0:Nat):Int)=117:=i
  rw[if_neg (by omega)]<;>rfl
 |k+1,h=>by
  have a:=Af hd
  have I:=ATC hd (k:=k) (by omega)
  have c:Ep w (k+1)=Ep w k+(if AH w k=117/\AH w ((k:Int)+1)=100 then 1 else 0):=rfl
  have f:ED w (k+1)=ED w k+(if AH w k=100/\AH w ((k:Int)+1)=117 then 1 else 0):=rfl
  have g:((k+1:Nat):Int)=(k:Int)+1:=by omega
  have b:=a.ud k (by omega)
  have H:=a.ud (k+1) h
  rw[g]at H|-
  rw[c,f,I]
  rcases b with b|b<;>rcases H with H|H<;>simp[b,H]
theorem Ab1{n a:Nat}:AB (rep (n:Int) 0) a=0:=by simp only[AB,rep,Ap,List.getElem?_replicate];split<;>rfl
theorem AZP[HA K]{w:List Nat}(hd:AK w=true):∃rs,(∃m,PP w m/\rs=[LI (DB (DO w (λa=>(Ep w (AB m a).toNat:Int)) w.length) (CV w w.length)),.b true])/\K 503 [.s w] rs:=by
 have R:=Af hd;have hl:=R.l;have W:=ML hd;obtain⟨_,⟨m,rfl,F⟩,Z⟩:=Tp (K:=K) hd;have U:=F.1;refine qx I503 ?_;refine wW ?_;repeat(refine cB (Bz (by omega)) ?_;try simp(disch:=try exact dV) only[AD,hd])
 refine cW Z ?_;refine Ah (λi (x:List Int)=>x.length=w.length/\∀a:Nat,a<w.length->a<i+1->AB x a=Ep w a) (λi x=>[.s w,.u,.u,LI m,LI x,.n (Ep w i),.n ((i:Int)+1),.u,.u,.u,.u,.u,.u,.u]) (w.length-1) (rep w.length 0) ⟨by simp[rep],λa H f=>by
  obtain rfl:a=0:=by omega
  rw[Ab1];rfl⟩ rfl (λi x hi P=>?_) (λx P=>?_)
 obtain⟨M,o⟩:=P;have k:=XO (a:=117) (b:=100) (w:=w) (i:=i);have c:Ep w (i+1)=Ep w i+(if AH w i=117/\AH w ((i:Int)+1)=100 then 1 else 0):=rfl;have T:Ep w i<=i:=k;have h:∀z:Int,z=Ep w (i+1)->(BE x ((i:Int)+1) z).length=w.length/\∀a:Nat,a<w.length->a<i+1+1->AB (BE x ((i:Int)+1) z) a=Ep w a:=by
  intro z Y;refine⟨by rw[DN,M],λa H f=>?_⟩;have Q:((i:Int)+1)=((i+1:Nat):Int):=by omega
  rw[Q,Hc (by omega)];by_cases q:i+1=a;subst q;rw[if_pos rfl,Y];rw[if_neg q];exact o a H (by omega)
 by_cases H:AH w ((i:Int)+1)=100;by_cases f:AH w i=117;rw[if_pos ⟨f,H⟩]at c;simp(disch:=try exact dV) only[AD,H,f,Bq];refine⟨_,h ((Ep w i:Int)+1) (by rw[c];simp),?_⟩;rw[c];simp;rw[if_neg λq=>f q.1]at c;simp(disch:=try exact dV) only[AD,H,Bq];refine⟨_,h (Ep w i:Int) (by rw[c];simp),?_⟩;rw[c];simp;rw[if_neg λq=>H q.2]at c;refine wW ?_;refine⟨_,h (Ep w i:Int) (by rw[c];simp),?_⟩;rw[c];simp;obtain⟨M,o⟩:=P;refine wW ?_;rw[Q0];obtain⟨G,N⟩:∃G:Nat->Int,G=λ(a:Nat)=>(Ep w (AB m (a:Int)).toNat:Int):=⟨_,rfl⟩;refine AN (λ_=>True) (λi=>[.s w,.u,.u,LI m,LI x,.u,.u,LI (DO w G i),.n i,.u,.u,.u,.u,.u]) w.length trivial rfl (λi hi _=>?_) (λ_=>?_);have j:=S1 (w:=w) (g:=G) (i:=i) (by omega);have I:=JX (w:=w) (a:=i) (b:=w.length) (by omega) (by omega);obtain⟨b,k,V⟩:=F.2 i hi;have C:b<w.length:=by rcases V with q|q<;>have:=q.1<;>have:=q.2.1<;>omega
 have L:=o b C (by omega);have B:G i=Ep w b:=by rw[N];simp only[k,BM]
 by_cases J:AH w i=117;have e:DO w G (i+1)=DO w G i++[(Ep w b:Int)]:=by simp only[DO];rw[if_pos J,B]
 rw[e];simp(disch:=try exact dV) only[AD,J,k,L];have e:DO w G (i+1)=DO w G i:=by simp only[DO];rw[if_neg J]
 rw[e];exact wZ;have j:=S1 (w:=w) (g:=G) (i:=w.length) (by omega);have O:=Z1 (K:=K) (l:=DO w G w.length) (by omega);rw[j]at O;refine wW ?_;refine cW O ?_;exact⟨m,F,by rw[N]⟩
def PB(w:List Nat)(i:Nat)(bl:List Int)(st:List Nat):Prop:=
 SO w st i/\(∀j∈st,AH w j=117)/\bl.length=w.length/2/\∀a k:Nat,a<i->AH w a=117->a∉st->PR w a k->AB bl (CV w a)=ED w k
theorem Af2{w:List Nat}{a b:Nat}(c:a<w.length)(e:b<w.length)(U:AH w a=117)(f:AH w b=117)(h:CV w a=CV w b):a=b:=by
 rcases Nat.lt_trichotomy a b with q|q|q;have H:=Hr c;rw[if_pos U]at H;have:=JX (w:=w) (a:=a+1) (b:=b) (by omega) (by omega)
 omega;exact q;have H:=Hr e;rw[if_pos f]at H;have:=JX (w:=w) (a:=b+1) (b:=a) (by omega) (by omega);omega
theorem AVH{w:List Nat}{i:Nat}{bl:List Int}{st:List Nat}(h:PB w i bl st)(hi:i<w.length)(c:AH w i=117):PB w (i+1) bl (i::st):=by obtain⟨f,g,l,o⟩:=h;refine⟨APT f hi c,λj s=>?_,l,λa k B H b x=>?_⟩;rcases A6.1 s with rfl|q;exact c;exact g j q;have e:a≠i:=λe=>b (by rw[e];exact List.mem_cons_self ..);exact o a k (by omega) H (λq=>b (BP _ q)) x
theorem AVP{w:List Nat}{i j:Nat}{bl:List Int}{st:List Nat}(hd:AK w=true)(h:PB w i bl (j::st))(hi:i<w.length)(l:AH w i=100):
  CV w j<w.length/2/\PB w (i+1) (BE bl (CV w j) (ED w i)) st:=by
 obtain⟨x,f,B,C⟩:=h;obtain⟨Q,I⟩:=AN4 x hi l;have M:=Q.1;have U:=f j (List.mem_cons_self ..);have o:=Hr (w:=w) (i:=j) (by omega);rw[if_pos U]at o;have J:=JX (w:=w) (a:=j+1) (b:=w.length) (by omega) (by omega);have L:=ML hd;refine⟨by omega,I,λa g=>f a (BP _ g),by rw[DN,B],λa k g H G c=>?_⟩;rw[Hc (by omega)];by_cases e:CV w j=CV w a
 .have s:j=a:=by
   refine Af2 (by omega) ?_ U H e
   have:=c.1;have:=c.2.1;omega
  subst s
  rw[if_pos rfl,Wf Q c]
 .rw[if_neg e];have F:a≠i:=λq=>by rw[q,l]at H;omega
  refine C a k (by omega) H (λq=>?_) c;rcases A6.1 q with q|q
  .exact e (by rw[q])
  .exact G q
def Eu(w:List Nat)(st:List Nat):List Int:=st.map λ(j:Nat)=>(CV w j:Int)
theorem AHG{w:List Nat}{j:Nat}{t:List Nat}:(Eu w (j::t)).reverse=(Eu w t).reverse++[(CV w j:Int)]:=by simp[Eu]
theorem AIQ{w:List Nat}{bl:List Int}{m:List Int}(hd:AK w=true)(f:PP w m)(h:PB w w.length bl []):∀{i:Nat},i<=w.length->bl.take (CV w i)=DO w (λa=>(ED w (AB m a).toNat:Int)) i
 |0,_=>by simp[CV,AA,DO]
 |i+1,hi=>by
  have I:=AIQ hd f h (i:=i) (by omega)
  obtain⟨s,x,B,g⟩:=h
  have e:=Hr (w:=w) (i:=i) (by omega)
  have l:=JX (w:=w) (a:=i+1) (b:=w.length) (by omega) (by omega)
  have o:=ML hd
  by_cases H:AH w i=117
  rw[if_pos H]at e
  simp only[DO]
  rw[if_pos H,e,U0 (by omega),I]
  obtain⟨b,j,c⟩:=f.2 i (by omega)
  have c:PR w i b:=by
   rcases c with q|q
   exact q
   have k:=Af hd
   have:=q.2.2.1
   have:=GS (i:=i) (by omega) H
   have:=q.2.2.2 i q.1 (Nat.le_refl _)
   omega
  rw[g i b (by omega) H (by simp) c,j]
  simp
  rw[if_neg H]at e
  simp only[DO]
  rw[if_neg H,e,Nat.add_zero,I]
theorem AA5[HA K]{w:List Nat}{m:List Int}(hd:AK w=true)(W:PP w m):K 301 [.s w] [LI (DB (DO w (λa=>(ED w (AB m a).toNat:Int)) w.length) (CV w w.length)),.b true]:=by
 have F:=Af hd;have hl:=F.l;have Y:=ML hd;refine qb I301 ?_;simp(disch:=first|omega|simp only[vl];omega) only[AD];repeat(first|(refine DU (Bu (K:=K) (w:=w) (by omega)) rfl ?_;try simp(disch:=first|omega|simp only[vl];omega) only[AD,hd]))
 rw[Q0];have R:((w.length:Int)/2)=((w.length/2:Nat):Int):=by omega
 simp(disch:=first|omega|simp only[vl];omega) only[AD,R];refine Ah (λi (x:List Int×List Nat×Int)=>PB w i x.1 x.2.1/\(i<w.length->x.2.2=ED w i)) (λi x=>[.s w,.u,.u,LI x.1,LI (Eu w x.2.1).reverse,.n (CV w i),.n x.2.2,.n i,.u,.u,.u,.u]) w.length (rep (w.length/2:Nat) 0,[],0) ⟨⟨by simp[SO,FI],by simp,by simp[rep];omega,by omega⟩,λ_=>by simp[ED,DP,CY]⟩ (by simp[Eu,CV,AA]) (λi x hi h=>?_) (λx h=>?_);obtain⟨bl,st,nx⟩:=x;obtain⟨h,f⟩:=h;simp only at h f;have f:=f hi;subst f;have P:=LP h.1;have hb:=Gx (w:=w) (i:=i);have h1:=F.h0 (i+1) (by omega);have g:=Hr hi;have Z:=JX (w:=w) (a:=i) (b:=w.length) (by omega) (by omega);have B:=XO (a:=100) (b:=117) (w:=w) (i:=i);have B:ED w i<=i:=B;have hxl:((Eu w st).reverse).length=st.length:=by simp[Eu]
 have Q:(Eu w st).length=st.length:=by simp[Eu]
 have o:ED w (i+1)=ED w i+(if AH w i=100/\AH w ((i:Int)+1)=117 then 1 else 0):=rfl;rcases F.ud i hi with H|H;rw[if_pos H]at g;rw[if_neg (by omega)]at o;rw[g];simp(disch:=first|omega|simp only[vl];omega) only[AD,H];exact⟨(bl,i::st,(ED w i:Int)),⟨AVH h hi H,λ_=>by rw[o];simp⟩,by simp only[AHG]⟩;have T:=F0 hi H;rw[if_neg (by omega)]at g
 cases st with
 |nil=>simp at P;omega
 |cons j t=>
  obtain⟨hj,c⟩:=AVP hd h hi H
  have J:=h.2.2.1
  have C:((Eu w t).reverse).length=t.length:=by simp[Eu]
  have V:(Eu w t).length=t.length:=by simp[Eu]
  have G:AB ((Eu w t).reverse++[(CV w j:Int)]) t.length=CV w j:=by rw[<-C];exact LA
  have I:sub ((Eu w t).reverse++[(CV w j:Int)]) 0 t.length=(Eu w t).reverse:=by rw[<-C];exact MG
  have f3:((((Eu w t).reverse++[(CV w j:Int)]).length:Nat):Int)=(t.length:Int)+1:=by simp[Eu]
  simp only[AP]at P
  simp only[AHG]
  rw[g]
  by_cases U:(i:Int)+1=w.length
  .have O:=c
   simp(disch:=first|omega|simp only[vl];omega) only[AD,H,f3,G,I,Bq]
   exact⟨(BE bl (CV w j) (ED w i),t,(ED w i:Int)+1),⟨c,λq=>by omega⟩,by simp⟩
  .by_cases k:AH w ((i:Int)+1)=117
   .rw[if_pos ⟨H,k⟩]at o
    simp(disch:=first|omega|simp only[vl];omega) only[AD,H,f3,G,I,Bq,k]
    exact⟨(BE bl (CV w j) (ED w i),t,(ED w i:Int)+1),⟨c,λ_=>by rw[o];simp⟩,by simp⟩
   .rw[if_neg λq=>k q.2]at o
    simp(disch:=first|omega|simp only[vl];omega) only[AD,H,f3,G,I,Bq]
    exact⟨(BE bl (CV w j) (ED w i),t,(ED w i:Int)),⟨c,λ_=>by rw[o];simp⟩,by simp⟩
 obtain⟨bl,st,nx⟩:=x;obtain⟨h,_⟩:=h;simp only at h;have L:st=[]:=by have:=LP h.1;rw[F.he]at this;exact Dy (by omega)
 subst L;have M:=AIQ hd W h (i:=w.length) (Nat.le_refl _);have J:=h.2.2.1;rw[List.take_of_length_le (by omega)]at M;have N:=AJD (K:=K) (l:=bl) (by omega);have e:bl.length=CV w w.length:=by omega
 rw[e]at N;rw[M]at N;simp(disch:=first|omega|simp only[vl];omega) only[AD];rw[M];refine DU (N) rfl ?_;simp(disch:=first|omega|simp only[vl];omega) only[AD]
end Go.Cat
