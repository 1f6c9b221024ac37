/-
 Partitions of a path: blocks, numbers of blocks.
-/
import Derived.Test.YthoilpmggmenbaaGreatPfMatP
set_option linter.unusedSimpArgs false
set_option linter.unusedVariables false
namespace Go.Cat
variable{K:Nat->List D->List D->Prop}
def Ed(p:List Int):Nat->Int
 |0=>0
 |i+1=>max (Ed p i) (AB p i+1)
def FV(p:List Int)(i:Nat):Prop:=∀j:Nat,j<i->AR 0 (Ed p j) (AB p j)=true
instance{p:List Int}{i:Nat}:Decidable (FV p i):=by unfold FV;infer_instance
def CW(p:List Int):Bool:=decide (p.length<=8)&&decide (FV p p.length)
theorem JG{p:List Int}:∀{i:Nat},FV p i->0<=Ed p i/\Ed p i<=i
 |0,_=>by simp[Ed]
 |i+1,h=>by have H:=JG (p:=p) (i:=i) λj b=>h j (by omega);have a:=A5.1 (h i (by omega));simp only[Ed];omega
theorem AMW{p:List Int}(h:¬FV p p.length):CW p=false:=by simp[CW,h]
theorem APO[HA K]{p:List Int}(h:p.length<=1099511627776):K 478 [LI p] [.b (CW p)]:=by
 refine qb I478 ?_;by_cases l:p.length<=8;refine wW ?_;refine AN (λi=>FV p i) (λi=>[.u,.u,.n (Ed p i),.u,.u,LI p,.n p.length,.n i,.u,.u]) p.length (by simp[FV]) rfl (λi hi P=>?_) (λP=>?_);have a:=JG P;refine wW ?_;refine cB Bq ?_
 cases H:AR 0 (Ed p i) (AB p i);refine wW ?_;rw[AMW λq=>by have:=q i hi;rw[H]at this;cases this];have:=A5.1 H;refine wW ?_;refine⟨Bf P H,?_⟩;simp only[Ed];refine wW ?_;simp[CW,l,P];refine wW ?_;simp[CW,l]
theorem OU[HA K]{p:List Int}(h:p.length<=1099511627776):K 324 [LI p] [.b (CW p)]:=by
 refine qw I324 ?_;refine AN (λi=>FV p i) (λi=>[LI p,.u,.n (Ed p i),.n i,.u,.u,.u]) p.length (by simp[FV]) rfl (λi hi P=>?_) (λP=>?_);have a:=JG P;refine wW ?_;refine cB Bt ?_
 cases H:AR 0 (Ed p i) (AB p i);refine wW ?_;rw[AMW λq=>by have:=q i hi;rw[H]at this;cases this];have:=A5.1 H;by_cases he:AB p i=Ed p i;have e:Ed p (i+1)=Ed p i+1:=by simp only[Ed];omega
 rw[e];refine wW ?_;exact Bf P H;have e:Ed p (i+1)=Ed p i:=by simp only[Ed];omega
 rw[e];refine wW ?_;exact Bf P H;refine wW ?_;simp[CW,P];omega
def Ar(p:List Int):Nat->List (List Int)
 |0=>[]
 |i+1=>
  let o:=if AB p i=(Ar p i).length then Ar p i++[[]]else Ar p i
  Du o (AB p i) (AF o (AB p i)++[(i:Int)])
theorem LC{p:List Int}:∀{i:Nat},FV p i->((Ar p i).length:Int)=Ed p i
 |0,_=>rfl
 |i+1,h=>by have H:=LC (p:=p) (i:=i) λj b=>h j (by omega);have a:=A5.1 (h i (by omega));simp only[Ar,Ed,W3];split;simp only[A4,AO,A6];omega;omega
theorem NJ{p:List Int}:∀{i:Nat}{r:List Int},r∈Ar p i->r.length<=i
 |0,r,h=>by simp[Ar]at h
 |i+1,r,h=>by
  have o:∀r∈(if AB p i=(Ar p i).length then Ar p i++[[]]else Ar p i),r.length<=i:=by
   intro r H
   split at H
   rcases Ac.1 H with q|q
   exact NJ q
   simp at q;subst q;simp
   exact NJ H
  simp only[Ar,Du]at h
  rcases List.mem_or_eq_of_mem_set h with q|q
  have:=o _ q;omega
  subst q
  have:(AF (if AB p i=(Ar p i).length then Ar p i++[[]]else Ar p i) (AB p i)).length<=i:=by
   simp only[AF]
   rcases BS (AB p i).toNat (if AB p i=(Ar p i).length then Ar p i++[[]]else Ar p i).length with q|q
   rw[Ap,FD q]
   exact o _ (List.getElem_mem q)
   rw[Ap,Df q];simp
  simp only[A4,AO,A6];omega
theorem ZZ:D.l []=LL []:=rfl
theorem AD7{a b:List (List Int)}(h:a.length+b.length<=1099511627776):ED false (LL a) (LL b)=some (LL (a++b)):=KA ⟨h,rfl⟩
theorem APH:Dv [D.l []]=some (LL [[]]):=rfl
theorem AC2[HA K]{p:List Int}(h:p.length<=1099511627776):K 479 [LI p] [LL (if CW p=true then Ar p p.length else [])]:=by
 refine qw I479 ?_;refine cB (APO h) ?_
 cases hp:CW p;exact wZ;have c:FV p p.length/\p.length<=8:=by simp[CW]at hp;exact⟨hp.2,hp.1⟩
 obtain⟨c,k⟩:=c;refine wW ?_;rw[ZZ];refine AN (λ_=>True) (λi=>[.u,.u,LL (Ar p i),.u,.u,.u,LI p,.n p.length,.n i,.u,.u]) p.length trivial rfl (λi hi _=>?_) (λ_=>?_);have a:FV p i:=λj s=>c j (by omega);have x:=LC a;have q:=JG a;have g:=A5.1 (c i hi);by_cases he:AB p i=(Ar p i).length;obtain⟨o,b⟩:∃o,o=Ar p i++[[]]:=⟨_,rfl⟩;have e:Ar p (i+1)=Du o (AB p i) (AF o (AB p i)++[(i:Int)]):=by rw[b];simp only[Ar];rw[if_pos he]
 have l:o.length=(Ar p i).length+1:=by rw[b];simp
 have H:(AF o (AB p i)).length<=i:=by
  have:AF o (AB p i)=[]:=by rw[b,he];simp[AF]
  rw[this];simp
 rw[e];simp(disch:=try exact dV) only[AD,APH,AD7,<-b,O0,OL];have e:Ar p (i+1)=Du (Ar p i) (AB p i) (AF (Ar p i) (AB p i)++[(i:Int)]):=by simp only[Ar];rw[if_neg he]
 have H:(AF (Ar p i) (AB p i)).length<=i:=by obtain⟨n,f⟩:=CE g.1;rw[f];exact NJ (HO (i:=n) (by omega))
 rw[e];simp(disch:=try exact dV) only[AD,O0,OL];refine wW ?_;all_goals simp
theorem UH[HA K]{p:List Int}(h:p.length<=1099511627776):K 302 [LI p] [LL (if CW p=true then Ar p p.length else [])]:=by
 refine qw I302 ?_;rw[ZZ]
 cases hp:CW p
 .refine Bj (λ(_:Unit)=>True) (λ_=>[LI p,.u,LL [],.n 0,.u,.u]) (λ_=>0) () trivial rfl (λ_ _=>?_);by_cases h0:0<p.length
  .refine wW ?_;repeat(refine cB (OU h) ?_;try simp(disch:=try exact dV) only[AD,hp])
   simp
  refine wW ?_;simp
 have c:FV p p.length/\p.length<=8:=by simp[CW]at hp;exact⟨hp.2,hp.1⟩
 obtain⟨c,k⟩:=c;simp only[if_true];refine AN (λ_=>True) (λi=>[LI p,.u,LL (Ar p i),.n i,.u,.u]) p.length trivial rfl (λi hi _=>?_) (λ_=>?_)
 .have a:FV p i:=λj s=>c j (by omega);have x:=LC a;have q:=JG a;have g:=A5.1 (c i hi);by_cases he:AB p i=(Ar p i).length
  .obtain⟨o,b⟩:∃o,o=Ar p i++[[]]:=⟨_,rfl⟩;have e:Ar p (i+1)=Du o (AB p i) (AF o (AB p i)++[(i:Int)]):=by rw[b];simp only[Ar];rw[if_pos he]
   have l:o.length=(Ar p i).length+1:=by rw[b];simp
   have H:(AF o (AB p i)).length<=i:=by
    have:AF o (AB p i)=[]:=by rw[b,he];simp[AF]
    rw[this];simp
   rw[e];refine wW ?_;repeat(refine cB (OU h) ?_;try simp(disch:=try exact dV) only[AD,hp])
   simp(disch:=try exact dV) only[AD,APH,AD7,<-b,O0,OL]
  have e:Ar p (i+1)=Du (Ar p i) (AB p i) (AF (Ar p i) (AB p i)++[(i:Int)]):=by simp only[Ar];rw[if_neg he]
  have H:(AF (Ar p i) (AB p i)).length<=i:=by obtain⟨n,f⟩:=CE g.1;rw[f];exact NJ (HO (i:=n) (by omega))
  rw[e];refine wW ?_;repeat(refine cB (OU h) ?_;try simp(disch:=try exact dV) only[AD,hp])
 exact wZ
def DH:List Int->Int->Nat
 |[],_=>0
 |y::t,x=>if y=x then 0 else DH t x+1
theorem Uf{x:Int}:∀{l:List Int},DH l x<=l.length
 |[]=>Nat.le_refl _
 |y::t=>by have:=Uf (x:=x) (l:=t);unfold DH;split<;>simp<;>omega
theorem Iz{x:Int}:∀{l:List Int},DH l x<l.length↔x∈l
 |[]=>by simp[DH]
 |y::t=>by have:=Iz (x:=x) (l:=t);unfold DH;by_cases h:y=x;simp[h];rw[if_neg h];simp only[AO,Nat.add_lt_add_iff_right,this,A7];constructor;exact λq=>.inr q;rintro(q|q);exact absurd q.symm h;exact q
theorem UO{x:Int}:∀{l:List Int},x∈l->AB l (DH l x)=x
 |[],h=>by cases h
 |y::t,h=>by
  unfold DH
  by_cases H:y=x
  rw[if_pos H];simp[AB,H]
  rw[if_neg H]
  have a:x∈t:=by
   rcases A7.1 h with q|q
   exact absurd q.symm H
   exact q
  have:=UO a
  simpa[AB]using this
theorem AQH{x:Int}{b:List Int}:∀{a:List Int},x∈a->DH (a++b) x=DH a x
 |[],h=>by cases h
 |y::t,h=>by
  simp only[List.cons_append,DH]
  by_cases H:y=x
  rw[if_pos H,if_pos H]
  rw[if_neg H,if_neg H]
  have c:x∈t:=by
   rcases A7.1 h with q|q
   exact absurd q.symm H
   exact q
  rw[AQH c]
def BA(l:List Int):Nat->List Int
 |0=>[]
 |i+1=>if AB l i∈BA l i then BA l i else BA l i++[AB l i]
def DB(l:List Int):Nat->List Int
 |0=>[]
 |i+1=>DB l i++[(DH (BA l i) (AB l i):Int)]
theorem P5{l:List Int}:∀i,(DB l i).length=i
 |0=>rfl
 |i+1=>by simp[DB,P5 i]
theorem V8{l:List Int}:∀i,(BA l i).length<=i
 |0=>by simp[BA]
 |i+1=>by have:=V8 (l:=l) i;unfold BA;split;omega;simp;omega
theorem TJ{l:List Int}{x:Int}:∀{i:Nat},x∈BA l i↔∃k:Nat,k<i/\AB l k=x
 |0=>by simp[BA]
 |i+1=>by
  have I:=TJ (l:=l) (x:=x) (i:=i)
  have key:x∈BA l (i+1)↔x∈BA l i\/AB l i=x:=by
   have e:BA l (i+1)=if AB l i∈BA l i then BA l i else BA l i++[AB l i]:=rfl
   rw[e]
   split
   rename_i h
   constructor
   exact λq=>.inl q
   rintro(q|q)
   exact q
   rw[<-q];exact h
   simp only[Ac,List.mem_singleton]
   constructor
   rintro(q|q)
   exact .inl q
   exact .inr q.symm
   rintro(q|q)
   exact .inl q
   exact .inr q.symm
  rw[key,I]
  constructor
  rintro(⟨k,a,H⟩|h)
  exact⟨k,by omega,H⟩
  exact⟨i,by omega,h⟩
  rintro⟨k,a,H⟩
  rcases BS k i with q|q
  exact .inl ⟨k,q,H⟩
  obtain rfl:k=i:=by omega
  exact .inr H
theorem ABY{l:List Int}:∀{i k:Nat},k<i->AB (DB l i) k=DH (BA l i) (AB l k)
 |0,k,h=>by omega
 |i+1,k,h=>by
  have g:=P5 (l:=l) i
  have H:∀{x:Int},x∈BA l i->DH (BA l (i+1)) x=DH (BA l i) x:=by
   intro x b
   simp only[BA]
   split
   rfl
   exact AQH b
  rcases BS k i with q|q
  have I:=ABY (l:=l) (i:=i) (k:=k) q
  rw[H (TJ.2 ⟨k,q,rfl⟩),<-I]
  simp only[DB,AB,Ap]
  rw[DW (by simpa[g]using q)]
  obtain rfl:k=i:=by omega
  have e:AB (DB l (k+1)) k=(DH (BA l k) (AB l k):Int):=by
   simp only[DB,AB,Ap,BM]
   rw[G7 (by omega)]
   simp[g]
  rw[e]
  by_cases b:AB l k∈BA l k
  rw[H b]
  have j:BA l (k+1)=BA l k++[AB l k]:=by simp only[BA];rw[if_neg b]
  have f:∀(a:List Int),AB l k∉a->DH (a++[AB l k]) (AB l k)=a.length/\DH a (AB l k)=a.length:=by
   intro a c
   induction a with
   |nil=>simp[DH]
   |cons y t I=>
    simp only[A7,not_or]at c
    have:=I c.2
    simp only[List.cons_append,DH,if_neg (λq=>c.1 (Eq.symm q)),AO,this,and_self]
  rw[j,(f _ b).1,(f _ b).2]
theorem AJV[HA K]{l:List Int}(h:l.length<=8):K 475 [LI l] [LI (DB l l.length),.b true]:=by
 refine qw I475 ?_;rw[QD];refine AN (λ_=>True) (λi=>[LI l,.u,.u,LI (DB l i),.n (BA l i).length,.u,.u,.u,.u,.u,.u,LI l,.n l.length,.n i,.u,.u,.u,.u,.u,.u,.u]) l.length trivial rfl (λi hi _=>?_) (λ_=>?_);have M:=P5 (l:=l) i;have L:=V8 (l:=l) i;have H:(sub l 0 (i:Int)).length=i:=by rw[K9];omega
 have o:∀k:Nat,k<i->AB (sub l 0 (i:Int)) k=AB l k:=by intro k c;simp[AB,sub,Ap,List.getElem?_take,c]
 obtain⟨B,g⟩:∃B:Nat,B=DH (BA l i) (AB l i):=⟨_,rfl⟩;have J:B<=(BA l i).length:=by rw[g];exact Uf
 have C:DB l (i+1)=DB l i++[(B:Int)]:=by simp only[DB,g]
 have F:((BA l (i+1)).length:Int)=if B=(BA l i).length then(BA l i).length+1 else(BA l i).length:=by simp only[BA];by_cases f:AB l i∈BA l i;have:=Iz.2 f;rw[if_pos f,if_neg (by omega)];have:¬DH (BA l i) (AB l i)<(BA l i).length:=λq=>f (Iz.1 q);rw[if_neg f,if_pos (by omega)];simp
 rw[C,F];simp(disch:=try exact dV) only[AD,H];refine Aj (λk (_:Unit)=>∀j:Nat,j<k->AB l j≠AB l i) (λk _=>[LI l,.u,.u,LI (DB l i),.n (BA l i).length,.u,.n (AB l i),.n (BA l i).length,.u,.u,.u,LI l,.n l.length,.n i,.u,LI (sub l 0 (i:Int)),.n i,.n k,.u,.u,.u]) i () (by simp) rfl (λk _ c P=>?_) (λ_ P=>?_);have s:=o k c;by_cases he:AB l i=AB l k;have x:=ABY (l:=l) c;rw[<-he,<-g]at x;have a:AB l i∈BA l i:=TJ.2 ⟨k,c,he.symm⟩;have:=Iz.2 a;have N:¬((2:Nat)=3):=by omega
 rw[if_neg (by omega)];simp(disch:=try exact dV) only[AD,H,s,x,if_neg N];simp(disch:=try exact dV) only[AD,H,s];exact⟨(),Bf P λq=>he q.symm⟩;have a:¬AB l i∈BA l i:=λq=>by obtain⟨k,G,I⟩:=TJ.1 q;exact P k G I
 have:¬DH (BA l i) (AB l i)<(BA l i).length:=λq=>a (Iz.1 q);have e:B=(BA l i).length:=by omega
 rw[if_pos e];refine wW ?_;rw[e];exact wZ
theorem AJ1{l:List Int}:∀i,(BA l i).Nodup
 |0=>by simp[BA]
 |i+1=>by have I:=AJ1 (l:=l) i;have e:BA l (i+1)=if AB l i∈BA l i then BA l i else BA l i++[AB l i]:=rfl;rw[e];split;exact I;rename_i h;rw[List.nodup_append];refine⟨I,by simp,λa c b H=>?_⟩;rw[List.mem_singleton]at H;subst H;intro q;exact h (q▸c)
theorem AX4{a:List Int}(h:a.Nodup){j k:Nat}(H:j<a.length)(b:k<a.length)(e:AB a j=AB a k):j=k:=by
 have e:a[j]=a[k]:=by simpa[AB,H,b]using e
 have c:=List.pairwise_iff_getElem.1 h;rcases Nat.lt_trichotomy j k with q|q|q;exact absurd e (c j k H b q);exact q;exact absurd e.symm (c k j b H q)
theorem ASQ[HA K]{l:List Int}(h:l.length<=1000000):K 323 [LI l] [LI (DB l l.length)]:=by
 refine qw I323 ?_;rw[QD];refine AN (λ_=>True) (λi=>[LI l,.u,LI (DB l i),LI (BA l i),.n i,.u,.u,.u,.u,.u,.u]) l.length trivial rfl (λi hi _=>?_) (λ_=>?_);have L:=P5 (l:=l) i;have J:=V8 (l:=l) i;obtain⟨B,c⟩:∃B:Nat,B=DH (BA l i) (AB l i):=⟨_,rfl⟩;have G:B<=(BA l i).length:=by rw[c];exact Uf
 have F:DB l (i+1)=DB l i++[(B:Int)]:=by simp only[DB,c]
 rw[F];refine wW ?_;refine Aj (λk (a:Int)=>(a=-1/\∀j:Nat,j<k->AB (BA l i) j≠AB l i)\/(a=B/\B<k)) (λk a=>[LI l,.u,LI (DB l i),LI (BA l i),.n i,.n a,.n k,.u,.u,.u,.u]) (BA l i).length (-1) (.inl ⟨rfl,by simp⟩) rfl (λk a C P=>?_) (λa P=>?_);by_cases he:AB (BA l i) k=AB l i;have H:AB l i∈BA l i:=by rw[<-he];simp[AB,C]
 have s:B=k:=by have e:=Iz.2 H;have x:=UO H;rw[<-c]at e x;exact AX4 (AJ1 i) e C (by rw[x,he])
 simp(disch:=try exact dV) only[AD,he];exact⟨_,.inr ⟨by rw[s],by omega⟩,rfl⟩;refine wW ?_;refine⟨a,?_,rfl⟩;rcases P with⟨g,b⟩|⟨g,b⟩;exact .inl ⟨g,Bf b he⟩;exact .inr ⟨g,by omega⟩;rcases P with⟨rfl,b⟩|⟨rfl,b⟩;have H:AB l i∉BA l i:=λq=>by have e:=Iz.2 q;exact b _ e (UO q)
 have I:¬DH (BA l i) (AB l i)<(BA l i).length:=λq=>H (Iz.1 q);have o:B=(BA l i).length:=by omega
 have f:BA l (i+1)=BA l i++[AB l i]:=by simp only[BA];rw[if_neg H]
 rw[f,o];exact wZ;have H:AB l i∈BA l i:=Iz.1 (by rw[<-c];exact b);have f:BA l (i+1)=BA l i:=by simp only[BA];rw[if_pos H]
 rw[f];exact wZ;exact wZ
def DK(w:List Nat)(g:Nat->Int):Nat->List Int
 |0=>[]
 |i+1=>if AH w i=117 then DK w g i++[g i]else DK w g i
def CT(w:List Nat)(i:Nat):Nat:=AA (w.take i) 117
theorem Ho{w:List Nat}{i:Nat}(h:i<w.length):CT w (i+1)=CT w i+(if AH w i=117 then 1 else 0):=by
 have e:w.take (i+1)=w.take i++[AH w i]:=by rw[CP h];simp[AH,h]
 simp only[CT,e,JJ];congr 1;by_cases q:AH w i=117;rw[if_pos q,q];simp[AA];rw[if_neg q];simp only[AA,List.count_cons,List.count_nil];rw[if_neg];simpa using q
theorem Q9{w:List Nat}{g:Nat->Int}:∀{i:Nat},i<=w.length->(DK w g i).length=CT w i
 |0,_=>by simp[DK,CT,AA]
 |i+1,h=>by have I:=Q9 (w:=w) (g:=g) (i:=i) (by omega);rw[Ho (by omega)];unfold DK;split;simp[I];simp[I]
theorem AO2{w:List Nat}{g G:Nat->Int}:∀{i:Nat},(∀a,a<i->AH w a=117->g a=G a+1)->DK w g i=(DK w G i).map (·+1)
 |0,_=>rfl
 |i+1,h=>by have I:=AO2 (w:=w) (i:=i) λa b=>h a (by omega);simp only[DK];split;rename_i H;rw[I,h i (by omega) H];simp;exact I
theorem ANA{x:Int}:∀{l:List Int},DH (l.map (·+1)) (x+1)=DH l x
 |[]=>rfl
 |y::t=>by simp only[List.map_cons,DH];by_cases h:y=x;rw[if_pos h,if_pos (by omega)];rw[if_neg h,if_neg (by omega),ANA]
theorem ABB{l:List Int}:∀{i:Nat},i<=l.length->BA (l.map (·+1)) i=(BA l i).map (·+1)
 |0,_=>rfl
 |i+1,h=>by
  have I:=ABB (l:=l) (i:=i) (by omega);have e:AB (l.map (·+1)) i=AB l i+1:=by simp[AB,show i<l.length by omega]
  simp only[BA,I,e];by_cases H:AB l i∈BA l i;rw[if_pos H,if_pos (List.mem_map.2 ⟨_,H,rfl⟩)];rw[if_neg H,if_neg];simp;intro q;obtain⟨y,a,b⟩:=List.mem_map.1 q;have:y=AB l i:=by omega
  exact H (this▸a)
theorem ARC{l:List Int}:∀{i:Nat},i<=l.length->DB (l.map (·+1)) i=DB l i
 |0,_=>rfl
 |i+1,h=>by
  have I:=ARC (l:=l) (i:=i) (by omega);have e:AB (l.map (·+1)) i=AB l i+1:=by simp[AB,show i<l.length by omega]
  simp only[DB,I,e,ABB (show i<=l.length by omega),ANA]
theorem JK{w:List Nat}{a:Nat}:∀{b:Nat},a<=b->b<=w.length->CT w a<=CT w b
 |0,h,_=>by
  obtain rfl:a=0:=by omega
  exact Nat.le_refl _
 |b+1,h,H=>by
  rcases BS a (b+1)with q|q;have:=JK (w:=w) (a:=a) (b:=b) (by omega) (by omega)
  rw[Ho (by omega)];omega;obtain rfl:a=b+1:=by omega
  exact Nat.le_refl _
theorem Ld{w:List Nat}(hd:AK w=true):2*CT w w.length=w.length:=by
 have h:=Af hd;have s:steps w=true:=by rw[AMP];exact PU hd
 simp only[steps,Aa]at s;have he:=h.he;simp only[Hh,List.take_length]at he;simp only[CT,List.take_length];omega
def EB(w:List Nat)(k:Nat):Nat:=DI 100 117 (λ_=>1) w k
def Eg(w:List Nat)(k:Nat):Nat:=DI 117 100 (λ_=>1) w k
theorem XQ{a b:Nat}{w:List Nat}:∀{i:Nat},DI a b (λ_=>1) w i<=i
 |0=>by simp[DI,CX]
 |i+1=>by have:=XQ (a:=a) (b:=b) (w:=w) (i:=i);simp only[DI,CX]at this|-;split<;>omega
theorem AJL{w:List Nat}(hd:AK w=true):∀{k:Nat},k<w.length->Eg w k=EB w k+(if AH w k=100 then 1 else 0)
 |0,h=>by
  have a:=Af hd
  have j:=a.h0 1 (by omega)
  have i:AH w 0=117:=by
   rcases a.ud 0 h with q|q
   exact q
   have:=FO h q;rw[FW]at this;simp at this;omega
  have e:AH w ((0:Nat):Int)=117:=i
  rw[if_neg (by omega)]<;>rfl
 |k+1,h=>by
  have a:=Af hd
  have I:=AJL hd (k:=k) (by omega)
  have c:Eg w (k+1)=Eg w k+(if AH w k=117/\AH w ((k:Int)+1)=100 then 1 else 0):=rfl
  have f:EB w (k+1)=EB w k+(if AH w k=100/\AH w ((k:Int)+1)=117 then 1 else 0):=rfl
  have g:((k+1:Nat):Int)=(k:Int)+1:=by omega
  have b:=a.ud k (by omega)
  have H:=a.ud (k+1) h
  rw[g]at H|-
  rw[c,f,I]
  rcases b with b|b<;>rcases H with H|H<;>simp[b,H]
theorem AiX{n a:Nat}:AB (rep (n:Int) 0) a=0:=by simp only[AB,rep,Ap,List.getElem?_replicate];split<;>rfl
theorem Ai7[HA K]{w:List Nat}(hd:AK w=true):∃rs,(∃m,PP w m/\rs=[LI (DB (DK w (λa=>(Eg w (AB m a).toNat:Int)) w.length) (CT w w.length)),.b true])/\K 503 [.s w] rs:=by
 have R:=Af hd;have hl:=R.l;have W:=Ld hd;obtain⟨_,⟨m,rfl,F⟩,Z⟩:=Q3 (K:=K) hd;have U:=F.1;refine qx I503 ?_;refine wW ?_;repeat(refine cB (Bv (by omega)) ?_;try simp(disch:=try exact dV) only[AD,hd])
 refine cW Z ?_;refine Aj (λi (x:List Int)=>x.length=w.length/\∀a:Nat,a<w.length->a<i+1->AB x a=Eg w a) (λi x=>[.s w,.u,.u,LI m,LI x,.n (Eg w i),.n ((i:Int)+1),.u,.u,.u,.u,.u,.u,.u]) (w.length-1) (rep w.length 0) ⟨by simp[rep],λa H f=>by
  obtain rfl:a=0:=by omega
  rw[AiX];rfl⟩ rfl (λi x hi P=>?_) (λx P=>?_)
 obtain⟨M,o⟩:=P;have k:=XQ (a:=117) (b:=100) (w:=w) (i:=i);have c:Eg w (i+1)=Eg w i+(if AH w i=117/\AH w ((i:Int)+1)=100 then 1 else 0):=rfl;have T:Eg w i<=i:=k;have h:∀z:Int,z=Eg w (i+1)->(BH x ((i:Int)+1) z).length=w.length/\∀a:Nat,a<w.length->a<i+1+1->AB (BH x ((i:Int)+1) z) a=Eg w a:=by
  intro z Y;refine⟨by rw[DO,M],λa H f=>?_⟩;have Q:((i:Int)+1)=((i+1:Nat):Int):=by omega
  rw[Q,H6 (by omega)];by_cases q:i+1=a;subst q;rw[if_pos rfl,Y];rw[if_neg q];exact o a H (by omega)
 by_cases H:AH w ((i:Int)+1)=100;by_cases f:AH w i=117;rw[if_pos ⟨f,H⟩]at c;simp(disch:=try exact dV) only[AD,H,f,Bm];refine⟨_,h ((Eg w i:Int)+1) (by rw[c];simp),?_⟩;rw[c];simp;rw[if_neg λq=>f q.1]at c;simp(disch:=try exact dV) only[AD,H,Bm];refine⟨_,h (Eg w i:Int) (by rw[c];simp),?_⟩;rw[c];simp;rw[if_neg λq=>H q.2]at c;refine wW ?_;refine⟨_,h (Eg w i:Int) (by rw[c];simp),?_⟩;rw[c];simp;obtain⟨M,o⟩:=P;refine wW ?_;rw[QD];obtain⟨G,N⟩:∃G:Nat->Int,G=λ(a:Nat)=>(Eg w (AB m (a:Int)).toNat:Int):=⟨_,rfl⟩;refine AN (λ_=>True) (λi=>[.s w,.u,.u,LI m,LI x,.u,.u,LI (DK w G i),.n i,.u,.u,.u,.u,.u]) w.length trivial rfl (λi hi _=>?_) (λ_=>?_);have j:=Q9 (w:=w) (g:=G) (i:=i) (by omega);have I:=JK (w:=w) (a:=i) (b:=w.length) (by omega) (by omega);obtain⟨b,k,V⟩:=F.2 i hi;have C:b<w.length:=by rcases V with q|q<;>have:=q.1<;>have:=q.2.1<;>omega
 have L:=o b C (by omega);have B:G i=Eg w b:=by rw[N];simp only[k,BM]
 by_cases J:AH w i=117;have e:DK w G (i+1)=DK w G i++[(Eg w b:Int)]:=by simp only[DK];rw[if_pos J,B]
 rw[e];simp(disch:=try exact dV) only[AD,J,k,L];have e:DK w G (i+1)=DK w G i:=by simp only[DK];rw[if_neg J]
 rw[e];exact wZ;have j:=Q9 (w:=w) (g:=G) (i:=w.length) (by omega);have O:=AJV (K:=K) (l:=DK w G w.length) (by omega);rw[j]at O;refine wW ?_;refine cW O ?_;exact⟨m,F,by rw[N]⟩
def PB(w:List Nat)(i:Nat)(bl:List Int)(st:List Nat):Prop:=
 SO w st i/\(∀j∈st,AH w j=117)/\bl.length=w.length/2/\∀a k:Nat,a<i->AH w a=117->a∉st->PR w a k->AB bl (CT w a)=EB w k
theorem AfM{w:List Nat}{a b:Nat}(c:a<w.length)(e:b<w.length)(U:AH w a=117)(f:AH w b=117)(h:CT w a=CT w b):a=b:=by
 rcases Nat.lt_trichotomy a b with q|q|q;have H:=Ho c;rw[if_pos U]at H;have:=JK (w:=w) (a:=a+1) (b:=b) (by omega) (by omega)
 omega;exact q;have H:=Ho e;rw[if_pos f]at H;have:=JK (w:=w) (a:=b+1) (b:=a) (by omega) (by omega);omega
theorem AkG{w:List Nat}{i:Nat}{bl:List Int}{st:List Nat}(h:PB w i bl st)(hi:i<w.length)(c:AH w i=117):PB w (i+1) bl (i::st):=by obtain⟨f,g,l,o⟩:=h;refine⟨ARR f hi c,λj s=>?_,l,λa k B H b x=>?_⟩;rcases A7.1 s with rfl|q;exact c;exact g j q;have e:a≠i:=λe=>b (by rw[e];exact List.mem_cons_self ..);exact o a k (by omega) H (λq=>b (BN _ q)) x
theorem AbD{w:List Nat}{i j:Nat}{bl:List Int}{st:List Nat}(hd:AK w=true)(h:PB w i bl (j::st))(hi:i<w.length)(l:AH w i=100):
  CT w j<w.length/2/\PB w (i+1) (BH bl (CT w j) (EB w i)) st:=by
 obtain⟨x,f,B,C⟩:=h;obtain⟨Q,I⟩:=AKE x hi l;have M:=Q.1;have U:=f j (List.mem_cons_self ..);have o:=Ho (w:=w) (i:=j) (by omega);rw[if_pos U]at o;have J:=JK (w:=w) (a:=j+1) (b:=w.length) (by omega) (by omega);have L:=Ld hd;refine⟨by omega,I,λa g=>f a (BN _ g),by rw[DO,B],λa k g H G c=>?_⟩;rw[H6 (by omega)];by_cases e:CT w j=CT w a
 .have s:j=a:=by
   refine AfM (by omega) ?_ U H e
   have:=c.1;have:=c.2.1;omega
  subst s
  rw[if_pos rfl,UI Q c]
 .rw[if_neg e];have F:a≠i:=λq=>by rw[q,l]at H;omega
  refine C a k (by omega) H (λq=>?_) c;rcases A7.1 q with q|q
  .exact e (by rw[q])
  .exact G q
def En(w:List Nat)(st:List Nat):List Int:=st.map λ(j:Nat)=>(CT w j:Int)
theorem AL4{w:List Nat}{j:Nat}{t:List Nat}:(En w (j::t)).reverse=(En w t).reverse++[(CT w j:Int)]:=by simp[En]
theorem AFL{w:List Nat}{bl:List Int}{m:List Int}(hd:AK w=true)(f:PP w m)(h:PB w w.length bl []):∀{i:Nat},i<=w.length->bl.take (CT w i)=DK w (λa=>(EB w (AB m a).toNat:Int)) i
 |0,_=>by simp[CT,AA,DK]
 |i+1,hi=>by
  have I:=AFL hd f h (i:=i) (by omega)
  obtain⟨s,x,B,g⟩:=h
  have e:=Ho (w:=w) (i:=i) (by omega)
  have l:=JK (w:=w) (a:=i+1) (b:=w.length) (by omega) (by omega)
  have o:=Ld hd
  by_cases H:AH w i=117
  rw[if_pos H]at e
  simp only[DK]
  rw[if_pos H,e,Wv (by omega),I]
  obtain⟨b,j,c⟩:=f.2 i (by omega)
  have c:PR w i b:=by
   rcases c with q|q
   exact q
   have k:=Af hd
   have:=q.2.2.1
   have:=GN (i:=i) (by omega) H
   have:=q.2.2.2 i q.1 (Nat.le_refl _)
   omega
  rw[g i b (by omega) H (by simp) c,j]
  simp
  rw[if_neg H]at e
  simp only[DK]
  rw[if_neg H,e,Nat.add_zero,I]
theorem AB9[HA K]{w:List Nat}{m:List Int}(hd:AK w=true)(W:PP w m):K 301 [.s w] [LI (DB (DK w (λa=>(EB w (AB m a).toNat:Int)) w.length) (CT w w.length)),.b true]:=by
 have F:=Af hd;have hl:=F.l;have Y:=Ld hd;refine qb I301 ?_;simp(disch:=first|omega|simp only[vl];omega) only[AD];repeat(first|(refine Eu (Br (K:=K) (w:=w) (by omega)) rfl ?_;try simp(disch:=first|omega|simp only[vl];omega) only[AD,hd]))
 rw[QD];have R:((w.length:Int)/2)=((w.length/2:Nat):Int):=by omega
 simp(disch:=first|omega|simp only[vl];omega) only[AD,R];refine Aj (λi (x:List Int×List Nat×Int)=>PB w i x.1 x.2.1/\(i<w.length->x.2.2=EB w i)) (λi x=>[.s w,.u,.u,LI x.1,LI (En w x.2.1).reverse,.n (CT w i),.n x.2.2,.n i,.u,.u,.u,.u]) w.length (rep (w.length/2:Nat) 0,[],0) ⟨⟨by simp[SO,FW],by simp,by simp[rep];omega,by omega⟩,λ_=>by simp[EB,DI,CX]⟩ (by simp[En,CT,AA]) (λi x hi h=>?_) (λx h=>?_);obtain⟨bl,st,nx⟩:=x;obtain⟨h,f⟩:=h;simp only at h f;have f:=f hi;subst f;have P:=LR h.1;have hb:=HE (w:=w) (i:=i);have h1:=F.h0 (i+1) (by omega);have g:=Ho hi;have Z:=JK (w:=w) (a:=i) (b:=w.length) (by omega) (by omega);have B:=XQ (a:=100) (b:=117) (w:=w) (i:=i);have B:EB w i<=i:=B;have hxl:((En w st).reverse).length=st.length:=by simp[En]
 have Q:(En w st).length=st.length:=by simp[En]
 have o:EB w (i+1)=EB w i+(if AH w i=100/\AH w ((i:Int)+1)=117 then 1 else 0):=rfl;rcases F.ud i hi with H|H;rw[if_pos H]at g;rw[if_neg (by omega)]at o;rw[g];simp(disch:=first|omega|simp only[vl];omega) only[AD,H];exact⟨(bl,i::st,(EB w i:Int)),⟨AkG h hi H,λ_=>by rw[o];simp⟩,by simp only[AL4]⟩;have T:=FO hi H;rw[if_neg (by omega)]at g
 cases st with
 |nil=>simp at P;omega
 |cons j t=>
  obtain⟨hj,c⟩:=AbD hd h hi H
  have J:=h.2.2.1
  have C:((En w t).reverse).length=t.length:=by simp[En]
  have V:(En w t).length=t.length:=by simp[En]
  have G:AB ((En w t).reverse++[(CT w j:Int)]) t.length=CT w j:=by rw[<-C];exact Kr
  have I:sub ((En w t).reverse++[(CT w j:Int)]) 0 t.length=(En w t).reverse:=by rw[<-C];exact L7
  have f3:((((En w t).reverse++[(CT w j:Int)]).length:Nat):Int)=(t.length:Int)+1:=by simp[En]
  simp only[AO]at P
  simp only[AL4]
  rw[g]
  by_cases U:(i:Int)+1=w.length
  .have O:=c
   simp(disch:=first|omega|simp only[vl];omega) only[AD,H,f3,G,I,Bm]
   exact⟨(BH bl (CT w j) (EB w i),t,(EB w i:Int)+1),⟨c,λq=>by omega⟩,by simp⟩
  .by_cases k:AH w ((i:Int)+1)=117
   .rw[if_pos ⟨H,k⟩]at o
    simp(disch:=first|omega|simp only[vl];omega) only[AD,H,f3,G,I,Bm,k]
    exact⟨(BH bl (CT w j) (EB w i),t,(EB w i:Int)+1),⟨c,λ_=>by rw[o];simp⟩,by simp⟩
   .rw[if_neg λq=>k q.2]at o
    simp(disch:=first|omega|simp only[vl];omega) only[AD,H,f3,G,I,Bm]
    exact⟨(BH bl (CT w j) (EB w i),t,(EB w i:Int)),⟨c,λ_=>by rw[o];simp⟩,by simp⟩
 obtain⟨bl,st,nx⟩:=x;obtain⟨h,_⟩:=h;simp only at h;have L:st=[]:=by have:=LR h.1;rw[F.he]at this;exact Dz (by omega)
 subst L;have M:=AFL hd W h (i:=w.length) (Nat.le_refl _);have J:=h.2.2.1;rw[List.take_of_length_le (by omega)]at M;have N:=ASQ (K:=K) (l:=bl) (by omega);have e:bl.length=CT w w.length:=by omega
 rw[e]at N;rw[M]at N;simp(disch:=first|omega|simp only[vl];omega) only[AD];rw[M];refine Eu (N) rfl ?_;simp(disch:=first|omega|simp only[vl];omega) only[AD]
end Go.Cat
