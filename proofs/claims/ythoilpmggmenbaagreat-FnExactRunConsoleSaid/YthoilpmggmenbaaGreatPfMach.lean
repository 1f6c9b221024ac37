/-
 Stack sorting, bubbles, patterns.
-/
import Derived.Test.YthoilpmggmenbaaGreatPfLFCl
set_option linter.unusedSimpArgs false
set_option linter.unusedVariables false
namespace Go.Cat
variable{K:Nat->List D->List D->Prop}
def pat(p:List Int)(i j k:Nat):Prop:=i<j/\j<k/\k<p.length/\AB p k<AB p i/\AB p i<AB p j
def first(p:List Int)(t:Nat×Nat×Nat):Prop:=pat p t.1 t.2.1 t.2.2/\∀i j k,pat p i j k->¬(i<t.1\/(i=t.1/\(j<t.2.1\/(j=t.2.1/\k<t.2.2))))
theorem AeI{p:List Int}{t u:Nat×Nat×Nat}(h:first p t)(g:first p u):t=u:=by
 obtain⟨a,b,c⟩:=t;obtain⟨d,e,f⟩:=u;have H:=h.2 d e f g.1;have i:=g.2 a b c h.1;simp only at H i;have:a=d:=by omega
 have:b=e:=by omega
 have:c=f:=by omega
 simp_all
open Classical in
noncomputable def Hv(p:List Int):Bool:=C2 p&&decide (∃t,first p t)
open Classical in
noncomputable def IG(p:List Int):List Int:=if h:C2 p=true/\∃t,first p t then [(h.2.choose.1:Int),h.2.choose.2.1,h.2.choose.2.2]else []
theorem AFJ{p:List Int}{i j k:Nat}(H:C2 p=true)(h:first p (i,j,k)):Hv p=true/\IG p=[(i:Int),j,k]:=by
 have x:∃t,first p t:=⟨_,h⟩
 refine⟨by simp[Hv,H,x],?_⟩;unfold IG;rw[dif_pos ⟨H,x⟩];have:=AeI (Exists.choose_spec (⟨H,x⟩:C2 p=true/\∃t,first p t).2) h;rw[this]
theorem ANS{p:List Int}(h:∀i j k,¬pat p i j k):Hv p=false/\IG p=[]:=by
 have x:¬∃t,first p t:=λ⟨t,ht⟩=>h _ _ _ ht.1
 refine⟨by simp[Hv,x],?_⟩;unfold IG;rw[dif_neg (λq=>x q.2)]
theorem T7{p:List Int}(h:C2 p=false):Hv p=false/\IG p=[]:=by refine⟨by simp[Hv,h],?_⟩;unfold IG;rw[dif_neg (λq=>by rw[h]at q;cases q.1)]
theorem Ac4{p:List Int}:(IG p).length<=3:=by unfold IG;split<;>simp
theorem AdN[HA K]{p:List Int}(h:p.length<=1048576):K 50 [LI p] [LI (IG p),.b (Hv p)]:=by
 refine qw I50 ?_
 cases j:C2 p
 .repeat(refine cB (Oj (by omega)) ?_;try simp(disch:=omega) only[AD,j])
  obtain⟨f,g⟩:=T7 j;rw[f,g]<;>rfl
 repeat(refine cB (Oj (by omega)) ?_;try simp(disch:=omega) only[AD,j])
 refine AN (λi=>∀a:Nat,a<i->∀b c,¬pat p a b c) (λi=>[LI p,.u,.u,.u,.u,.u,.u,.n p.length,.n i,.u,.u,.u,.u]) p.length (by simp) rfl (λi hi P=>?_) (λP=>?_)
 .refine wW ?_;refine AN (λm=>∀b:Nat,b<m->∀c,¬pat p i (i+1+b) c) (λm=>[LI p,.u,.u,.n i,.n ((i:Int)+1+m),.u,.u,.n p.length,.n i,.u,.u,.u,.u]) (p.length-(i+1)) (by simp) (by simp(disch:=omega) only[AD,Int.add_zero]) (λm F Q=>?_) (λQ=>?_)
  .refine wW ?_;refine AN (λk=>∀c:Nat,c<k->¬pat p i (i+1+m) (i+1+m+1+c)) (λk=>[LI p,.u,.u,.n i,.n ((i:Int)+1+m),.n ((i:Int)+1+m+1+k),.u,.n p.length,.n i,.u,.u,.u,.u]) (p.length-(i+1+m+1)) (by simp) (by simp(disch:=omega) only[AD,Int.add_zero]) (λk C R=>?_) (λR=>?_)
   .by_cases s:AB p ((i:Int)+1+m+1+k)<AB p i<;>by_cases x:AB p i<AB p ((i:Int)+1+m);refine wW ?_;have B:first p (i,i+1+m,i+1+m+1+k):=by refine⟨⟨by show i<i+1+m;omega,by show i+1+m<i+1+m+1+k;omega,by show i+1+m+1+k<p.length;omega,?_,?_⟩,?_⟩;exact_mod_cast s;exact_mod_cast x;rintro a b c q H;simp only at H;rcases H with H|⟨rfl,H|⟨rfl,H⟩⟩;exact P a H b c q;have:=q.1;have e:=Q (b-(a+1)) (by omega) c;rw[show a+1+(b-(a+1))=b by omega]at e;exact e q;have:=q.2.1;have e:=R (c-(a+1+m+1)) (by omega);rw[show a+1+m+1+(c-(a+1+m+1))=c by omega]at e;exact e q
    obtain⟨f,g⟩:=AFJ j B;rw[f,g]<;>rfl
    all_goals
     simp(disch:=omega) only[AD,<-Int.add_assoc]
     refine Bf R λq=>?_
     have l:=q.2.2.2.1
     have o:=q.2.2.2.2
     have f:(((i+1+m+1+k:Nat)):Int)=(i:Int)+1+m+1+k:=by omega
     have g:(((i+1+m:Nat)):Int)=(i:Int)+1+m:=by omega
     rw[f]at l
     rw[g]at o
     omega
   simp(disch:=omega) only[AD,<-Int.add_assoc];refine Bf Q λc q=>?_;have l:=q.2.1;have o:=q.2.2.1;have e:=R (c-(i+1+m+1)) (by omega);rw[show i+1+m+1+(c-(i+1+m+1))=c by omega]at e;exact e q
  refine wW ?_;refine Bf P λb c q=>?_;have l:=q.1;have o:=q.2.1;have G:=q.2.2.1;have e:=Q (b-(i+1)) (by omega) c;rw[show i+1+(b-(i+1))=b by omega]at e;exact e q
 refine wW ?_;obtain⟨f,g⟩:=ANS (p:=p) λa b c q=>P a (by have:=q.1;have:=q.2.1;have:=q.2.2.1;omega) b c q;rw[f,g]<;>rfl
theorem AB8[HA K]{p:List Int}(h:p.length<=1048576):K 49 [LI p] [LI (IG p),.b (Hv p)]:=by
 refine qw I49 ?_
 cases j:C2 p
 .refine AN (λ_=>False\/True) (λi=>[LI p,.u,.u,.n i,.u,.u,.u,.u,.u,.u]) p.length (by simp) rfl (λi hi _=>?_) (λ_=>?_)
  .refine wW ?_;repeat(refine cB (Mt (by omega)) ?_;try simp(disch:=omega) only[AD,j])
   obtain⟨f,g⟩:=T7 j;rw[f,g]<;>rfl
  refine wW ?_;obtain⟨f,g⟩:=T7 j;rw[f,g]<;>rfl
 refine AN (λi=>∀a:Nat,a<i->∀b c,¬pat p a b c) (λi=>[LI p,.u,.u,.n i,.u,.u,.u,.u,.u,.u]) p.length (by simp) rfl (λi hi P=>?_) (λP=>?_)
 .refine wW ?_;repeat(refine cB (Mt (by omega)) ?_;try simp(disch:=omega) only[AD,j])
  refine AN (λm=>∀b:Nat,b<m->∀c,¬pat p i (i+1+b) c) (λm=>[LI p,.u,.u,.n i,.n ((i:Int)+1+m),.u,.u,.u,.u,.u]) (p.length-(i+1)) (by simp) (by simp(disch:=omega) only[AD,Int.add_zero]) (λm F Q=>?_) (λQ=>?_)
  .refine wW ?_;refine AN (λk=>∀c:Nat,c<k->¬pat p i (i+1+m) (i+1+m+1+c)) (λk=>[LI p,.u,.u,.n i,.n ((i:Int)+1+m),.n ((i:Int)+1+m+1+k),.u,.u,.u,.u]) (p.length-(i+1+m+1)) (by simp) (by simp(disch:=omega) only[AD,Int.add_zero]) (λk C R=>?_) (λR=>?_)
   .by_cases s:AB p ((i:Int)+1+m+1+k)<AB p i<;>by_cases x:AB p i<AB p ((i:Int)+1+m);refine wW ?_;have B:first p (i,i+1+m,i+1+m+1+k):=by refine⟨⟨by show i<i+1+m;omega,by show i+1+m<i+1+m+1+k;omega,by show i+1+m+1+k<p.length;omega,?_,?_⟩,?_⟩;exact_mod_cast s;exact_mod_cast x;rintro a b c q H;simp only at H;rcases H with H|⟨rfl,H|⟨rfl,H⟩⟩;exact P a H b c q;have:=q.1;have e:=Q (b-(a+1)) (by omega) c;rw[show a+1+(b-(a+1))=b by omega]at e;exact e q;have:=q.2.1;have e:=R (c-(a+1+m+1)) (by omega);rw[show a+1+m+1+(c-(a+1+m+1))=c by omega]at e;exact e q
    obtain⟨f,g⟩:=AFJ j B;rw[f,g]<;>rfl
    all_goals
     simp(disch:=omega) only[AD,<-Int.add_assoc]
     refine Bf R λq=>?_
     have l:=q.2.2.2.1
     have o:=q.2.2.2.2
     have f:(((i+1+m+1+k:Nat)):Int)=(i:Int)+1+m+1+k:=by omega
     have g:(((i+1+m:Nat)):Int)=(i:Int)+1+m:=by omega
     rw[f]at l
     rw[g]at o
     omega
   simp(disch:=omega) only[AD,<-Int.add_assoc];refine Bf Q λc q=>?_;have l:=q.2.1;have o:=q.2.2.1;have e:=R (c-(i+1+m+1)) (by omega);rw[show i+1+m+1+(c-(i+1+m+1))=c by omega]at e;exact e q
  refine wW ?_;refine Bf P λb c q=>?_;have l:=q.1;have o:=q.2.1;have G:=q.2.2.1;have e:=Q (b-(i+1)) (by omega) c;rw[show i+1+(b-(i+1))=b by omega]at e;exact e q
 refine wW ?_;obtain⟨f,g⟩:=ANS (p:=p) λa b c q=>P a (by have:=q.1;have:=q.2.1;have:=q.2.2.1;omega) b c q;rw[f,g]<;>rfl
end Go.Cat
namespace Go.Cat
variable{K:Nat->List D->List D->Prop}
set_option maxRecDepth 100000
def Ha(x:Int)(l:List Int):Bool:=l.any λz=>decide (z<x)
def d231(x:Int):List Int->Bool
 |[]=>false
 |y::l=>(decide (x<y)&&Ha x l)||d231 x l
def Er:List Int->Bool
 |[]=>false
 |x::l=>d231 x l||Er l
theorem Z3{x y:Int}{l:List Int}:Ha x (y::l)=(decide (y<x)||Ha x l):=rfl
theorem AKR{x y:Int}{l:List Int}:d231 x (y::l)=((decide (x<y)&&Ha x l)||d231 x l):=rfl
theorem AGS{x:Int}{l:List Int}:Er (x::l)=(d231 x l||Er l):=rfl
theorem AS7[HA K]{a b c:Int}:K 206 [.n a,.n b,.n c] [.b (decide (c<a)&&decide (a<b))]:=by refine qb I206 ?_;by_cases h:c<a;by_cases H:a<b;have e:decide (c<a)=true:=decide_eq_true h;have f:decide (a<b)=true:=decide_eq_true H;rw[e,f];exact wZ;have e:decide (c<a)=true:=decide_eq_true h;have f:decide (a<b)=false:=decide_eq_false H;rw[e,f];exact wZ;have e:decide (c<a)=false:=decide_eq_false h;rw[e];exact wZ
def FC(p:List Int):Bool:=C2 p&&Er p
theorem AUM[HA K]{p:List Int}(h:p.length<=1000000):K 205 [LI p,.f 206 []] [.b (FC p)]:=by
 refine qw I205 ?_;refine cB (Oj (by omega)) ?_
 cases o:C2 p;have e:FC p=false:=by simp[FC,o]
 rw[e];exact wZ;have e:FC p=Er p:=by simp[FC,o]
 rw[e];refine wW ?_;refine AN (λi=>Er (p.drop i)=Er p) (λi=>[LI p,.f 206 [],.u,.u,.u,.u,.u,.n p.length,.n i,.u,.u,.u,.u]) p.length (by simp) rfl (λi hi P=>?_) (λP=>?_);rw[Jw hi,AGS]at P;refine wW ?_;refine Aj (λj (_:Unit)=>d231 (AB p i) (p.drop (i+1+j))=d231 (AB p i) (p.drop (i+1))) (λj _=>[LI p,.f 206 [],.u,.n i,.n ((i:Int)+1+j),.u,.u,.n p.length,.n i,.u,.u,.u,.u]) (p.length-(i+1)) () (by simp) (by simp) (λj _ s Q=>?_) (λ_ Q=>?_);rw[Jw (show i+1+j<p.length by omega),AKR]at Q;rw[show((i+1+j:Nat):Int)=(i:Int)+1+j by omega]at Q;refine wW ?_;refine Aj (λk (_:Unit)=>Ha (AB p i) (p.drop (i+1+j+1+k))=Ha (AB p i) (p.drop (i+1+j+1))\/¬AB p i<AB p ((i:Int)+1+j)) (λk _=>[LI p,.f 206 [],.u,.n i,.n ((i:Int)+1+j),.n ((i:Int)+1+j+1+k),.u,.n p.length,.n i,.u,.u,.u,.u]) (p.length-(i+1+j+1)) () (.inl (by simp)) (by simp) (λk _ x R=>?_) (λ_ R=>?_);rw[Jw (show i+1+j+1+k<p.length by omega),Z3]at R;rw[show((i+1+j+1+k:Nat):Int)=(i:Int)+1+j+1+k by omega]at R;refine wW ?_;refine cB AS7 ?_;by_cases l:AB p ((i:Int)+1+j+1+k)<AB p i;have a:decide (AB p ((i:Int)+1+j+1+k)<AB p i)=true:=decide_eq_true l;by_cases H:AB p i<AB p ((i:Int)+1+j);have c:decide (AB p i<AB p ((i:Int)+1+j))=true:=decide_eq_true H;rw[a]at R;have R:=R.resolve_right (λq=>q H);rw[c,<-R]at Q;rw[<-Q]at P;simp only[Bool.true_or,Bool.true_and]at P;rw[a,c];refine wW ?_;rw[<-P];have c:decide (AB p i<AB p ((i:Int)+1+j))=false:=decide_eq_false H;rw[a,c];refine wW ?_;exact⟨(),.inr H,by simp;omega⟩;have a:decide (AB p ((i:Int)+1+j+1+k)<AB p i)=false:=decide_eq_false l;rw[a]at R;rw[a];refine wW ?_;refine⟨(),?_,by simp;omega⟩;rcases R with R|R;left;rw[show i+1+j+1+(k+1)=i+1+j+1+k+1 by omega];simpa using R;exact .inr R;refine wW ?_;refine⟨(),?_,by simp;omega⟩;have g:p.drop (i+1+j+1+(p.length-(i+1+j+1)))=[]:=by simp;omega
 rw[g]at R;rw[show i+1+(j+1)=i+1+j+1 by omega];rcases R with R|R;rw[<-R]at Q;simpa[Ha]using Q;have c:decide (AB p i<AB p ((i:Int)+1+j))=false:=decide_eq_false R;rw[c]at Q;simpa using Q;refine wW ?_;have g:p.drop (i+1+(p.length-(i+1)))=[]:=by simp;omega
 rw[g]at Q;rw[<-Q]at P;simpa[d231]using P;rw[List.drop_length]at P;refine wW ?_;rw[<-P]<;>rfl
theorem AX8[HA K]{p:List Int}(h:p.length<=1000000):K 187 [LI p] [.b (FC p)]:=by refine qw I187 ?_;exact cZ (AUM h)
theorem AjS[HA K]{p:List Int}(h:p.length<=1000000):K 186 [LI p] [.b (FC p)]:=by
 refine qw I186 ?_
 cases H:C2 p;have e:FC p=false:=by simp[FC,H]
 rw[e];refine AN (λi=>True) (λi=>[LI p,.u,.n i,.u,.u,.u,.u,.u,.u]) 0 trivial rfl (λi hi P=>?_) (λP=>?_);omega;by_cases h0:0<p.length;refine wW ?_;refine cB (Mt (by omega)) ?_;simp(disch:=omega) only[AD,H];exact wZ;have e:FC p=Er p:=by simp[FC,H]
 rw[e];refine AN (λi=>Er (p.drop i)=Er p) (λi=>[LI p,.u,.n i,.u,.u,.u,.u,.u,.u]) p.length (by simp) rfl (λi hi P=>?_) (λP=>?_);rw[Jw hi,AGS]at P;refine wW ?_;refine cB (Mt (by omega)) ?_;simp(disch:=omega) only[AD,H];refine Aj (λj (_:Unit)=>d231 (AB p i) (p.drop (i+1+j))=d231 (AB p i) (p.drop (i+1))) (λj _=>[LI p,.u,.n i,.n ((i:Int)+1+j),.u,.u,.u,.u,.u]) (p.length-(i+1)) () (by simp) (by simp) (λj _ o Q=>?_) (λ_ Q=>?_);rw[Jw (show i+1+j<p.length by omega),AKR]at Q;rw[show((i+1+j:Nat):Int)=(i:Int)+1+j by omega]at Q;refine wW ?_;refine Aj (λk (_:Unit)=>Ha (AB p i) (p.drop (i+1+j+1+k))=Ha (AB p i) (p.drop (i+1+j+1))\/¬AB p i<AB p ((i:Int)+1+j)) (λk _=>[LI p,.u,.n i,.n ((i:Int)+1+j),.n ((i:Int)+1+j+1+k),.u,.u,.u,.u]) (p.length-(i+1+j+1)) () (.inl (by simp)) (by simp) (λk _ s R=>?_) (λ_ R=>?_);rw[Jw (show i+1+j+1+k<p.length by omega),Z3]at R;rw[show((i+1+j+1+k:Nat):Int)=(i:Int)+1+j+1+k by omega]at R;by_cases l:AB p ((i:Int)+1+j+1+k)<AB p i;have a:decide (AB p ((i:Int)+1+j+1+k)<AB p i)=true:=decide_eq_true l;by_cases f:AB p i<AB p ((i:Int)+1+j);have c:decide (AB p i<AB p ((i:Int)+1+j))=true:=decide_eq_true f;rw[a]at R;have R:=R.resolve_right (λq=>q f);rw[c,<-R]at Q;rw[<-Q]at P;simp only[Bool.true_or,Bool.true_and]at P;refine wW ?_;rw[<-P];refine wW ?_;exact⟨(),.inr f,by simp;omega⟩;have a:decide (AB p ((i:Int)+1+j+1+k)<AB p i)=false:=decide_eq_false l;rw[a]at R;refine wW ?_;refine⟨(),?_,by simp;omega⟩;rcases R with R|R;left;rw[show i+1+j+1+(k+1)=i+1+j+1+k+1 by omega];simpa using R;exact .inr R;refine wW ?_;refine⟨(),?_,by simp;omega⟩;have g:p.drop (i+1+j+1+(p.length-(i+1+j+1)))=[]:=by simp;omega
 rw[g]at R;rw[show i+1+(j+1)=i+1+j+1 by omega];rcases R with R|R;rw[<-R]at Q;simpa[Ha]using Q;have c:decide (AB p i<AB p ((i:Int)+1+j))=false:=decide_eq_false R;rw[c]at Q;simpa using Q;refine wW ?_;have g:p.drop (i+1+(p.length-(i+1)))=[]:=by simp;omega
 rw[g]at Q;rw[<-Q]at P;simpa[d231]using P;rw[List.drop_length]at P;refine wW ?_;rw[<-P]<;>rfl
theorem AVT{p:List Int}(h:∃i j k,pat p i j k):∃t,first p t:=by obtain⟨i,hi,M⟩:=exists_least (J:=λi=>∃j k,pat p i j k) h;obtain⟨j,c,f⟩:=exists_least (J:=λj=>∃k,pat p i j k) hi;obtain⟨k,e,mk⟩:=exists_least (J:=λk=>pat p i j k) c;refine⟨(i,j,k),e,?_⟩;rintro I b a H (q|⟨rfl,q|⟨rfl,q⟩⟩);exact M I q ⟨b,a,H⟩;exact f b q ⟨a,H⟩;exact mk a q H
theorem ATW{p:List Int}{x:Int}:Ha x p=true↔∃k:Nat,k<p.length/\AB p k<x:=by simp only[Ha,List.any_eq_true,Aa];constructor;rintro⟨z,a,h⟩;obtain⟨k,H,rfl⟩:=List.mem_iff_getElem.1 a;exact⟨k,H,by simpa[AB,H]using h⟩;rintro⟨k,H,h⟩;exact⟨p[k],List.getElem_mem H,by simpa[AB,H]using h⟩
theorem PZ{x:Int}{l:List Int}:AB (x::l) ((0:Nat):Int)=x:=rfl
theorem Gt{x:Int}{l:List Int}{k:Nat}:AB (x::l) ((k+1:Nat):Int)=AB l k:=by simp[AB]
theorem ABM{x:Int}:∀{p:List Int},d231 x p=true↔∃j k:Nat,j<k/\k<p.length/\AB p k<x/\x<AB p j
 |[]=>by simp[d231]
 |y::l=>by
  simp only[d231,Bool.or_eq_true,AV,Aa,ATW,ABM (p:=l)];constructor;rintro(⟨b,k,c,a⟩|⟨j,k,b,a,H,h⟩);exact⟨0,k+1,by omega,by simp;omega,by rw[Gt];exact a,by rw[PZ];exact b⟩;exact⟨j+1,k+1,by omega,by simp;omega,by rw[Gt];exact H,by rw[Gt];exact h⟩;rintro⟨j,k,b,a,H,h⟩
  cases k with
  |zero=>omega
  |succ k=>
   rw[Gt]at H
   simp only[AO]at a
   cases j with
   |zero=>rw[PZ]at h;exact .inl ⟨h,k,by omega,H⟩
   |succ j=>rw[Gt]at h;exact .inr ⟨j,k,by omega,by omega,H,h⟩
theorem Zb:∀{p:List Int},Er p=true↔∃i j k,pat p i j k
 |[]=>by simp[Er,pat]
 |x::l=>by
  simp only[Er,Bool.or_eq_true,ABM,Zb (p:=l),pat];constructor;rintro(⟨j,k,b,c,a,h⟩|⟨i,j,k,b,c,a,h,H⟩);exact⟨0,j+1,k+1,by omega,by omega,by simp;omega,by rw[Gt,PZ];exact a,by rw[Gt,PZ];exact h⟩;exact⟨i+1,j+1,k+1,by omega,by omega,by simp;omega,by rw[Gt,Gt];exact h,by rw[Gt,Gt];exact H⟩;rintro⟨i,j,k,b,c,a,h,H⟩;simp only[AO]at a
  cases k with
  |zero=>omega
  |succ k=>
   cases j with
   |zero=>omega
   |succ j=>
    rw[Gt]at h H
    cases i with
    |zero=>rw[PZ]at h H;exact .inl ⟨j,k,by omega,by omega,h,H⟩
    |succ i=>rw[Gt]at h H;exact .inr ⟨i,j,k,by omega,by omega,by omega,h,H⟩
theorem AgZ{p:List Int}:Hv p=FC p:=by unfold Hv FC;congr 1;rw[Bool.eq_iff_iff];simp only[Aa,Zb];exact⟨λ⟨t,ht⟩=>⟨_,_,_,ht.1⟩,AVT⟩
end Go.Cat
namespace Go.Cat
variable{K:Nat->List D->List D->Prop}
end Go.Cat
namespace Go.Cat
variable{K:Nat->List D->List D->Prop}
set_option maxRecDepth 100000
def Cm:List Int->Int->List Nat×List Int×Int
 |[],n=>([],[],n)
 |y::st,n=>if y=n then(100::(Cm st (n+1)).1,(Cm st (n+1)).2)else([],y::st,n)
def Dh:List Int->List Int->Int->List Nat
 |[],_,_=>[]
 |x::p,st,n=>117::((Cm (x::st) n).1++Dh p (Cm (x::st) n).2.1 (Cm (x::st) n).2.2)
def DE(p:List Int):Bool:=C2 p&&!(Er p)
def DR(p:List Int):List Nat:=if DE p=true then Dh p [] 0 else []
theorem AJO:D.l []=LI []:=rfl
theorem ANT[HA K]{p:List Int}(h:p.length<=1000):K 156 [LI p] [.s (DR p),.b (DE p)]:=by
 refine qw AI5 ?_;refine cB (Mt (by omega)) ?_
 cases H:C2 p;have e:DE p=false:=by simp[DE,H]
 simp only[DR,e];exact wZ;refine wW ?_;refine cB (AjS (by omega)) ?_;have I:FC p=Er p:=by simp[FC,H]
 rw[I]
 cases B:Er p;have e:DE p=true:=by simp[DE,H,B]
 simp only[DR,e,if_true];simp(disch:=try exact dV) only[AD,AJO];refine Aj (λi (x:List Nat×List Int×Int)=>x.1++Dh (p.drop i) x.2.1 x.2.2=Dh p [] 0/\x.1.length+x.2.1.length=2*i/\x.2.2+x.2.1.length=i) (λi x=>[LI p,.u,.u,.s x.1,LI x.2.1.reverse,.n x.2.2,.n i,.u,.u,.u]) p.length ([],[],0) ⟨by simp,by simp,by simp⟩ rfl (λi x hi P=>?_) (λx P=>?_);obtain⟨w,st,n⟩:=x;obtain⟨g,G,o⟩:=P;simp only at g G o;rw[Jw hi]at g;simp only[Dh]at g;obtain⟨R,a⟩:∃R,R=Cm (AB p i::st) n:=⟨_,rfl⟩;rw[<-a]at g;refine wW ?_;refine Bj (λ(x:List Nat×List Int×Int)=>x.1++(Cm x.2.1 x.2.2).1=w++[117]++R.1/\(Cm x.2.1 x.2.2).2=R.2/\x.1.length+x.2.1.length=2*i+2/\x.2.2+x.2.1.length=i+1) (λx=>[LI p,.u,.u,.s x.1,LI x.2.1.reverse,.n x.2.2,.n i,.u,.u,.u]) (λx=>x.2.1.length) (w++[117],AB p i::st,n) ⟨by rw[a],by rw[a],by simp;omega,by simp;omega⟩ (by simp) ?_;rintro⟨W,s1,N⟩ ⟨q,Q,c,f⟩;simp only at q Q c f|-
 cases s1 with
 |nil=>
  simp only[Cm,List.append_nil]at q Q
  simp only[List.reverse_nil]
  simp only[A6]at c f
  refine wW ?_
  refine⟨(W,[],N),⟨?_,by simp;omega,by simp;omega⟩,rfl⟩
  show W++Dh (p.drop (i+1)) [] N=_
  rw[<-g,<-Q,q];simp
 |cons y t=>
  have C:t.reverse.length=t.length:=by simp
  have j:AB (t.reverse++[y]) t.length=y:=by rw[<-C];exact Kr
  have k:sub (t.reverse++[y]) 0 t.length=t.reverse:=by rw[<-C];exact L7
  have l:(((t.reverse++[y]).length:Nat):Int)=(t.length:Int)+1:=by simp
  simp only[List.reverse_cons]
  simp only[AO]at c f
  by_cases F:y=N
  .subst F
   simp only[Cm,if_true]at q Q
   simp(disch:=try exact dV) only[AD,l,j,k,Bm]
   refine⟨(W++[100],t,y+1),by simp,⟨by rw[<-q];simp,Q,by simp;omega,by simp only;omega⟩,rfl⟩
  .simp only[Cm,if_neg F,List.append_nil]at q Q
   simp(disch:=try exact dV) only[AD,l,j,k,Bm]
   refine⟨(W,y::t,N),⟨?_,by simp;omega,by simp;omega⟩,by simp⟩
   show W++Dh (p.drop (i+1)) (y::t) N=_
   rw[<-g,<-Q,q];simp
 obtain⟨w,st,n⟩:=x;obtain⟨g,G,o⟩:=P;rw[List.drop_length]at g;simp only[Dh,List.append_nil]at g;simp(disch:=try exact dV) only[AD,g];have e:DE p=false:=by simp[DE,H,B]
 simp only[DR,e];exact wZ
end Go.Cat
namespace Go.Cat
variable{K:Nat->List D->List D->Prop}
set_option maxRecDepth 100000
theorem AhJ:∀{p st:List Int}{n:Int},(Dh p st n).length<=2*p.length+st.length:=by
 have pop:∀(st:List Int)(n:Int),(Cm st n).1.length+(Cm st n).2.1.length=st.length:=by
  intro st;induction st with
  |nil=>intro n;rfl
  |cons y st i=>
   intro n
   unfold Cm
   split
   .have:=i (n+1);simp only[AO];omega
   .simp
 intro p;induction p with
 |nil=>intro st n;simp[Dh]
 |cons x p i=>
  intro st n
  have h:=pop (x::st) n
  have H:=i (st:=(Cm (x::st) n).2.1) (n:=(Cm (x::st) n).2.2)
  simp only[Dh,AO,A4]at h|-
  omega
theorem AZ2{p:List Int}:(DR p).length<=2*p.length:=by unfold DR;split;simpa using AhJ (p:=p) (st:=[]) (n:=0);simp
end Go.Cat
