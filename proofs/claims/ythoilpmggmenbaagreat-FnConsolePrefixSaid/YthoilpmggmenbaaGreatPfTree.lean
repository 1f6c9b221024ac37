/-
 Binary trees as texts.
-/
import Derived.Test.YthoilpmggmenbaaGreatPfH
set_option linter.unusedSimpArgs false
set_option linter.unusedVariables false
namespace Go.Cat
variable{K:Nat->List D->List D->Prop}
inductive BT
 |lf
 |nd(l r:BT)
def BT.d:BT->D
 |.lf=>.z
 |.nd l r=>.p [l.d,r.d]
def BT.t:BT->List Nat
 |.lf=>[46]
 |.nd l r=>40::(l.t++(r.t++[41]))
def BT.n:BT->Nat
 |.lf=>0
 |.nd l r=>l.n+r.n+1
theorem BT.tl:∀x:BT,x.t.length=3*x.n+1
 |.lf=>rfl
 |.nd l r=>by have:=BT.tl l;have:=BT.tl r;simp only[BT.t,BT.n,AP,AW,A5];omega
theorem BT.Dg{x:BT}:known x.d=some x.d:=by cases x<;>rfl
theorem BT.RI{x:BT}:x.d.one=true:=by cases x<;>rfl
theorem Nr{s:List Nat}{i:Nat}{c:Nat}{r:List Nat}(h:s.drop i=c::r):i<s.length/\AH s i=c/\s.drop (i+1)=r:=by
 have hi:i<s.length:=by rcases BQ i s.length with q|q;exact q;rw[List.drop_of_length_le q]at h;cases h
 rw[EN hi]at h;injection h with H a;exact⟨hi,H,a⟩
theorem K5{s a b:List Nat}{i:Nat}(h:s.drop i=a++b):s.drop (i+a.length)=b:=by rw[<-List.drop_drop,h];simp
theorem OC[HA K]{s:List Nat}(l:s.length<=1000000000):∀(x:BT)(i:Nat)(r:List Nat),s.drop i=x.t++r->K 208 [.s s,.n i] [x.d,.n (i+x.t.length)]
 |.lf,i,r,h=>by obtain⟨hi,H,_⟩:=Nr (c:=46) (r:=r) (by simpa[BT.t]using h);refine qb T4 ?_;simp(disch:=omega) only[AD,H];simp[BT.d,BT.t]
 |.nd a b,i,r,h=>by
  simp only[BT.t,List.cons_append,CT]at h;obtain⟨hi,H,e⟩:=Nr h;have f:=K5 e;have B:=K5 f;obtain⟨F,C,G⟩:=Nr (c:=41) (r:=r) (by simpa using B);have k:=OC l a (i+1) _ e;have g:=OC l b (i+1+a.t.length) _ f;have j:((i+1:Nat):Int)=(i:Int)+1:=by omega
  have o:((i+1+a.t.length:Nat):Int)=(i:Int)+1+a.t.length:=by omega
  rw[j]at k;rw[o]at g;have q:AH s ((i:Int)+1+a.t.length+b.t.length)=41:=by rw[<-C];congr 1
  refine qb T4 ?_;simp(disch:=omega) only[AD,H];refine cW k ?_;refine cB g ?_;simp(disch:=omega) only[AD,q,BT.RI];simp only[BT.d,BT.t,AP,AW,A5];exact D2 rfl (congrArg D.n (by omega))
def Jx(s:List Nat)(i:Nat):Prop:=∀(x:BT)(r:List Nat),s.drop i≠x.t++r
theorem AbD[HA K]{s:List Nat}(G:s.length<=1000000000):∀(n i:Nat),s.length-i<=n->Jx s i->K 208 [.s s,.n i] [.z,.n (-1)]:=by
 intro n;induction n with
 |zero=>
  intro i hi _
  refine qb T4 ?_
  have:s.length<=i:=by omega
  exact wZ
 |succ n I=>
  intro i hi o
  refine qb T4 ?_
  by_cases h0:i<s.length
  .by_cases l:AH s i=46
   .exact absurd (EN h0) (by rw[l];exact o .lf _)
   .by_cases h:AH s i=40
    .have B:((i+1:Nat):Int)=(i:Int)+1:=by omega
     have hd:s.drop i=40::s.drop (i+1):=by rw[EN h0,h]
     by_cases H:Jx s (i+1)
     .have k:=I (i+1) (by omega) H
      rw[B]at k
      simp(disch:=omega) only[AD,h]
      exact cZ k
     .obtain⟨a,R,H⟩:∃(a:BT)(r:List Nat),s.drop (i+1)=a.t++r:=by
       refine Classical.byContradiction λq=>H λx r e=>q ⟨x,r,e⟩
      have k:=OC (K:=K) G a (i+1) _ H
      rw[B]at k
      have L:=K5 H
      have C:((i+1+a.t.length:Nat):Int)=(i:Int)+1+a.t.length:=by omega
      have j:=congrArg List.length H
      simp only[List.length_drop,AW]at j
      by_cases c:Jx s (i+1+a.t.length)
      .have g:=I (i+1+a.t.length) (by omega) c
       rw[C]at g
       simp(disch:=omega) only[AD,h]
       refine cW k ?_
       exact cZ g
      .obtain⟨b,O,c⟩:∃(b:BT)(r:List Nat),s.drop (i+1+a.t.length)=b.t++r:=by
        refine Classical.byContradiction λq=>c λx r e=>q ⟨x,r,e⟩
       have g:=OC (K:=K) G b (i+1+a.t.length) _ c
       rw[C]at g
       have F:=K5 c
       have f:=congrArg List.length c
       simp only[List.length_drop,AW]at f
       by_cases M:i+1+a.t.length+b.t.length<s.length
       .have N:AH s ((i:Int)+1+a.t.length+b.t.length)≠41:=by
         intro q
         have J:AH s ((i+1+a.t.length+b.t.length:Nat):Int)=41:=by rw[<-q];congr 1
         rw[EN M,J]at F
         refine o (.nd a b) (s.drop (i+1+a.t.length+b.t.length+1)) ?_
         rw[hd,H,<-L,c,<-F]
         simp[BT.t]
        simp(disch:=omega) only[AD,h]
        refine cW k ?_
        exact cZ g
       .simp(disch:=omega) only[AD,h]
        refine cW k ?_
        exact cZ g
    .exact wZ
  .exact wZ
theorem La[HA K]{s:List Nat}(l:s.length<=1000000000):∀(x:BT)(i:Nat)(r:List Nat),s.drop i=x.t++r->K 188 [.s s,.n i] [.n (i+x.t.length)]
 |.lf,i,r,h=>by obtain⟨hi,H,_⟩:=Nr (c:=46) (r:=r) (by simpa[BT.t]using h);refine qb Rp ?_;simp(disch:=omega) only[AD,H];simp[BT.t]
 |.nd a b,i,r,h=>by
  simp only[BT.t,List.cons_append,CT]at h;obtain⟨hi,H,e⟩:=Nr h;have f:=K5 e;have B:=K5 f;obtain⟨F,C,G⟩:=Nr (c:=41) (r:=r) (by simpa using B);have k:=La l a (i+1) _ e;have g:=La l b (i+1+a.t.length) _ f;have j:((i+1:Nat):Int)=(i:Int)+1:=by omega
  have o:((i+1+a.t.length:Nat):Int)=(i:Int)+1+a.t.length:=by omega
  rw[j]at k;rw[o]at g;have q:AH s ((i:Int)+1+a.t.length+b.t.length)=41:=by rw[<-C];congr 1
  refine qb Rp ?_;simp(disch:=omega) only[AD,H];refine cW k ?_;refine cB g ?_;simp(disch:=omega) only[AD,q];simp only[BT.t,AP,AW,A5];exact Dn (by omega)
theorem AcP[HA K]{s:List Nat}(G:s.length<=1000000000):∀(n i:Nat),s.length-i<=n->Jx s i->K 188 [.s s,.n i] [.n (-1)]:=by
 intro n;induction n with
 |zero=>
  intro i hi _
  refine qb Rp ?_
  have:s.length<=i:=by omega
  exact wZ
 |succ n I=>
  intro i hi o
  refine qb Rp ?_
  by_cases h0:i<s.length
  .by_cases l:AH s i=46
   .exact absurd (EN h0) (by rw[l];exact o .lf _)
   .by_cases h:AH s i=40
    .have B:((i+1:Nat):Int)=(i:Int)+1:=by omega
     have hd:s.drop i=40::s.drop (i+1):=by rw[EN h0,h]
     by_cases H:Jx s (i+1)
     .have k:=I (i+1) (by omega) H
      rw[B]at k
      simp(disch:=omega) only[AD,h]
      exact cZ k
     .obtain⟨a,R,H⟩:∃(a:BT)(r:List Nat),s.drop (i+1)=a.t++r:=by
       refine Classical.byContradiction λq=>H λx r e=>q ⟨x,r,e⟩
      have k:=La (K:=K) G a (i+1) _ H
      rw[B]at k
      have L:=K5 H
      have C:((i+1+a.t.length:Nat):Int)=(i:Int)+1+a.t.length:=by omega
      have j:=congrArg List.length H
      simp only[List.length_drop,AW]at j
      by_cases c:Jx s (i+1+a.t.length)
      .have g:=I (i+1+a.t.length) (by omega) c
       rw[C]at g
       simp(disch:=omega) only[AD,h]
       refine cW k ?_
       exact cZ g
      .obtain⟨b,O,c⟩:∃(b:BT)(r:List Nat),s.drop (i+1+a.t.length)=b.t++r:=by
        refine Classical.byContradiction λq=>c λx r e=>q ⟨x,r,e⟩
       have g:=La (K:=K) G b (i+1+a.t.length) _ c
       rw[C]at g
       have F:=K5 c
       have f:=congrArg List.length c
       simp only[List.length_drop,AW]at f
       by_cases M:i+1+a.t.length+b.t.length<s.length
       .have N:AH s ((i:Int)+1+a.t.length+b.t.length)≠41:=by
         intro q
         have J:AH s ((i+1+a.t.length+b.t.length:Nat):Int)=41:=by rw[<-q];congr 1
         rw[EN M,J]at F
         refine o (.nd a b) (s.drop (i+1+a.t.length+b.t.length+1)) ?_
         rw[hd,H,<-L,c,<-F]
         simp[BT.t]
        simp(disch:=omega) only[AD,h]
        refine cW k ?_
        exact cZ g
       .simp(disch:=omega) only[AD,h]
        refine cW k ?_
        exact cZ g
    .exact wZ
  .exact wZ
theorem Ks:(false==true)=false:=rfl
theorem KH[HA K]:∀(x:BT),x.n<=1000000->K 197 [x.d] [.n x.n]
 |.lf,_=>by refine qb AAT ?_;simp only[BT.d,BT.n];exact wZ
 |.nd l r,h=>by simp only[BT.n]at h;have k:=KH l (by omega);have a:=KH r (by omega);refine qb AAT ?_;simp only[BT.d,BT.n];simp(disch:=omega) only[AD,BT.Dg,Ks];refine cB k ?_;simp(disch:=omega) only[AD,BT.Dg];refine cW a ?_;exact Dn (by omega)
def isT(s:List Nat):Prop:=s.length<=25/\∃x:BT,s=x.t
open Classical in
noncomputable def Az(s:List Nat):Bool:=decide (isT s)
theorem GN{x:BT}(h:x.n<=8):Az x.t=true:=by have:=BT.tl x;simp only[Az,Ac];exact⟨by omega,x,rfl⟩
theorem FX{s:List Nat}(h:Az s=true):∃x:BT,s=x.t/\x.n<=8:=by
 have h:isT s:=by simp only[Az,Ac]at h;exact h
 obtain⟨H,x,rfl⟩:=h;have:=BT.tl x;exact⟨x,rfl,by omega⟩
theorem AJS{s:List Nat}(h:Az s=false):¬isT s:=by simp only[Az,decide_eq_false_iff_not]at h;exact h
theorem Kz[HA K]{x:BT}(h:x.n<=8):K 194 [.s x.t] [x.d,.b true]:=by
 have l:=BT.tl x;have k:=OC (K:=K) (s:=x.t) (by omega) x 0 [] (by simp);have e:((0:Nat):Int)+(x.t.length:Int)=x.t.length:=by omega
 rw[e]at k;refine qw AMR ?_;refine cB k ?_;simp(disch:=omega) only[AD,BT.Dg];exact cZ (KH x (by omega))
theorem TH[HA K]{s:List Nat}(h:Az s=false):K 194 [.s s] [.z,.b false]:=by
 have f:=AJS h;refine qb AMR ?_;by_cases l:25<s.length;exact wZ;by_cases o:Jx s 0;have k:=AbD (K:=K) (s:=s) (by omega) s.length 0 (by omega) o;refine wW ?_;exact cZ k;obtain⟨x,r,a⟩:∃(x:BT)(r:List Nat),s.drop 0=x.t++r:=Classical.byContradiction λq=>o λx r e=>q ⟨x,r,e⟩;have k:=OC (K:=K) (s:=s) (by omega) x 0 r a;have c:((0:Nat):Int)+(x.t.length:Int)=x.t.length:=by omega
 rw[c]at k;rw[List.drop_zero]at a;have H:=congrArg List.length a;rw[AW]at H;have g:r.length≠0:=by intro q;have:r=[]:=Dy q;subst this;exact f ⟨by omega,x,by simpa using a⟩
 have i:=BT.tl x;refine wW ?_;exact cZ k
theorem Ka[HA K]{s:List Nat}:K 167 [.s s] [.b (Az s)]:=by
 refine qw I167 ?_
 cases h:Az s;exact cZ (TH h);obtain⟨x,rfl,H⟩:=FX h;exact cZ (Kz H)
theorem Ev[HA K]{s:List Nat}:K 160 [.s s] [.b (Az s)]:=by
 refine qb I160 ?_
 cases h:Az s;have g:=AJS h;by_cases l:25<s.length;exact wZ;by_cases o:Jx s 0;have k:=AcP (K:=K) (s:=s) (by omega) s.length 0 (by omega) o;refine wW ?_;exact cZ k;obtain⟨x,r,a⟩:∃(x:BT)(r:List Nat),s.drop 0=x.t++r:=Classical.byContradiction λq=>o λx r e=>q ⟨x,r,e⟩;have k:=La (K:=K) (s:=s) (by omega) x 0 r a;have c:((0:Nat):Int)+(x.t.length:Int)=x.t.length:=by omega
 rw[c]at k;rw[List.drop_zero]at a;have H:=congrArg List.length a;rw[AW]at H;have i:r.length≠0:=by intro q;have:r=[]:=Dy q;subst this;exact g ⟨by omega,x,by simpa using a⟩
 refine wW ?_;exact cZ k;obtain⟨x,rfl,j⟩:=FX h;have l:=BT.tl x;have k:=La (K:=K) (s:=x.t) (by omega) x 0 [] (by simp);have c:((0:Nat):Int)+(x.t.length:Int)=x.t.length:=by omega
 rw[c]at k;have f:(x.t==[])=false:=beq_eq_false_iff_ne.2 λq=>by rw[q]at l;simp at l
 refine wW ?_;refine cB k ?_;simp(disch:=omega) only[AD,f]
end Go.Cat
namespace Go.Cat
variable{K:Nat->List D->List D->Prop}
def IC(w:List Nat):Bool:=w.all λc=>decide (c=117\/c=100)
theorem Pn{c:Nat}{w:List Nat}:IC (c::w)=(decide (c=117\/c=100)&&IC w):=rfl
theorem AMG:∀(w:List Nat),steps w=IC w
 |[]=>rfl
 |c::w=>by
  have i:=AMG w
  have l:=Od (w:=w) (c:=117)
  have:AA w 117+AA w 100<=w.length:=by
   clear i l
   induction w with
   |nil=>simp[AA]
   |cons a w i=>simp only[Mf,AP];split<;>split<;>omega
  rw[Pn,<-i]
  simp only[steps,Mf,AP]
  by_cases h:c=117
  subst h;simp;omega
  by_cases H:c=100
  subst H;simp;omega
  simp[h,H];omega
def swp(c:Nat):Nat:=if c=117 then 100 else 117
def refl:List Nat->Int->List Nat
 |[],_=>[]
 |c::w,h=>if(if c=117 then h+1 else h-1)=-1 then c::w.map swp else c::refl w (if c=117 then h+1 else h-1)
def GF(a c d x:Nat):Nat:=if x=a then c else d
def only(a b:Nat)(w:List Nat):Bool:=w.all λx=>decide (x=a\/x=b)
theorem AG4{a b c:Nat}{w:List Nat}:only a b (c::w)=(decide (c=a\/c=b)&&only a b w):=rfl
theorem Wq[HA K]{w:List Nat}{a b c d:Nat}(h:w.length<=1000000000)(J:c<256)(hd:d<256):
  K 83 [.s w,.s [a,b],.s [c,d]] [.s (if only a b w=true then w.map (GF a c d)else []),.b (only a b w)]:=by
 refine qb I83 ?_;have F:AH [a,b] 0=a:=rfl;have o:AH [a,b] 1=b:=rfl;have C:AH [c,d] 0=c:=rfl;have f3:AH [c,d] 1=d:=rfl;simp(disch:=try exact dV) only[AD,Vx];refine Ah (λi (l:List Nat)=>l.length=i/\(∀x∈l,x<256)/\l++(w.drop i).map (GF a c d)=w.map (GF a c d)/\only a b w=only a b (w.drop i)) (λi l=>[.s w,.s [a,b],.s [c,d],.u,.u,LB l,.n i,.u,.u,.u,.u]) w.length [] ⟨rfl,by simp,by simp,by simp⟩ rfl (λi l hi P=>?_) (λl P=>?_)
 .obtain⟨G,g,H,f⟩:=P;rw[EN hi]at H f;rw[AG4]at f;rw[List.map_cons]at H;by_cases j:AH w i=a
  .have e:GF a c d (AH w i)=c:=by simp[GF,j]
   simp(disch:=try exact dV) only[AD,F,C];refine⟨l++[c],⟨by simp;omega,?_,?_,?_⟩,rfl⟩
   .intro x k;rcases A9.1 k with q|q
    .exact g x q
    .simp at q;omega
   .rw[<-H,e];simp
   .rw[f,j];simp
  .by_cases B:AH w i=b
   .have e:GF a c d (AH w i)=d:=by simp[GF,j]
    simp(disch:=try exact dV) only[AD,F,o,f3];refine⟨l++[d],⟨by simp;omega,?_,?_,?_⟩,rfl⟩
    .intro x k;rcases A9.1 k with q|q
     .exact g x q
     .simp at q;omega
    .rw[<-H,e];simp
    .rw[f,B];simp
   .simp(disch:=try exact dV) only[AD,F,o];have:only a b w=false:=by rw[f];simp[j,B]
    simp[this]
 .obtain⟨G,g,H,f⟩:=P;rw[List.drop_length]at H f;simp at H;have I:only a b w=true:=by rw[f];rfl
  simp(disch:=try exact dV) only[AD,NU g];simp[I,H]
theorem AWT{w:List Nat}:only 117 100 w=IC w:=rfl
end Go.Cat
namespace Go.Cat
variable{K:Nat->List D->List D->Prop}
def Hh(w:List Nat)(i:Nat):Int:=(AA (w.take i) 117:Int)-AA (w.take i) 100
theorem FI{w:List Nat}:Hh w 0=0:=by simp[Hh,AA]
theorem Lt{c:Nat}{w:List Nat}{i:Nat}:Hh (c::w) (i+1)=(if c=117 then 1 else 0)-(if c=100 then 1 else 0)+Hh w i:=by simp only[Hh,List.take_succ_cons,Mf];split<;>split<;>omega
theorem AeD{a b:List Nat}{i:Nat}(h:i<=a.length):Hh (a++b) i=Hh a i:=by simp only[Hh];rw[List.take_append_of_le_length h]
theorem J0{a b:List Nat}{c:Nat}:AA (a++b) c=AA a c+AA b c:=by simp[AA]
theorem AUF{a b:List Nat}{i:Nat}:Hh (a++b) (a.length+i)=Hh a a.length+Hh b i:=by simp only[Hh];rw[List.take_length_add_append,J0,J0];simp;omega
theorem Me:∀(w:List Nat)(h r:Int),0<=h->(Bm w h=some r↔IC w=true/\(∀i≤w.length,0<=h+Hh w i)/\r=h+Hh w w.length)
 |[],h,r,h0=>by
  simp only[Bm,IC,List.all_nil,A5,FI,AL,true_and]
  constructor
  rintro rfl
  refine⟨λi hi=>?_,by omega⟩
  have:i=0:=by omega
  subst this;rw[FI];omega
  rintro⟨_,h⟩;omega
 |c::w,h,r,h0=>by
  have sh:∀x:Int,(if c=117 then(1:Int)else 0)-(if c=100 then 1 else 0)=x->((∀i≤w.length+1,0<=h+Hh (c::w) i)↔∀i≤w.length,0<=(h+x)+Hh w i):=by
   intro x e
   constructor
   intro q i hi
   have:=q (i+1) (by omega)
   rw[Lt,e]at this
   omega
   intro q i hi
   cases i with
   |zero=>rw[FI];omega
   |succ i=>
    have:=q i (by omega)
    rw[Lt,e]
    omega
  simp only[Bm,Pn,AP,Lt]
  by_cases H:c=117
  rw[if_pos H,Me w (h+1) r (by omega)]
  rw[sh 1 (by simp[H])]
  simp[H]
  intro _ _;constructor<;>intro _<;>omega
  by_cases a:c=100
  rw[if_neg H,if_pos a,sh (-1) (by simp[a])]
  by_cases b:h-1<0
  rw[if_pos b]
  simp only[reduceCtorEq,false_iff,not_and]
  intro _ q
  have:=q 0 (by omega)
  rw[FI]at this
  omega
  rw[if_neg b,Me w (h-1) r (by omega)]
  simp[a]
  intro _
  constructor
  rintro⟨q,_⟩;exact⟨λi hi=>by have:=q i hi;omega,by omega⟩
  rintro⟨q,_⟩;exact⟨λi hi=>by have:=q i hi;omega,by omega⟩
  rw[if_neg H,if_neg a]
  simp[H,a]
theorem Ai3{w:List Nat}:AK w=true↔w.length<=16/\IC w=true/\(∀i≤w.length,0<=Hh w i)/\Hh w w.length=0:=by simp only[AK,AV,Ac,Me w 0 0 (by omega)];constructor;rintro⟨⟨h,H,a⟩,b⟩;exact⟨b,h,λi hi=>by have:=H i hi;omega,by omega⟩;rintro⟨h,H,a,b⟩;exact⟨⟨H,λi hi=>by have:=a i hi;omega,by omega⟩,h⟩
end Go.Cat
namespace Go.Cat
variable{K:Nat->List D->List D->Prop}
def PR(w:List Nat)(j k:Nat):Prop:=j<k/\k<w.length/\Hh w (k+1)=Hh w j/\∀m,j<m->m<=k->Hh w j<Hh w m
theorem Wf{w:List Nat}{j k a:Nat}(h:PR w j k)(H:PR w j a):k=a:=by obtain⟨c,a2,e,b⟩:=h;obtain⟨b1,b2,f,B⟩:=H;rcases Nat.lt_trichotomy k a with q|q|q;have:=B (k+1) (by omega) (by omega);omega;exact q;have:=b (a+1) (by omega) (by omega);omega
theorem ZR{w:List Nat}{j J k:Nat}(h:PR w j k)(H:PR w J k):j=J:=by obtain⟨c,a2,e,a⟩:=h;obtain⟨b1,b2,B,b⟩:=H;rcases Nat.lt_trichotomy j J with q|q|q;have:=a J (by omega) (by omega);omega;exact q;have:=b j (by omega) (by omega);omega
theorem Rz{w:List Nat}{i j k:Nat}(h:PR w i j)(H:PR w j k):False:=by obtain⟨c,a2,e,a⟩:=h;obtain⟨b1,b2,B,b⟩:=H;have:=a j (by omega) (by omega);have:=b (j+1) (by omega) (by omega);omega
theorem AZB{w:List Nat}{a b c d:Nat}(h:PR w a c)(H:PR w b d):¬(a<b/\b<c/\c<d):=by rintro⟨q,Q,j⟩;obtain⟨f,a2,g,e⟩:=h;obtain⟨b1,b2,i,B⟩:=H;have:=e b (by omega) (by omega);have:=B (c+1) (by omega) (by omega);omega
def PP(w:List Nat)(m:List Int):Prop:=m.length=w.length/\∀a:Nat,a<w.length->∃b:Nat,AB m a=b/\(PR w a b\/PR w b a)
theorem AZE{w:List Nat}{m M:List Int}(h:PP w m)(a:PP w M):m=M:=by refine HV (by rw[h.1,a.1]) λj H=>?_;rw[h.1]at H;obtain⟨b,e,q⟩:=h.2 j H;obtain⟨B,c,Q⟩:=a.2 j H;rw[e,c];rcases q with q|q<;>rcases Q with Q|Q;rw[Wf q Q];exact(Rz Q q).elim;exact(Rz q Q).elim;rw[ZR q Q]
theorem AiA{w:List Nat}{m:List Int}(h:PP w m){a:Nat}(f:a<m.length):0<=AB m a/\AB m a<m.length:=by obtain⟨c,H⟩:=h;obtain⟨b,e,q⟩:=H a (by omega);rcases q with q|q;have:=q.2.1;omega;have:=q.1;omega
theorem GS{w:List Nat}{i:Nat}(h:i<w.length)(H:AH w i=117):Hh w (i+1)=Hh w i+1:=by
 have e:w.take (i+1)=w.take i++[AH w i]:=by rw[CQ h];simp[AH,h]
 simp only[Hh,e,J0,H];simp[AA];omega
theorem F0{w:List Nat}{i:Nat}(h:i<w.length)(H:AH w i=100):Hh w (i+1)=Hh w i-1:=by
 have e:w.take (i+1)=w.take i++[AH w i]:=by rw[CQ h];simp[AH,h]
 simp only[Hh,e,J0,H];simp[AA];omega
structure DY(w:List Nat):Prop where
 l:w.length<=16
 ud:∀i:Nat,i<w.length->AH w i=117\/AH w i=100
 h0:∀i:Nat,i<=w.length->0<=Hh w i
 he:Hh w w.length=0
theorem Af{w:List Nat}(h:AK w=true):DY w:=by simp only[AK,AV,Ac]at h;obtain⟨H,b⟩:=h;obtain⟨a,a2,c⟩:=(Me w 0 0 (Int.le_refl _)).1 H;refine⟨b,λi hi=>?_,λi hi=>by have:=a2 i hi;omega,by omega⟩;have:=Ao.1 a (AH w i) (by simp[AH,hi]);simpa using this
def SO(w:List Nat):List Nat->Nat->Prop
 |[],i=>Hh w i=0
 |j::t,i=>j<i/\Hh w i=Hh w j+1/\(∀m,j<m->m<=i->Hh w j<Hh w m)/\SO w t j
theorem AaC{w:List Nat}:∀{t:List Nat}{j i:Nat},SO w t j->j<=i->Hh w i=Hh w j->(∀m,j<m->m<=i->Hh w j<=Hh w m)->SO w t i
 |[],j,i,h,_,he,_=>by simp only[SO]at h|-;omega
 |k::t,j,i,h,e,he,f=>by obtain⟨g,a2,a,b⟩:=h;refine⟨by omega,by omega,λm H c=>?_,b⟩;by_cases q:m<=j;exact a m H q;have:=f m (by omega) c;omega
theorem LP{w:List Nat}:∀{t:List Nat}{i:Nat},SO w t i->Hh w i=t.length
 |[],_,h=>by simpa[SO]using h
 |k::t,i,h=>by have:=LP h.2.2.2;have:=h.2.1;simp only[AP];omega
theorem APT{w:List Nat}{t:List Nat}{i:Nat}(h:SO w t i)(hi:i<w.length)(H:AH w i=117):SO w (i::t) (i+1):=by
 have e:=GS hi H;exact⟨by omega,e,λm a b=>by
  obtain rfl:m=i+1:=by omega
  omega,h⟩
theorem AN4{w:List Nat}{t:List Nat}{i j:Nat}(h:SO w (j::t) i)(hi:i<w.length)(hd:AH w i=100):PR w j i/\SO w t (i+1):=by
 obtain⟨b,a2,a,c⟩:=h;have e:=F0 hi hd;refine⟨⟨b,hi,by omega,a⟩,AaC c (by omega) (by omega) λm H f=>?_⟩;by_cases q:m<=i;have:=a m H q;omega;obtain rfl:m=i+1:=by omega
 omega
end Go.Cat
namespace Go.Cat
variable{K:Nat->List D->List D->Prop}
def Ip(m:List Int)(i:Nat):Prop:=∀j:Nat,j<i->AR 0 ((m.length:Int)-1) (AB m j)=true/\AB m j≠j/\AB m (AB m j)=j
instance{m:List Int}{i:Nat}:Decidable (Ip m i):=by unfold Ip;infer_instance
def Ca(m:List Int):Bool:=decide (m.length<=16)&&decide (Ip m m.length)
theorem OJ{m:List Int}(h:¬Ip m m.length):Ca m=false:=by simp[Ca,h]
theorem HT{m:List Int}(h:Ca m=true):m.length<=16/\Ip m m.length:=by simpa[Ca]using h
theorem AGU[HA K]{m:List Int}(h:m.length<=1099511627776):K 380 [LI m] [.b (Ca m)]:=by
 refine qb I380 ?_;by_cases l:m.length<=16
 .refine wW ?_;refine AN (λi=>Ip m i) (λi=>[LI m,.u,.u,.u,.u,LI m,.n m.length,.n i,.u,.u]) m.length (by simp[Ip]) rfl (λi hi P=>?_) (λP=>?_)
  .refine wW ?_
   cases H:AR 0 ((m.length:Int)-1) (AB m i)
   .repeat(refine cB Br ?_;try simp(disch:=omega) only[AD,H])
    rw[OJ λq=>by have:=(q i hi).1;rw[H]at this;cases this]
   have e:=A7.1 H;repeat(refine cB Br ?_;try simp(disch:=omega) only[AD,H])
   by_cases a:AB m i=i;simp(disch:=omega) only[AD,a];rw[OJ λq=>(q i hi).2.1 a];refine wW ?_;by_cases c:AB m (AB m i)=i;refine wW ?_;exact Bg P ⟨H,a,c⟩;refine wW ?_;rw[OJ λq=>c (q i hi).2.2]
  refine wW ?_;simp[Ca,l,P]
 refine wW ?_;simp[Ca,l]
theorem SU[HA K]{m:List Int}(h:m.length<=1099511627776):K 379 [LI m] [.b (Ca m)]:=by
 refine qw I379 ?_;refine AN (λi=>Ip m i) (λi=>[LI m,.u,.n i,.u,.u]) m.length (by simp[Ip]) rfl (λi hi P=>?_) (λP=>?_)
 .refine wW ?_
  cases H:AR 0 ((m.length:Int)-1) (AB m i)
  .repeat(refine cB Bt ?_;try simp(disch:=omega) only[AD,H])
   rw[OJ λq=>by have:=(q i hi).1;rw[H]at this;cases this]
  have e:=A7.1 H;repeat(refine cB Bt ?_;try simp(disch:=omega) only[AD,H])
  by_cases a:AB m i=i;simp(disch:=omega) only[AD,a];rw[OJ λq=>(q i hi).2.1 a];refine wW ?_;by_cases c:AB m (AB m i)=i;refine wW ?_;exact Bg P ⟨H,a,c⟩;refine wW ?_;rw[OJ λq=>c (q i hi).2.2]
 refine wW ?_;simp[Ca,P];omega
def CY(g:Nat->Nat):Nat->Nat
 |0=>0
 |n+1=>CY g n+g n
theorem LX{g:Nat->Nat}{b:Nat}(h:∀i,g i<=b):∀n,CY g n<=n*b
 |0=>by simp[CY]
 |n+1=>by have:=LX h n;have:=h n;simp only[CY,Nat.succ_mul];omega
theorem PG{g:Nat->Nat}:∀{n},(∀i,i<n->g i=0)->CY g n=0
 |0,_=>rfl
 |n+1,h=>by simp only[CY];rw[PG λi hi=>h i (by omega),h n (by omega)]
def EW(m:List Int)(a b:Nat):Nat:=if(a:Int)<b/\(b:Int)<AB m a/\AB m a<AB m b then 1 else 0
def R4(m:List Int):Nat:=CY (λa=>CY (EW m a) m.length) m.length
theorem AN1{m:List Int}{a b:Nat}:EW m a b<=1:=by unfold EW;split<;>omega
theorem AV7[HA K]{m:List Int}(h:m.length<=1099511627776):K 369 [LI m] [.n (if Ca m=true then(R4 m:Int)else -1)]:=by
 refine qw I369 ?_;refine cB (SU h) ?_
 cases q:Ca m;refine wW ?_;simp;have B:=(HT q).1;rw[if_pos rfl];refine wW ?_;refine Ah (λi (c:Nat)=>c=CY (λa=>CY (EW m a) m.length) i) (λi c=>[LI m,.u,.n c,.n i,.u,.u,.u,.u,.u]) m.length 0 rfl rfl (λi c hi P=>?_) (λc P=>?_);subst P;have j:=LX (g:=λa=>CY (EW m a) m.length) (b:=16) (λa=>by have:=LX (g:=EW m a) (b:=1) (λ_=>AN1) m.length;omega) i;have h0:CY (EW m i) (i+1)=0:=PG λb j=>by unfold EW;rw[if_neg (by omega)]
 refine wW ?_;refine Bd (λ(x:Nat×Nat)=>(i+1<=x.1/\x.1<=m.length)/\x.2=CY (EW m i) x.1) (λx=>[LI m,.u,.n (CY (λa=>CY (EW m a) m.length) i+x.2:Nat),.n i,.n x.1,.u,.u,.u,.u]) (λx=>m.length-x.1) (i+1,0) ⟨by omega,h0.symm⟩ rfl ?_;rintro⟨k,c⟩ ⟨l,H⟩;simp only at l H|-;subst H;have s:=LX (g:=EW m i) (b:=1) (λ_=>AN1) k;by_cases o:k<m.length;have f:CY (EW m i) (k+1)=CY (EW m i) k+EW m i k:=rfl;by_cases Q:(k:Int)<AB m i;by_cases C:AB m i<AB m k;have e:EW m i k=1:=if_pos (by omega);refine wW ?_;exact⟨(k+1,CY (EW m i) (k+1)),by show m.length-(k+1)<m.length-k;omega,⟨by show i+1<=k+1/\k+1<=m.length;omega,rfl⟩,by rw[f,e];simp;omega⟩;have e:EW m i k=0:=if_neg (by omega);refine wW ?_;exact⟨(k+1,CY (EW m i) (k+1)),by show m.length-(k+1)<m.length-k;omega,⟨by show i+1<=k+1/\k+1<=m.length;omega,rfl⟩,by rw[f,e];simp⟩;have e:EW m i k=0:=if_neg (by omega);refine wW ?_;exact⟨(k+1,CY (EW m i) (k+1)),by show m.length-(k+1)<m.length-k;omega,⟨by show i+1<=k+1/\k+1<=m.length;omega,rfl⟩,by rw[f,e];simp⟩;obtain rfl:k=m.length:=by omega
 refine wW ?_;exact⟨_,rfl,rfl⟩;subst P;exact wZ
def ET(m:List Int):Bool:=Ca m&&decide (R4 m=0)
theorem AV2{m:List Int}:decide ((if Ca m=true then(R4 m:Int)else -1)=0)=ET m:=by
 unfold ET
 cases Ca m;rfl;simp
theorem XI[HA K]{m:List Int}(h:m.length<=1099511627776):K 355 [LI m] [.b (ET m)]:=by refine qw I355 ?_;refine cB (AV7 h) ?_;simp(disch:=omega) only[AD,AV2]
theorem AQA{w:List Nat}{m:List Int}(l:w.length<=16)(h:PP w m):Ca m=true:=by
 have key:Ip m m.length:=by
  intro j k;have i:=AiA h k;obtain⟨f,H⟩:=h;obtain⟨b,e,q⟩:=H j (by omega);have g:b<w.length:=by rcases q with q|q<;>have:=q.2.1<;>have:=q.1<;>omega
  obtain⟨c,a,Q⟩:=H b g;refine⟨A7.2 (by omega),?_,?_⟩;rcases q with q|q<;>have:=q.1<;>omega;rw[e,a];rcases q with q|q<;>rcases Q with Q|Q;exact(Rz q Q).elim;rw[ZR q Q];rw[Wf q Q];exact(Rz Q q).elim
 have f:=h.1;simp only[Ca,AV,Ac];exact⟨by omega,key⟩
theorem AkN{w:List Nat}{m:List Int}(h:PP w m):R4 m=0:=by obtain⟨g,H⟩:=h;refine PG λa i=>PG λb j=>if_neg ?_;rintro⟨P,k,l⟩;obtain⟨c,e,q⟩:=H a (by omega);obtain⟨d,f,Q⟩:=H b (by omega);rcases q with q|q;rcases Q with Q|Q;exact AZB q Q (by omega);have:=Q.1;omega;have:=q.1;omega
theorem AW9{w:List Nat}{m:List Int}(l:w.length<=16)(h:PP w m):ET m=true:=by simp[ET,AQA l h,AkN h]
end Go.Cat
