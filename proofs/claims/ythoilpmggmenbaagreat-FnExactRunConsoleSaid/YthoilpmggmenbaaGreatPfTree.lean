/-
 Binary trees as texts.
-/
import Derived.Test.YthoilpmggmenbaaGreatPfH
set_option linter.unusedSimpArgs false
set_option linter.unusedVariables false
namespace Go.Cat
variable{K:Nat->List D->List D->Prop}
inductive BT
 |lf
 |nd(l r:BT)
def BT.d:BT->D
 |.lf=>.z
 |.nd l r=>.p [l.d,r.d]
def BT.t:BT->List Nat
 |.lf=>[46]
 |.nd l r=>40::(l.t++(r.t++[41]))
def BT.n:BT->Nat
 |.lf=>0
 |.nd l r=>l.n+r.n+1
theorem BT.tl:∀x:BT,x.t.length=3*x.n+1
 |.lf=>rfl
 |.nd l r=>by have:=BT.tl l;have:=BT.tl r;simp only[BT.t,BT.n,AO,A4,A6];omega
theorem BT.Dc{x:BT}:known x.d=some x.d:=by cases x<;>rfl
theorem BT.SN{x:BT}:x.d.one=true:=by cases x<;>rfl
theorem Nu{s:List Nat}{i:Nat}{c:Nat}{r:List Nat}(h:s.drop i=c::r):i<s.length/\AH s i=c/\s.drop (i+1)=r:=by
 have hi:i<s.length:=by rcases BS i s.length with q|q;exact q;rw[List.drop_of_length_le q]at h;cases h
 rw[EF hi]at h;injection h with H a;exact⟨hi,H,a⟩
theorem KW{s a b:List Nat}{i:Nat}(h:s.drop i=a++b):s.drop (i+a.length)=b:=by rw[<-List.drop_drop,h];simp
theorem Nk[HA K]{s:List Nat}(l:s.length<=1000000000):∀(x:BT)(i:Nat)(r:List Nat),s.drop i=x.t++r->K 208 [.s s,.n i] [x.d,.n (i+x.t.length)]
 |.lf,i,r,h=>by obtain⟨hi,H,_⟩:=Nu (c:=46) (r:=r) (by simpa[BT.t]using h);refine qb RB ?_;simp(disch:=omega) only[AD,H];simp[BT.d,BT.t]
 |.nd a b,i,r,h=>by
  simp only[BT.t,List.cons_append,CO]at h;obtain⟨hi,H,e⟩:=Nu h;have f:=KW e;have B:=KW f;obtain⟨F,C,G⟩:=Nu (c:=41) (r:=r) (by simpa using B);have k:=Nk l a (i+1) _ e;have g:=Nk l b (i+1+a.t.length) _ f;have j:((i+1:Nat):Int)=(i:Int)+1:=by omega
  have o:((i+1+a.t.length:Nat):Int)=(i:Int)+1+a.t.length:=by omega
  rw[j]at k;rw[o]at g;have q:AH s ((i:Int)+1+a.t.length+b.t.length)=41:=by rw[<-C];congr 1
  refine qb RB ?_;simp(disch:=omega) only[AD,H];refine cW k ?_;refine cB g ?_;simp(disch:=omega) only[AD,q,BT.SN];simp only[BT.d,BT.t,AO,A4,A6];exact D2 rfl (congrArg D.n (by omega))
def Jm(s:List Nat)(i:Nat):Prop:=∀(x:BT)(r:List Nat),s.drop i≠x.t++r
theorem AdC[HA K]{s:List Nat}(G:s.length<=1000000000):∀(n i:Nat),s.length-i<=n->Jm s i->K 208 [.s s,.n i] [.z,.n (-1)]:=by
 intro n;induction n with
 |zero=>
  intro i hi _
  refine qb RB ?_
  have:s.length<=i:=by omega
  exact wZ
 |succ n I=>
  intro i hi o
  refine qb RB ?_
  by_cases h0:i<s.length
  .by_cases l:AH s i=46
   .exact absurd (EF h0) (by rw[l];exact o .lf _)
   .by_cases h:AH s i=40
    .have B:((i+1:Nat):Int)=(i:Int)+1:=by omega
     have hd:s.drop i=40::s.drop (i+1):=by rw[EF h0,h]
     by_cases H:Jm s (i+1)
     .have k:=I (i+1) (by omega) H
      rw[B]at k
      simp(disch:=omega) only[AD,h]
      exact cZ k
     .obtain⟨a,R,H⟩:∃(a:BT)(r:List Nat),s.drop (i+1)=a.t++r:=by
       refine Classical.byContradiction λq=>H λx r e=>q ⟨x,r,e⟩
      have k:=Nk (K:=K) G a (i+1) _ H
      rw[B]at k
      have L:=KW H
      have C:((i+1+a.t.length:Nat):Int)=(i:Int)+1+a.t.length:=by omega
      have j:=congrArg List.length H
      simp only[List.length_drop,A4]at j
      by_cases c:Jm s (i+1+a.t.length)
      .have g:=I (i+1+a.t.length) (by omega) c
       rw[C]at g
       simp(disch:=omega) only[AD,h]
       refine cW k ?_
       exact cZ g
      .obtain⟨b,O,c⟩:∃(b:BT)(r:List Nat),s.drop (i+1+a.t.length)=b.t++r:=by
        refine Classical.byContradiction λq=>c λx r e=>q ⟨x,r,e⟩
       have g:=Nk (K:=K) G b (i+1+a.t.length) _ c
       rw[C]at g
       have F:=KW c
       have f:=congrArg List.length c
       simp only[List.length_drop,A4]at f
       by_cases M:i+1+a.t.length+b.t.length<s.length
       .have N:AH s ((i:Int)+1+a.t.length+b.t.length)≠41:=by
         intro q
         have J:AH s ((i+1+a.t.length+b.t.length:Nat):Int)=41:=by rw[<-q];congr 1
         rw[EF M,J]at F
         refine o (.nd a b) (s.drop (i+1+a.t.length+b.t.length+1)) ?_
         rw[hd,H,<-L,c,<-F]
         simp[BT.t]
        simp(disch:=omega) only[AD,h]
        refine cW k ?_
        exact cZ g
       .simp(disch:=omega) only[AD,h]
        refine cW k ?_
        exact cZ g
    .exact wZ
  .exact wZ
theorem MC[HA K]{s:List Nat}(l:s.length<=1000000000):∀(x:BT)(i:Nat)(r:List Nat),s.drop i=x.t++r->K 188 [.s s,.n i] [.n (i+x.t.length)]
 |.lf,i,r,h=>by obtain⟨hi,H,_⟩:=Nu (c:=46) (r:=r) (by simpa[BT.t]using h);refine qb QV ?_;simp(disch:=omega) only[AD,H];simp[BT.t]
 |.nd a b,i,r,h=>by
  simp only[BT.t,List.cons_append,CO]at h;obtain⟨hi,H,e⟩:=Nu h;have f:=KW e;have B:=KW f;obtain⟨F,C,G⟩:=Nu (c:=41) (r:=r) (by simpa using B);have k:=MC l a (i+1) _ e;have g:=MC l b (i+1+a.t.length) _ f;have j:((i+1:Nat):Int)=(i:Int)+1:=by omega
  have o:((i+1+a.t.length:Nat):Int)=(i:Int)+1+a.t.length:=by omega
  rw[j]at k;rw[o]at g;have q:AH s ((i:Int)+1+a.t.length+b.t.length)=41:=by rw[<-C];congr 1
  refine qb QV ?_;simp(disch:=omega) only[AD,H];refine cW k ?_;refine cB g ?_;simp(disch:=omega) only[AD,q];simp only[BT.t,AO,A4,A6];exact Dn (by omega)
theorem AX9[HA K]{s:List Nat}(G:s.length<=1000000000):∀(n i:Nat),s.length-i<=n->Jm s i->K 188 [.s s,.n i] [.n (-1)]:=by
 intro n;induction n with
 |zero=>
  intro i hi _
  refine qb QV ?_
  have:s.length<=i:=by omega
  exact wZ
 |succ n I=>
  intro i hi o
  refine qb QV ?_
  by_cases h0:i<s.length
  .by_cases l:AH s i=46
   .exact absurd (EF h0) (by rw[l];exact o .lf _)
   .by_cases h:AH s i=40
    .have B:((i+1:Nat):Int)=(i:Int)+1:=by omega
     have hd:s.drop i=40::s.drop (i+1):=by rw[EF h0,h]
     by_cases H:Jm s (i+1)
     .have k:=I (i+1) (by omega) H
      rw[B]at k
      simp(disch:=omega) only[AD,h]
      exact cZ k
     .obtain⟨a,R,H⟩:∃(a:BT)(r:List Nat),s.drop (i+1)=a.t++r:=by
       refine Classical.byContradiction λq=>H λx r e=>q ⟨x,r,e⟩
      have k:=MC (K:=K) G a (i+1) _ H
      rw[B]at k
      have L:=KW H
      have C:((i+1+a.t.length:Nat):Int)=(i:Int)+1+a.t.length:=by omega
      have j:=congrArg List.length H
      simp only[List.length_drop,A4]at j
      by_cases c:Jm s (i+1+a.t.length)
      .have g:=I (i+1+a.t.length) (by omega) c
       rw[C]at g
       simp(disch:=omega) only[AD,h]
       refine cW k ?_
       exact cZ g
      .obtain⟨b,O,c⟩:∃(b:BT)(r:List Nat),s.drop (i+1+a.t.length)=b.t++r:=by
        refine Classical.byContradiction λq=>c λx r e=>q ⟨x,r,e⟩
       have g:=MC (K:=K) G b (i+1+a.t.length) _ c
       rw[C]at g
       have F:=KW c
       have f:=congrArg List.length c
       simp only[List.length_drop,A4]at f
       by_cases M:i+1+a.t.length+b.t.length<s.length
       .have N:AH s ((i:Int)+1+a.t.length+b.t.length)≠41:=by
         intro q
         have J:AH s ((i+1+a.t.length+b.t.length:Nat):Int)=41:=by rw[<-q];congr 1
         rw[EF M,J]at F
         refine o (.nd a b) (s.drop (i+1+a.t.length+b.t.length+1)) ?_
         rw[hd,H,<-L,c,<-F]
         simp[BT.t]
        simp(disch:=omega) only[AD,h]
        refine cW k ?_
        exact cZ g
       .simp(disch:=omega) only[AD,h]
        refine cW k ?_
        exact cZ g
    .exact wZ
  .exact wZ
theorem KD:(false==true)=false:=rfl
theorem KM[HA K]:∀(x:BT),x.n<=1000000->K 197 [x.d] [.n x.n]
 |.lf,_=>by refine qb APJ ?_;simp only[BT.d,BT.n];exact wZ
 |.nd l r,h=>by simp only[BT.n]at h;have k:=KM l (by omega);have a:=KM r (by omega);refine qb APJ ?_;simp only[BT.d,BT.n];simp(disch:=omega) only[AD,BT.Dc,KD];refine cB k ?_;simp(disch:=omega) only[AD,BT.Dc];refine cW a ?_;exact Dn (by omega)
def isT(s:List Nat):Prop:=s.length<=25/\∃x:BT,s=x.t
open Classical in
noncomputable def Az(s:List Nat):Bool:=decide (isT s)
theorem GF{x:BT}(h:x.n<=8):Az x.t=true:=by have:=BT.tl x;simp only[Az,Aa];exact⟨by omega,x,rfl⟩
theorem FL{s:List Nat}(h:Az s=true):∃x:BT,s=x.t/\x.n<=8:=by
 have h:isT s:=by simp only[Az,Aa]at h;exact h
 obtain⟨H,x,rfl⟩:=h;have:=BT.tl x;exact⟨x,rfl,by omega⟩
theorem AEN{s:List Nat}(h:Az s=false):¬isT s:=by simp only[Az,decide_eq_false_iff_not]at h;exact h
theorem Ly[HA K]{x:BT}(h:x.n<=8):K 194 [.s x.t] [x.d,.b true]:=by
 have l:=BT.tl x;have k:=Nk (K:=K) (s:=x.t) (by omega) x 0 [] (by simp);have e:((0:Nat):Int)+(x.t.length:Int)=x.t.length:=by omega
 rw[e]at k;refine qw AKP ?_;refine cB k ?_;simp(disch:=omega) only[AD,BT.Dc];exact cZ (KM x (by omega))
theorem Qu[HA K]{s:List Nat}(h:Az s=false):K 194 [.s s] [.z,.b false]:=by
 have f:=AEN h;refine qb AKP ?_;by_cases l:25<s.length;exact wZ;by_cases o:Jm s 0;have k:=AdC (K:=K) (s:=s) (by omega) s.length 0 (by omega) o;refine wW ?_;exact cZ k;obtain⟨x,r,a⟩:∃(x:BT)(r:List Nat),s.drop 0=x.t++r:=Classical.byContradiction λq=>o λx r e=>q ⟨x,r,e⟩;have k:=Nk (K:=K) (s:=s) (by omega) x 0 r a;have c:((0:Nat):Int)+(x.t.length:Int)=x.t.length:=by omega
 rw[c]at k;rw[List.drop_zero]at a;have H:=congrArg List.length a;rw[A4]at H;have g:r.length≠0:=by intro q;have:r=[]:=Dz q;subst this;exact f ⟨by omega,x,by simpa using a⟩
 have i:=BT.tl x;refine wW ?_;exact cZ k
theorem Jk[HA K]{s:List Nat}:K 167 [.s s] [.b (Az s)]:=by
 refine qw I167 ?_
 cases h:Az s;exact cZ (Qu h);obtain⟨x,rfl,H⟩:=FL h;exact cZ (Ly H)
theorem Ez[HA K]{s:List Nat}:K 160 [.s s] [.b (Az s)]:=by
 refine qb I160 ?_
 cases h:Az s;have g:=AEN h;by_cases l:25<s.length;exact wZ;by_cases o:Jm s 0;have k:=AX9 (K:=K) (s:=s) (by omega) s.length 0 (by omega) o;refine wW ?_;exact cZ k;obtain⟨x,r,a⟩:∃(x:BT)(r:List Nat),s.drop 0=x.t++r:=Classical.byContradiction λq=>o λx r e=>q ⟨x,r,e⟩;have k:=MC (K:=K) (s:=s) (by omega) x 0 r a;have c:((0:Nat):Int)+(x.t.length:Int)=x.t.length:=by omega
 rw[c]at k;rw[List.drop_zero]at a;have H:=congrArg List.length a;rw[A4]at H;have i:r.length≠0:=by intro q;have:r=[]:=Dz q;subst this;exact g ⟨by omega,x,by simpa using a⟩
 refine wW ?_;exact cZ k;obtain⟨x,rfl,j⟩:=FL h;have l:=BT.tl x;have k:=MC (K:=K) (s:=x.t) (by omega) x 0 [] (by simp);have c:((0:Nat):Int)+(x.t.length:Int)=x.t.length:=by omega
 rw[c]at k;have f:(x.t==[])=false:=beq_eq_false_iff_ne.2 λq=>by rw[q]at l;simp at l
 refine wW ?_;refine cB k ?_;simp(disch:=omega) only[AD,f]
end Go.Cat
namespace Go.Cat
variable{K:Nat->List D->List D->Prop}
def Ht(w:List Nat):Bool:=w.all λc=>decide (c=117\/c=100)
theorem Pv{c:Nat}{w:List Nat}:Ht (c::w)=(decide (c=117\/c=100)&&Ht w):=rfl
theorem AMP:∀(w:List Nat),steps w=Ht w
 |[]=>rfl
 |c::w=>by
  have i:=AMP w
  have l:=PD (w:=w) (c:=117)
  have:AA w 117+AA w 100<=w.length:=by
   clear i l
   induction w with
   |nil=>simp[AA]
   |cons a w i=>simp only[Mq,AO];split<;>split<;>omega
  rw[Pv,<-i]
  simp only[steps,Mq,AO]
  by_cases h:c=117
  subst h;simp;omega
  by_cases H:c=100
  subst H;simp;omega
  simp[h,H];omega
def swp(c:Nat):Nat:=if c=117 then 100 else 117
def refl:List Nat->Int->List Nat
 |[],_=>[]
 |c::w,h=>if(if c=117 then h+1 else h-1)=-1 then c::w.map swp else c::refl w (if c=117 then h+1 else h-1)
def Fx(a c d x:Nat):Nat:=if x=a then c else d
def only(a b:Nat)(w:List Nat):Bool:=w.all λx=>decide (x=a\/x=b)
theorem AM0{a b c:Nat}{w:List Nat}:only a b (c::w)=(decide (c=a\/c=b)&&only a b w):=rfl
theorem W8[HA K]{w:List Nat}{a b c d:Nat}(h:w.length<=1000000000)(J:c<256)(hd:d<256):
  K 83 [.s w,.s [a,b],.s [c,d]] [.s (if only a b w=true then w.map (Fx a c d)else []),.b (only a b w)]:=by
 refine qb I83 ?_;have F:AH [a,b] 0=a:=rfl;have o:AH [a,b] 1=b:=rfl;have C:AH [c,d] 0=c:=rfl;have f3:AH [c,d] 1=d:=rfl;simp(disch:=try exact dV) only[AD,AA8];refine Aj (λi (l:List Nat)=>l.length=i/\(∀x∈l,x<256)/\l++(w.drop i).map (Fx a c d)=w.map (Fx a c d)/\only a b w=only a b (w.drop i)) (λi l=>[.s w,.s [a,b],.s [c,d],.u,.u,LB l,.n i,.u,.u,.u,.u]) w.length [] ⟨rfl,by simp,by simp,by simp⟩ rfl (λi l hi P=>?_) (λl P=>?_)
 .obtain⟨G,g,H,f⟩:=P;rw[EF hi]at H f;rw[AM0]at f;rw[List.map_cons]at H;by_cases j:AH w i=a
  .have e:Fx a c d (AH w i)=c:=by simp[Fx,j]
   simp(disch:=try exact dV) only[AD,F,C];refine⟨l++[c],⟨by simp;omega,?_,?_,?_⟩,rfl⟩
   .intro x k;rcases Ac.1 k with q|q
    .exact g x q
    .simp at q;omega
   .rw[<-H,e];simp
   .rw[f,j];simp
  .by_cases B:AH w i=b
   .have e:Fx a c d (AH w i)=d:=by simp[Fx,j]
    simp(disch:=try exact dV) only[AD,F,o,f3];refine⟨l++[d],⟨by simp;omega,?_,?_,?_⟩,rfl⟩
    .intro x k;rcases Ac.1 k with q|q
     .exact g x q
     .simp at q;omega
    .rw[<-H,e];simp
    .rw[f,B];simp
   .simp(disch:=try exact dV) only[AD,F,o];have:only a b w=false:=by rw[f];simp[j,B]
    simp[this]
 .obtain⟨G,g,H,f⟩:=P;rw[List.drop_length]at H f;simp at H;have I:only a b w=true:=by rw[f];rfl
  simp(disch:=try exact dV) only[AD,Py g];simp[I,H]
theorem Ah1{w:List Nat}:only 117 100 w=Ht w:=rfl
end Go.Cat
namespace Go.Cat
variable{K:Nat->List D->List D->Prop}
def Hh(w:List Nat)(i:Nat):Int:=(AA (w.take i) 117:Int)-AA (w.take i) 100
theorem FW{w:List Nat}:Hh w 0=0:=by simp[Hh,AA]
theorem Kv{c:Nat}{w:List Nat}{i:Nat}:Hh (c::w) (i+1)=(if c=117 then 1 else 0)-(if c=100 then 1 else 0)+Hh w i:=by simp only[Hh,List.take_succ_cons,Mq];split<;>split<;>omega
theorem AdI{a b:List Nat}{i:Nat}(h:i<=a.length):Hh (a++b) i=Hh a i:=by simp only[Hh];rw[List.take_append_of_le_length h]
theorem JJ{a b:List Nat}{c:Nat}:AA (a++b) c=AA a c+AA b c:=by simp[AA]
theorem AVI{a b:List Nat}{i:Nat}:Hh (a++b) (a.length+i)=Hh a a.length+Hh b i:=by simp only[Hh];rw[List.take_length_add_append,JJ,JJ];simp;omega
theorem NW:∀(w:List Nat)(h r:Int),0<=h->(Bl w h=some r↔Ht w=true/\(∀i≤w.length,0<=h+Hh w i)/\r=h+Hh w w.length)
 |[],h,r,h0=>by
  simp only[Bl,Ht,List.all_nil,A6,FW,AL,true_and]
  constructor
  rintro rfl
  refine⟨λi hi=>?_,by omega⟩
  have:i=0:=by omega
  subst this;rw[FW];omega
  rintro⟨_,h⟩;omega
 |c::w,h,r,h0=>by
  have sh:∀x:Int,(if c=117 then(1:Int)else 0)-(if c=100 then 1 else 0)=x->((∀i≤w.length+1,0<=h+Hh (c::w) i)↔∀i≤w.length,0<=(h+x)+Hh w i):=by
   intro x e
   constructor
   intro q i hi
   have:=q (i+1) (by omega)
   rw[Kv,e]at this
   omega
   intro q i hi
   cases i with
   |zero=>rw[FW];omega
   |succ i=>
    have:=q i (by omega)
    rw[Kv,e]
    omega
  simp only[Bl,Pv,AO,Kv]
  by_cases H:c=117
  rw[if_pos H,NW w (h+1) r (by omega)]
  rw[sh 1 (by simp[H])]
  simp[H]
  intro _ _;constructor<;>intro _<;>omega
  by_cases a:c=100
  rw[if_neg H,if_pos a,sh (-1) (by simp[a])]
  by_cases b:h-1<0
  rw[if_pos b]
  simp only[reduceCtorEq,false_iff,not_and]
  intro _ q
  have:=q 0 (by omega)
  rw[FW]at this
  omega
  rw[if_neg b,NW w (h-1) r (by omega)]
  simp[a]
  intro _
  constructor
  rintro⟨q,_⟩;exact⟨λi hi=>by have:=q i hi;omega,by omega⟩
  rintro⟨q,_⟩;exact⟨λi hi=>by have:=q i hi;omega,by omega⟩
  rw[if_neg H,if_neg a]
  simp[H,a]
theorem AeS{w:List Nat}:AK w=true↔w.length<=16/\Ht w=true/\(∀i≤w.length,0<=Hh w i)/\Hh w w.length=0:=by simp only[AK,AV,Aa,NW w 0 0 (by omega)];constructor;rintro⟨⟨h,H,a⟩,b⟩;exact⟨b,h,λi hi=>by have:=H i hi;omega,by omega⟩;rintro⟨h,H,a,b⟩;exact⟨⟨H,λi hi=>by have:=a i hi;omega,by omega⟩,h⟩
end Go.Cat
namespace Go.Cat
variable{K:Nat->List D->List D->Prop}
def PR(w:List Nat)(j k:Nat):Prop:=j<k/\k<w.length/\Hh w (k+1)=Hh w j/\∀m,j<m->m<=k->Hh w j<Hh w m
theorem UI{w:List Nat}{j k a:Nat}(h:PR w j k)(H:PR w j a):k=a:=by obtain⟨c,a2,e,b⟩:=h;obtain⟨b1,b2,f,B⟩:=H;rcases Nat.lt_trichotomy k a with q|q|q;have:=B (k+1) (by omega) (by omega);omega;exact q;have:=b (a+1) (by omega) (by omega);omega
theorem ARY{w:List Nat}{j J k:Nat}(h:PR w j k)(H:PR w J k):j=J:=by obtain⟨c,a2,e,a⟩:=h;obtain⟨b1,b2,B,b⟩:=H;rcases Nat.lt_trichotomy j J with q|q|q;have:=a J (by omega) (by omega);omega;exact q;have:=b j (by omega) (by omega);omega
theorem R8{w:List Nat}{i j k:Nat}(h:PR w i j)(H:PR w j k):False:=by obtain⟨c,a2,e,a⟩:=h;obtain⟨b1,b2,B,b⟩:=H;have:=a j (by omega) (by omega);have:=b (j+1) (by omega) (by omega);omega
theorem AdM{w:List Nat}{a b c d:Nat}(h:PR w a c)(H:PR w b d):¬(a<b/\b<c/\c<d):=by rintro⟨q,Q,j⟩;obtain⟨f,a2,g,e⟩:=h;obtain⟨b1,b2,i,B⟩:=H;have:=e b (by omega) (by omega);have:=B (c+1) (by omega) (by omega);omega
def PP(w:List Nat)(m:List Int):Prop:=m.length=w.length/\∀a:Nat,a<w.length->∃b:Nat,AB m a=b/\(PR w a b\/PR w b a)
theorem AU0{w:List Nat}{m M:List Int}(h:PP w m)(a:PP w M):m=M:=by refine HW (by rw[h.1,a.1]) λj H=>?_;rw[h.1]at H;obtain⟨b,e,q⟩:=h.2 j H;obtain⟨B,c,Q⟩:=a.2 j H;rw[e,c];rcases q with q|q<;>rcases Q with Q|Q;rw[UI q Q];exact(R8 Q q).elim;exact(R8 q Q).elim;rw[ARY q Q]
theorem AY4{w:List Nat}{m:List Int}(h:PP w m){a:Nat}(f:a<m.length):0<=AB m a/\AB m a<m.length:=by obtain⟨c,H⟩:=h;obtain⟨b,e,q⟩:=H a (by omega);rcases q with q|q;have:=q.2.1;omega;have:=q.1;omega
theorem GN{w:List Nat}{i:Nat}(h:i<w.length)(H:AH w i=117):Hh w (i+1)=Hh w i+1:=by
 have e:w.take (i+1)=w.take i++[AH w i]:=by rw[CP h];simp[AH,h]
 simp only[Hh,e,JJ,H];simp[AA];omega
theorem FO{w:List Nat}{i:Nat}(h:i<w.length)(H:AH w i=100):Hh w (i+1)=Hh w i-1:=by
 have e:w.take (i+1)=w.take i++[AH w i]:=by rw[CP h];simp[AH,h]
 simp only[Hh,e,JJ,H];simp[AA];omega
structure DY(w:List Nat):Prop where
 l:w.length<=16
 ud:∀i:Nat,i<w.length->AH w i=117\/AH w i=100
 h0:∀i:Nat,i<=w.length->0<=Hh w i
 he:Hh w w.length=0
theorem Af{w:List Nat}(h:AK w=true):DY w:=by simp only[AK,AV,Aa]at h;obtain⟨H,b⟩:=h;obtain⟨a,a2,c⟩:=(NW w 0 0 (Int.le_refl _)).1 H;refine⟨b,λi hi=>?_,λi hi=>by have:=a2 i hi;omega,by omega⟩;have:=Ao.1 a (AH w i) (by simp[AH,hi]);simpa using this
def SO(w:List Nat):List Nat->Nat->Prop
 |[],i=>Hh w i=0
 |j::t,i=>j<i/\Hh w i=Hh w j+1/\(∀m,j<m->m<=i->Hh w j<Hh w m)/\SO w t j
theorem Ad1{w:List Nat}:∀{t:List Nat}{j i:Nat},SO w t j->j<=i->Hh w i=Hh w j->(∀m,j<m->m<=i->Hh w j<=Hh w m)->SO w t i
 |[],j,i,h,_,he,_=>by simp only[SO]at h|-;omega
 |k::t,j,i,h,e,he,f=>by obtain⟨g,a2,a,b⟩:=h;refine⟨by omega,by omega,λm H c=>?_,b⟩;by_cases q:m<=j;exact a m H q;have:=f m (by omega) c;omega
theorem LR{w:List Nat}:∀{t:List Nat}{i:Nat},SO w t i->Hh w i=t.length
 |[],_,h=>by simpa[SO]using h
 |k::t,i,h=>by have:=LR h.2.2.2;have:=h.2.1;simp only[AO];omega
theorem ARR{w:List Nat}{t:List Nat}{i:Nat}(h:SO w t i)(hi:i<w.length)(H:AH w i=117):SO w (i::t) (i+1):=by
 have e:=GN hi H;exact⟨by omega,e,λm a b=>by
  obtain rfl:m=i+1:=by omega
  omega,h⟩
theorem AKE{w:List Nat}{t:List Nat}{i j:Nat}(h:SO w (j::t) i)(hi:i<w.length)(hd:AH w i=100):PR w j i/\SO w t (i+1):=by
 obtain⟨b,a2,a,c⟩:=h;have e:=FO hi hd;refine⟨⟨b,hi,by omega,a⟩,Ad1 c (by omega) (by omega) λm H f=>?_⟩;by_cases q:m<=i;have:=a m H q;omega;obtain rfl:m=i+1:=by omega
 omega
end Go.Cat
namespace Go.Cat
variable{K:Nat->List D->List D->Prop}
def Ia(m:List Int)(i:Nat):Prop:=∀j:Nat,j<i->AR 0 ((m.length:Int)-1) (AB m j)=true/\AB m j≠j/\AB m (AB m j)=j
instance{m:List Int}{i:Nat}:Decidable (Ia m i):=by unfold Ia;infer_instance
def C1(m:List Int):Bool:=decide (m.length<=16)&&decide (Ia m m.length)
theorem M0{m:List Int}(h:¬Ia m m.length):C1 m=false:=by simp[C1,h]
theorem HZ{m:List Int}(h:C1 m=true):m.length<=16/\Ia m m.length:=by simpa[C1]using h
theorem Yv[HA K]{m:List Int}(h:m.length<=1099511627776):K 380 [LI m] [.b (C1 m)]:=by
 refine qb I380 ?_;by_cases l:m.length<=16
 .refine wW ?_;refine AN (λi=>Ia m i) (λi=>[LI m,.u,.u,.u,.u,LI m,.n m.length,.n i,.u,.u]) m.length (by simp[Ia]) rfl (λi hi P=>?_) (λP=>?_)
  .refine wW ?_
   cases H:AR 0 ((m.length:Int)-1) (AB m i)
   .repeat(refine cB Bq ?_;try simp(disch:=omega) only[AD,H])
    rw[M0 λq=>by have:=(q i hi).1;rw[H]at this;cases this]
   have e:=A5.1 H;repeat(refine cB Bq ?_;try simp(disch:=omega) only[AD,H])
   by_cases a:AB m i=i;simp(disch:=omega) only[AD,a];rw[M0 λq=>(q i hi).2.1 a];refine wW ?_;by_cases c:AB m (AB m i)=i;refine wW ?_;exact Bf P ⟨H,a,c⟩;refine wW ?_;rw[M0 λq=>c (q i hi).2.2]
  refine wW ?_;simp[C1,l,P]
 refine wW ?_;simp[C1,l]
theorem R7[HA K]{m:List Int}(h:m.length<=1099511627776):K 379 [LI m] [.b (C1 m)]:=by
 refine qw I379 ?_;refine AN (λi=>Ia m i) (λi=>[LI m,.u,.n i,.u,.u]) m.length (by simp[Ia]) rfl (λi hi P=>?_) (λP=>?_)
 .refine wW ?_
  cases H:AR 0 ((m.length:Int)-1) (AB m i)
  .repeat(refine cB Bt ?_;try simp(disch:=omega) only[AD,H])
   rw[M0 λq=>by have:=(q i hi).1;rw[H]at this;cases this]
  have e:=A5.1 H;repeat(refine cB Bt ?_;try simp(disch:=omega) only[AD,H])
  by_cases a:AB m i=i;simp(disch:=omega) only[AD,a];rw[M0 λq=>(q i hi).2.1 a];refine wW ?_;by_cases c:AB m (AB m i)=i;refine wW ?_;exact Bf P ⟨H,a,c⟩;refine wW ?_;rw[M0 λq=>c (q i hi).2.2]
 refine wW ?_;simp[C1,P];omega
def CX(g:Nat->Nat):Nat->Nat
 |0=>0
 |n+1=>CX g n+g n
theorem Kl{g:Nat->Nat}{b:Nat}(h:∀i,g i<=b):∀n,CX g n<=n*b
 |0=>by simp[CX]
 |n+1=>by have:=Kl h n;have:=h n;simp only[CX,Nat.succ_mul];omega
theorem Ot{g:Nat->Nat}:∀{n},(∀i,i<n->g i=0)->CX g n=0
 |0,_=>rfl
 |n+1,h=>by simp only[CX];rw[Ot λi hi=>h i (by omega),h n (by omega)]
def E0(m:List Int)(a b:Nat):Nat:=if(a:Int)<b/\(b:Int)<AB m a/\AB m a<AB m b then 1 else 0
def T6(m:List Int):Nat:=CX (λa=>CX (E0 m a) m.length) m.length
theorem ZV{m:List Int}{a b:Nat}:E0 m a b<=1:=by unfold E0;split<;>omega
theorem AfJ[HA K]{m:List Int}(h:m.length<=1099511627776):K 369 [LI m] [.n (if C1 m=true then(T6 m:Int)else -1)]:=by
 refine qw I369 ?_;refine cB (R7 h) ?_
 cases q:C1 m;refine wW ?_;simp;have B:=(HZ q).1;rw[if_pos rfl];refine wW ?_;refine Aj (λi (c:Nat)=>c=CX (λa=>CX (E0 m a) m.length) i) (λi c=>[LI m,.u,.n c,.n i,.u,.u,.u,.u,.u]) m.length 0 rfl rfl (λi c hi P=>?_) (λc P=>?_);subst P;have j:=Kl (g:=λa=>CX (E0 m a) m.length) (b:=16) (λa=>by have:=Kl (g:=E0 m a) (b:=1) (λ_=>ZV) m.length;omega) i;have h0:CX (E0 m i) (i+1)=0:=Ot λb j=>by unfold E0;rw[if_neg (by omega)]
 refine wW ?_;refine Bj (λ(x:Nat×Nat)=>(i+1<=x.1/\x.1<=m.length)/\x.2=CX (E0 m i) x.1) (λx=>[LI m,.u,.n (CX (λa=>CX (E0 m a) m.length) i+x.2:Nat),.n i,.n x.1,.u,.u,.u,.u]) (λx=>m.length-x.1) (i+1,0) ⟨by omega,h0.symm⟩ rfl ?_;rintro⟨k,c⟩ ⟨l,H⟩;simp only at l H|-;subst H;have s:=Kl (g:=E0 m i) (b:=1) (λ_=>ZV) k;by_cases o:k<m.length;have f:CX (E0 m i) (k+1)=CX (E0 m i) k+E0 m i k:=rfl;by_cases Q:(k:Int)<AB m i;by_cases C:AB m i<AB m k;have e:E0 m i k=1:=if_pos (by omega);refine wW ?_;exact⟨(k+1,CX (E0 m i) (k+1)),by show m.length-(k+1)<m.length-k;omega,⟨by show i+1<=k+1/\k+1<=m.length;omega,rfl⟩,by rw[f,e];simp;omega⟩;have e:E0 m i k=0:=if_neg (by omega);refine wW ?_;exact⟨(k+1,CX (E0 m i) (k+1)),by show m.length-(k+1)<m.length-k;omega,⟨by show i+1<=k+1/\k+1<=m.length;omega,rfl⟩,by rw[f,e];simp⟩;have e:E0 m i k=0:=if_neg (by omega);refine wW ?_;exact⟨(k+1,CX (E0 m i) (k+1)),by show m.length-(k+1)<m.length-k;omega,⟨by show i+1<=k+1/\k+1<=m.length;omega,rfl⟩,by rw[f,e];simp⟩;obtain rfl:k=m.length:=by omega
 refine wW ?_;exact⟨_,rfl,rfl⟩;subst P;exact wZ
def EG(m:List Int):Bool:=C1 m&&decide (T6 m=0)
theorem AfQ{m:List Int}:decide ((if C1 m=true then(T6 m:Int)else -1)=0)=EG m:=by
 unfold EG
 cases C1 m;rfl;simp
theorem Vt[HA K]{m:List Int}(h:m.length<=1099511627776):K 355 [LI m] [.b (EG m)]:=by refine qw I355 ?_;refine cB (AfJ h) ?_;simp(disch:=omega) only[AD,AfQ]
theorem AM2{w:List Nat}{m:List Int}(l:w.length<=16)(h:PP w m):C1 m=true:=by
 have key:Ia m m.length:=by
  intro j k;have i:=AY4 h k;obtain⟨f,H⟩:=h;obtain⟨b,e,q⟩:=H j (by omega);have g:b<w.length:=by rcases q with q|q<;>have:=q.2.1<;>have:=q.1<;>omega
  obtain⟨c,a,Q⟩:=H b g;refine⟨A5.2 (by omega),?_,?_⟩;rcases q with q|q<;>have:=q.1<;>omega;rw[e,a];rcases q with q|q<;>rcases Q with Q|Q;exact(R8 q Q).elim;rw[ARY q Q];rw[UI q Q];exact(R8 Q q).elim
 have f:=h.1;simp only[C1,AV,Aa];exact⟨by omega,key⟩
theorem AkH{w:List Nat}{m:List Int}(h:PP w m):T6 m=0:=by obtain⟨g,H⟩:=h;refine Ot λa i=>Ot λb j=>if_neg ?_;rintro⟨P,k,l⟩;obtain⟨c,e,q⟩:=H a (by omega);obtain⟨d,f,Q⟩:=H b (by omega);rcases q with q|q;rcases Q with Q|Q;exact AdM q Q (by omega);have:=Q.1;omega;have:=q.1;omega
theorem AaF{w:List Nat}{m:List Int}(l:w.length<=16)(h:PP w m):EG m=true:=by simp[EG,AM2 l h,AkH h]
end Go.Cat
