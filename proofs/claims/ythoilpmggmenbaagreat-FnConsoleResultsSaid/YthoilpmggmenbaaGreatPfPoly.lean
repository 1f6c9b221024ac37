/-
 Polynomials: what is one, sums, products, quotients, values.
-/
import Derived.Test.YthoilpmggmenbaaGreatPfLFCl
set_option linter.unusedSimpArgs false
set_option linter.unusedVariables false
namespace Go.Cat
variable{K:Nat->List D->List D->Prop}
def DC(p:List Int):Bool:=p.all (A4 (-1000000000) 1000000000)&&(decide (p.length<=61)&&(decide (p.length=0)||!decide (AB p ((p.length:Int)-1)=0)))
def IJ(p:List Int):Bool:=p.all (A4 (-100000) 100000)&&DC p
theorem UI{p:List Int}(h:DC p=true){i:Nat}(hi:i<p.length):-1000000000<=AB p i/\AB p i<=1000000000:=by simp only[DC,AU,Aj]at h;exact Af.1 (h.1 _ (by simp[AB,hi]))
theorem AH6{p:List Int}(h:DC p=true):p.length<=61:=by simp only[DC,AU,Ad]at h;exact h.2.1
theorem JF[HA K]{p:List Int}(h:p.length<=1099511627776):K 428 [LI p] [.b (DC p)]:=by
 refine qb I428 ?_;by_cases c:61<p.length;refine wW ?_;exact Db (by simp[DC];intros;omega);by_cases H:p.length≠0/\AB p ((p.length:Int)-1)=0;simp(disch:=try exact dV) only[AD,H.2];exact Db (by simp[DC,H.1,H.2]);by_cases h0:p.length=0;simp(disch:=try exact dV) only[AD,h0];refine AR (λi=>True) (λi=>[.u,.u,.u,.u,LI p,.n p.length,.n i,.u,.u]) 0 trivial (by simp[h0]) (λi hi P=>by omega) (λP=>?_);refine wW ?_;have:p=[]:=Dd h0;subst this;exact Db rfl;have a:¬AB p ((p.length:Int)-1)=0:=λq=>H ⟨h0,q⟩;refine wW ?_;refine AR (λi=>∀j:Nat,j<i->A4 (-1000000000) 1000000000 (AB p j)=true) (λi=>[.u,.u,.u,.u,LI p,.n p.length,.n i,.u,.u]) p.length (by simp) rfl (λi hi P=>?_) (λP=>?_);refine wW ?_;refine cB CN ?_
 cases h2:A4 (-1000000000) 1000000000 (AB p i);refine wW ?_;exact Db (by rw[DC,NK hi h2];rfl);refine wW ?_;exact Cw P h2;refine wW ?_;exact Db (by rw[DC,Lc P];simp[a];omega)
theorem S5[HA K]{p:List Int}(h:p.length<=1099511627776):K 429 [LI p] [.b (DC p)]:=by
 refine qw I429 ?_;refine AR (λi=>∀j:Nat,j<i->A4 (-1000000000) 1000000000 (AB p j)=true) (λi=>[LI p,.u,.n i,.u,.u]) p.length (by simp) rfl (λi hi P=>?_) (λP=>?_);refine wW ?_;refine cB Cl ?_
 cases h2:A4 (-1000000000) 1000000000 (AB p i);refine wW ?_;exact Db (by rw[DC,NK hi h2];rfl);refine wW ?_;exact Cw P h2;by_cases H:61<p.length;refine wW ?_;exact Db (by simp[DC];intros;omega);by_cases h0:p.length=0;simp(disch:=try exact dV) only[AD,h0];exact Db (by rw[DC,Lc P];simp[h0]);by_cases q:AB p ((p.length:Int)-1)=0;simp(disch:=try exact dV) only[AD,q];exact Db (by simp[DC,q,h0]);refine wW ?_;exact Db (by rw[DC,Lc P];simp[q];omega)
theorem XC[HA K]{p:List Int}(h:p.length<=1099511627776):K 460 [LI p] [.b (IJ p)]:=by
 refine qw I460 ?_;refine AR (λi=>∀j:Nat,j<i->A4 (-100000) 100000 (AB p j)=true) (λi=>[LI p,.u,.u,LI p,.n p.length,.n i,.u,.u]) p.length (by simp) rfl (λi hi P=>?_) (λP=>?_);refine wW ?_;refine cB CN ?_
 cases h2:A4 (-100000) 100000 (AB p i);refine wW ?_;exact Db (by rw[IJ,NK hi h2];rfl);refine wW ?_;exact Cw P h2;refine wW ?_;refine cW (JF h) ?_;exact Db (by rw[IJ,Lc P];simp)
theorem ARH[HA K]{p:List Int}(h:p.length<=1099511627776):K 462 [LI p] [.b (IJ p)]:=by
 refine qw I462 ?_;refine AR (λi=>∀j:Nat,j<i->A4 (-100000) 100000 (AB p j)=true) (λi=>[LI p,.u,.n i,.u,.u]) p.length (by simp) rfl (λi hi P=>?_) (λP=>?_);refine wW ?_;refine cB Cl ?_
 cases h2:A4 (-100000) 100000 (AB p i);refine wW ?_;exact Db (by rw[IJ,NK hi h2];rfl);refine wW ?_;exact Cw P h2;refine wW ?_;refine cW (S5 h) ?_;exact Db (by rw[IJ,Lc P];simp)
def GI(p:List Int):Nat->Nat
 |0=>0
 |n+1=>if AB p n=0 then GI p n else n+1
def Cu(p:List Int):List Int:=p.take (GI p p.length)
theorem RR{p:List Int}:∀n,GI p n<=n
 |0=>Nat.le_refl _
 |n+1=>by have:=RR (p:=p) n;unfold GI;split<;>omega
theorem Q3{p:List Int}:(Cu p).length=GI p p.length:=by have:=RR (p:=p) p.length;simp only[Cu,List.length_take];omega
theorem YO{α:Type}{p:List α}{n:Nat}:sub p 0 n=p.take n:=by simp[sub]
theorem AD9[HA K]{p:List Int}(h:p.length<=1099511627776):K 469 [LI p] [LI (Cu p)]:=by
 refine qw I469 ?_;refine Bd (λ(x:Nat)=>x<=p.length/\GI p x=GI p p.length) (λx=>[LI p,.u,.n x,.u]) (λx=>x) p.length ⟨Nat.le_refl _,rfl⟩ rfl ?_;intro x b
 cases x with
 |zero=>
  have e:GI p p.length=0:=b.2.symm
  refine wW ?_
  simp[Cu,e,sub]
 |succ x=>
  have ex:((x+1:Nat):Int)-1=x:=by omega
  have H:=b.2
  simp only[GI]at H
  by_cases a:AB p x=0
  .rw[if_pos a]at H
   simp(disch:=try exact dV) only[AD,Bl,a]
   exact⟨x,by omega,⟨by omega,H⟩,rfl⟩
  .rw[if_neg a]at H
   simp(disch:=try exact dV) only[AD,Bl]
   rw[show((x:Int)+1)=((x+1:Nat):Int) by omega,YO,Cu,<-H]
theorem AL1[HA K]{p:List Int}(h:p.length<=1099511627776):K 463 [LI p] [LI (Cu p)]:=by
 refine qw I463 ?_;refine Bd (λ(x:Nat)=>x<=p.length/\GI p x=GI p p.length) (λx=>[LI p,.u,.n x,.u]) (λx=>x) p.length ⟨Nat.le_refl _,rfl⟩ rfl ?_;intro x b
 cases x with
 |zero=>
  have e:GI p p.length=0:=b.2.symm
  simp(disch:=try exact dV) only[AD,EI]
  simp[Cu,e,sub]
 |succ x=>
  have ex:((x+1:Nat):Int)-1=x:=by omega
  have H:=b.2
  simp only[GI]at H
  by_cases a:AB p x=0
  .rw[if_pos a]at H
   simp(disch:=try exact dV) only[AD,Bl,a]
   exact⟨x,by omega,⟨by omega,H⟩,rfl⟩
  .rw[if_neg a]at H
   simp(disch:=try exact dV) only[AD,Bl,EI]
   rw[show((x:Int)+1)=((x+1:Nat):Int) by omega,YO,Cu,<-H]
end Go.Cat
namespace Go.Cat
variable{K:Nat->List D->List D->Prop}
def Ir(b:List Int)(c:Int)(i k:Nat)(o:List Int):List Int:=B9 o ((i:Int)+k) (IntKind.i64.wrap (AB o ((i:Int)+k)-IntKind.i64.wrap (c*AB b k)))
theorem Uc{b o:List Int}{c:Int}{i k:Nat}:(Ir b c i k o).length=o.length:=by simp[Ir,B9]
theorem AWE{b o:List Int}{c:Int}{i n:Nat}:(iter (Ir b c i) n o).length=o.length:=WL (λ(s:List Int)=>s.length=o.length) rfl (λi s h=>by rw[Uc,h]) n
def dvS(b:List Int)(i:Nat)(x:List Int×List Int):List Int×List Int:=
 (iter (Ir b (AB x.1 ((i:Int)+b.length-1)) i) b.length x.1,B9 x.2 i (AB x.1 ((i:Int)+b.length-1)))
def F0(b:List Int):Nat->List Int×List Int->Option (List Int×List Int)
 |0,x=>some x
 |i+1,x=>if A4 (-1000000000) 1000000000 (AB x.1 ((i:Int)+b.length-1))=true then F0 b i (dvS b i x)else none
def H8(b:List Int):Nat->List Int×List Int->List Int×List Int
 |0,x=>x
 |i+1,x=>H8 b i (dvS b i x)
def B8(a b:List Int):Nat:=a.length+1-b.length
def Jq(a b:List Int):Bool:=IJ a&&A4 1 13 b.length&&decide (AB b ((b.length:Int)-1)=1)&&b.all (A4 (-1) 1)
def I5(a b:List Int):Option (List Int×List Int):=if Jq a b=true then(F0 b (B8 a b) (a,rep (B8 a b:Nat) 0)).bind λx=>if DC (Cu x.2)&&DC (Cu x.1)then some (Cu x.2,Cu x.1)else none else none
theorem Yx{b:List Int}:∀{i:Nat}{x y:List Int×List Int},F0 b i x=some y->y.1.length=x.1.length/\y.2.length=x.2.length
 |0,x,y,h=>by simp only[F0,AL]at h;subst h;exact⟨rfl,rfl⟩
 |i+1,x,y,h=>by
  simp only[F0]at h;split at h;have:=Yx h;simp only[dvS,AWE,DD]at this;exact this
  cases h
theorem TS[HA K]{a b:List Int}(h:a.length<=1048576)(J:b.length<=1048576)(h0:1<=b.length):
  K 461 [LI a,LI b] (match F0 b (B8 a b) (a,rep (B8 a b:Nat) 0)with|some x=>[LI (Cu x.2),LI (Cu x.1),.b true]|none=>[LI [],LI [],.b false]):=by
 have C:(max 0 ((a.length:Int)-(b.length:Int)+1))=(B8 a b:Nat):=by simp only[B8];omega
 refine qw I461 ?_;refine cB (AVA (by omega)) ?_;simp(disch:=try exact dV) only[AD,C];refine Bd (λ(x:Nat×List Int×List Int)=>x.1<=B8 a b/\x.2.1.length=a.length/\x.2.2.length=B8 a b/\F0 b x.1 x.2=F0 b (B8 a b) (a,rep (B8 a b:Nat) 0)) (λx=>[.u,LI b,.u,.u,.u,LI x.2.1,LI x.2.2,.n ((x.1:Int)-1),.u,.u,.u,.u,.u,.u,.u,.u,.u]) (λx=>x.1) (B8 a b,a,rep (B8 a b:Nat) 0) ⟨Nat.le_refl _,rfl,by simp[rep],rfl⟩ (by simp[rep]) ?_;rintro⟨i,l,q⟩ ⟨j,G,e,g⟩;simp only at j G e g|-;have B:B8 a b=a.length+1-b.length:=rfl
 cases i with
 |zero=>
  have M:=Q3 (p:=l)
  have I:=Q3 (p:=q)
  refine wW ?_
  refine cW (AD9 (by omega)) ?_
  refine cW (AD9 (by omega)) ?_
  rw[<-g]<;>rfl
 |succ i=>
  have f:((i+1:Nat):Int)-1=i:=by omega
  rw[f]
  refine wW ?_
  refine cB CN ?_
  cases hr:A4 (-1000000000) 1000000000 (AB l ((i:Int)+b.length-1))
  .refine wW ?_
   rw[<-g]
   simp only[F0,hr]
   rfl
  .refine wW ?_
   refine NF (Ir b (AB l ((i:Int)+b.length-1)) i) (λ_ (o:List Int)=>o.length=a.length) (λk o=>[.u,LI b,.u,.u,.u,LI o,LI (B9 q i (AB l ((i:Int)+b.length-1))),.n i,.n (AB l ((i:Int)+b.length-1)),.u,.u,.u,.u,LI b,.n b.length,.n k,.u]) b.length l G rfl (λk s _ F=>by rw[Uc,F]) (λk O L H _=>?_) (λO c H=>?_)
   .simp(disch:=try exact dV) only[AD,Ir]
   .refine wW ?_
    refine⟨(i,O,B9 q i (AB l ((i:Int)+b.length-1))),by omega,⟨by omega,H,by rw[DD,e],?_⟩,by simp⟩
    rw[<-g]
    simp only[F0,hr,if_true]
    rw[c]<;>rfl
theorem dv_i[HA K]{a b:List Int}(h:a.length<=1048576)(s:b.length<=1048576):
  K 403 [LI a,LI b] (match I5 a b with|some x=>[LI x.1,LI x.2,.b true]|none=>[LI [],LI [],.b false]):=by
 refine qw I403 ?_;refine cB (XC (by omega)) ?_
 cases c:IJ a
 .refine wW ?_;refine AR (λ_=>True) (λi=>[LI a,LI b,.u,.u,.u,.b false,.u,.u,.u,.u,LI b,.n b.length,.n i,.u,.u,.u]) b.length trivial rfl (λi hi _=>?_) (λ_=>?_)
  .exact wZ
  .simp(disch:=try exact dV) only[AD,EI];simp[I5,Jq,c]
 .refine wW ?_;refine cB CN ?_
  cases e:A4 1 13 b.length
  .refine wW ?_;refine AR (λ_=>True) (λi=>[LI a,LI b,.u,.u,.u,.b false,.u,.u,.u,.u,LI b,.n b.length,.n i,.u,.u,.u]) b.length trivial rfl (λi hi _=>?_) (λ_=>?_)
   .exact wZ
   .simp(disch:=try exact dV) only[AD,EI];simp[I5,Jq,c,e]
  .have F:=Af.1 e;by_cases f:AB b ((b.length:Int)-1)=1
   .simp(disch:=try exact dV) only[AD,f];refine BE (λi (x:Bool)=>(x=true->∀j:Nat,j<i->A4 (-1) 1 (AB b j)=true)/\(x=false->b.all (A4 (-1) 1)=false)) (λi x=>[LI a,LI b,.u,.u,.u,.b x,.u,.u,.u,.u,LI b,.n b.length,.n i,.u,.u,.u]) b.length true ⟨λ_=>by simp,by simp⟩ rfl (λi x hi P=>?_) (λx P=>?_)
    .refine wW ?_
     cases x
     .refine wW ?_;exact⟨false,⟨by simp,P.2⟩,rfl⟩
     .refine wW ?_;refine cB CN ?_
      cases hr:A4 (-1) 1 (AB b i)
      .refine wW ?_;exact⟨false,⟨by simp,λ_=>NK hi hr⟩,rfl⟩
      .refine wW ?_;exact⟨true,⟨λ_=>Cw (P.1 rfl) hr,by simp⟩,rfl⟩
    .cases x
     .simp(disch:=try exact dV) only[AD,EI];simp[I5,Jq,P.2 rfl]
     .have l:=Lc (P.1 rfl);have B:Jq a b=true:=by simp[Jq,c,e,f,l]
      have k:=TS (K:=K) h s (by omega);have H:=λy=>Yx (b:=b) (i:=B8 a b) (x:=(a,rep (B8 a b:Nat) 0)) (y:=y);have C:B8 a b=a.length+1-b.length:=rfl;simp only[I5,B,if_true];refine wW ?_
      cases q:F0 b (B8 a b) (a,rep (B8 a b:Nat) 0)with
      |none=>
       rw[q]at k
       refine cB k ?_
       simp(disch:=try exact dV) only[AD,EI]
       rfl
      |some y=>
       rw[q]at k
       obtain⟨g,o⟩:=H y q
       simp only[J0]at g o
       have T:=Q3 (p:=y.1)
       have G:=Q3 (p:=y.2)
       have I:=RR (p:=y.1) y.1.length
       have J:=RR (p:=y.2) y.2.length
       refine cW k ?_
       cases p1:DC (Cu y.2)
       .repeat(refine cB (JF (by omega)) ?_;try simp(disch:=try exact dV) only[AD,p1,EI])
        all_goals rfl
       .cases p2:DC (Cu y.1)
        .repeat(refine cB (by first|exact JF (by omega)|exact JF (by omega)|fail) ?_;try simp(disch:=try exact dV) only[AD,p1,p2,EI])
         all_goals rfl
        .repeat(refine cB (by first|exact JF (by omega)|exact JF (by omega)|fail) ?_;try simp(disch:=try exact dV) only[AD,p1,p2])
         all_goals rfl
   .refine wW ?_;refine AR (λ_=>True) (λi=>[LI a,LI b,.u,.u,.u,.b false,.u,.u,.u,.u,LI b,.n b.length,.n i,.u,.u,.u]) b.length trivial rfl (λi hi _=>?_) (λ_=>?_)
    .exact wZ
    .simp(disch:=try exact dV) only[AD,EI];simp[I5,Jq,f]
end Go.Cat
namespace Go.Cat
variable{K:Nat->List D->List D->Prop}
theorem Te[HA K]{a b:List Int}(h:a.length<=1048576)(I:b.length<=1048576)(h0:1<=b.length):
  K 471 [LI a,LI b] [LI (Cu (H8 b (B8 a b) (a,rep (B8 a b:Nat) 0)).2),LI (Cu (H8 b (B8 a b) (a,rep (B8 a b:Nat) 0)).1)]:=by
 have C:(max 0 ((a.length:Int)-(b.length:Int)+1))=(B8 a b:Nat):=by simp only[B8];omega
 have B:B8 a b=a.length+1-b.length:=rfl;refine qb I471 ?_;simp(disch:=try exact dV) only[AD,EI,C];refine Bd (λ(x:Nat×List Int×List Int)=>x.1<=B8 a b/\x.2.1.length=a.length/\x.2.2.length=B8 a b/\H8 b x.1 x.2=H8 b (B8 a b) (a,rep (B8 a b:Nat) 0)) (λx=>[.u,LI b,.u,.u,LI x.2.1,LI x.2.2,.n ((x.1:Int)-1),.u,.u,.u,.u]) (λx=>x.1) (B8 a b,a,rep (B8 a b:Nat) 0) ⟨Nat.le_refl _,rfl,by simp[rep],rfl⟩ (by simp[rep]) ?_;rintro⟨i,l,q⟩ ⟨j,G,e,g⟩;simp only at j G e g|-
 cases i with
 |zero=>
  refine wW ?_
  refine cW (AL1 (by omega)) ?_
  refine cW (AL1 (by omega)) ?_
  rw[<-g]<;>rfl
 |succ i=>
  have f:((i+1:Nat):Int)-1=i:=by omega
  rw[f]
  refine wW ?_
  refine NF (Ir b (AB l ((i:Int)+b.length-1)) i) (λ_ (o:List Int)=>o.length=a.length) (λk o=>[.u,LI b,.u,.u,LI o,LI (B9 q i (AB l ((i:Int)+b.length-1))),.n i,.n (AB l ((i:Int)+b.length-1)),.n k,.u,.u]) b.length l G rfl (λk s _ F=>by rw[Uc,F]) (λk O J H _=>?_) (λO c H=>?_)
  .simp(disch:=try exact dV) only[AD,Ir]
  .refine wW ?_
   refine⟨(i,O,B9 q i (AB l ((i:Int)+b.length-1))),by omega,⟨by omega,H,by rw[DD,e],?_⟩,by simp⟩
   rw[<-g]
   simp only[H8]
   rw[c]<;>rfl
theorem AYF[HA K]{n:Nat}(h:n<=1000):K 470 [.n n] [LI (rep (n:Nat) 1)]:=by
 refine qb I470 ?_;simp(disch:=try exact dV) only[AD,EI];refine AR (λ_=>True) (λi=>[.n n,.u,LI (rep (i:Nat) 1),.n i,.u]) n trivial (by simp[rep]) (λi hi _=>?_) (λ_=>?_);have e:rep ((i:Int)+1) (1:Int)=rep (i:Nat) 1++[1]:=by rw[show(i:Int)+1=((i+1:Nat):Int) by omega];simp only[Sf];rw[List.replicate_succ']
 refine wW ?_;rw[e];exact wZ
def Md(n:Int):Bool:=A4 0 20 n
def Ny(n:Int):List Int:=if Md n=true then rep n 1 else []
theorem np_i[HA K]{n:Int}:K 422 [.n n] [LI (Ny n),.b (Md n)]:=by
 refine qw I422 ?_;refine cB CN ?_
 cases h:A4 0 20 n;simp(disch:=try exact dV) only[AD,EI];simp[Ny,Md,h];have H:=Af.1 h;obtain⟨m,rfl⟩:=CZ H.1;simp(disch:=try exact dV) only[AD,EI];refine AR (λ_=>True) (λi=>[.u,.u,.u,LI (rep (i:Nat) 1),.u,.n m,.n i,.u]) m trivial (by simp[rep]) (λi hi _=>?_) (λ_=>?_);have e:rep ((i:Int)+1) (1:Int)=rep (i:Nat) 1++[1]:=by rw[show(i:Int)+1=((i+1:Nat):Int) by omega];simp only[Sf];rw[List.replicate_succ']
 refine wW ?_;rw[e];refine wW ?_;simp[Ny,Md,h]
def EO(p:List Int):List (List Nat):=p.map AN
def FK(p:List Int):List Nat:=if p.length=0\/DC p=false then [48]else glue [44] (EO p)
theorem Us{p:List Int}(h:DC p=true):∀x∈EO p,x.length<=20:=by intro x a;obtain⟨y,b,rfl⟩:=List.mem_map.1 a;obtain⟨j,H,rfl⟩:=List.mem_iff_getElem.1 b;have:=UI h H;refine Ar ?_;simp only[AB,BM,Ap,GB H,Option.getD_some]at this;omega
theorem Xt{p:List Int}{i:Nat}(h:i<p.length):AH (EO p) i=AN (AB p i):=by simp[AH,EO,AB,h]
theorem ATZ{p:List Int}{i:Nat}(h:i<p.length):(EO p).take (i+1)=(EO p).take i++[AN (AB p i)]:=by rw[CO (by simpa[EO]using h)];simp[EO,AB,h]
theorem Ro{p:List Int}:(EO p).length=p.length:=by simp[EO]
theorem AdM[HA K]{p:List Int}(h:p.length<=1048576):K 430 [LI p] [.s (FK p)]:=by
 refine qb I430 ?_;by_cases h0:p.length=0;simp(disch:=try exact dV) only[AD,h0];simp[FK,h0];refine wW ?_
 cases H:DC p
 .repeat(refine cB (JF (by omega)) ?_;try simp(disch:=try exact dV) only[AD,H])
  simp[FK,H]
 have l:=AH6 H;have e:=Ro (p:=p);repeat(refine cB (JF (by omega)) ?_;try simp(disch:=try exact dV) only[AD,H])
 rw[MU];refine AR (λ_=>True) (λi=>[.u,.u,LS ((EO p).take i),.u,.u,LI p,.n p.length,.n i,.u]) p.length trivial (by simp) (λi hi _=>?_) (λ_=>?_);have c:((EO p).take i).length=i:=by simp;omega
 have b:=UI H hi;rw[ATZ hi];refine wW ?_;exact cZ (C4 (by omega));rw[List.take_of_length_le (by omega)];refine wW ?_;have k:=Hs (K:=K) (ws:=EO p) (sep:=[44]) (by omega) (λx a=>by have:=Us H x a;omega) (by simp);refine cW k ?_;simp[FK,h0,H]
theorem AWH{n:Int}:AN n≠[]:=by unfold AN;split;simp;split;simp;rename_i h0 _;rw[GW (by omega)];simp
theorem APG[HA K]{p:List Int}(h:p.length<=1048576):K 431 [LI p] [.s (FK p)]:=by
 refine qw I431 ?_
 cases H:DC p
 .by_cases h0:p.length=0;refine Bd (λ(_:Unit)=>True) (λ_=>[LI p,.u,.s [],.n 0,.u,.u,.u]) (λ_=>0) () trivial rfl (λ_ _=>?_);simp(disch:=try exact dV) only[AD,h0];simp[FK,h0];refine Bd (λ(_:Unit)=>True) (λ_=>[LI p,.u,.s [],.n 0,.u,.u,.u]) (λ_=>0) () trivial rfl (λ_ _=>?_);refine wW ?_;repeat(refine cB (S5 (by omega)) ?_;try simp(disch:=try exact dV) only[AD,H])
  simp[FK,H]
 have l:=AH6 H;have c:=Ro (p:=p);refine AR (λ_=>True) (λi=>[LI p,.u,.s (BC [44] (EO p) i),.n i,.u,.u,.u]) p.length trivial rfl (λi hi _=>?_) (λ_=>?_);have j:=UI H hi;have b1:=Gu (sep:=[44]) (Us H) i;have b2:=Ar (n:=AB p i) (by omega);have B:i*(20+[44].length)<=61*21:=Nat.mul_le_mul (by omega) (by simp);have e:=Xt hi;refine wW ?_;refine cB (S5 (by omega)) ?_;by_cases q:0<i;simp(disch:=try exact dV) only[AD,H];refine cW (Bk (by omega)) ?_;simp only[BC,if_pos q,e];simp(disch:=try exact dV) only[AD,H];refine cW (Bk (by omega)) ?_;simp only[BC,if_neg q,e,List.append_nil];by_cases h0:p.length=0;have e:BC [44] (EO p) p.length=[]:=by rw[h0];rfl
 rw[e];simp(disch:=try exact dV) only[AD,h0];simp[FK,h0];have e:(BC [44] (EO p) p.length==[])=false:=by refine beq_eq_false_iff_ne.2 ?_;obtain⟨m,b⟩:∃m,p.length=m+1:=⟨p.length-1,by omega⟩;rw[b,BC,Xt (by omega)];intro q;have:=congrArg List.length q;simp only[AZ,Aa]at this;have a:=AWH (n:=AB p m);have f:(AN (AB p m)).length≠0:=λq=>a (Dd q);omega
 simp(disch:=try exact dV) only[AD,e];have g:glue [44] (EO p)=BC [44] (EO p) p.length:=by rw[glue,c]
 simp[FK,h0,H,g]
end Go.Cat
namespace Go.Cat
theorem J4{p:List Int}{k:Nat}(h:p.length<=k):AB p k=0:=by simp[AB,h]
end Go.Cat
