/-
 Polynomials: what is one, sums, products, quotients, values.
-/
import Derived.Test.YthoilpmggmenbaaGreatPfLFCl
set_option linter.unusedSimpArgs false
set_option linter.unusedVariables false
namespace Go.Cat
variable{K:Nat->List D->List D->Prop}
def DT(p:List Int):Bool:=p.all (AR (-1000000000) 1000000000)&&(decide (p.length<=61)&&(decide (p.length=0)||!decide (AB p ((p.length:Int)-1)=0)))
def JZ(p:List Int):Bool:=p.all (AR (-100000) 100000)&&DT p
theorem Wp{p:List Int}(h:DT p=true){i:Nat}(hi:i<p.length):-1000000000<=AB p i/\AB p i<=1000000000:=by simp only[DT,AV,Ao]at h;exact A5.1 (h.1 _ (by simp[AB,hi]))
theorem AO3{p:List Int}(h:DT p=true):p.length<=61:=by simp only[DT,AV,Aa]at h;exact h.2.1
theorem KP[HA K]{p:List Int}(h:p.length<=1099511627776):K 428 [LI p] [.b (DT p)]:=by
 refine qb I428 ?_;by_cases c:61<p.length;refine wW ?_;exact Db (by simp[DT];intros;omega);by_cases H:p.length≠0/\AB p ((p.length:Int)-1)=0;simp(disch:=try exact dV) only[AD,H.2];exact Db (by simp[DT,H.1,H.2]);by_cases h0:p.length=0;simp(disch:=try exact dV) only[AD,h0];refine AN (λi=>True) (λi=>[.u,.u,.u,.u,LI p,.n p.length,.n i,.u,.u]) 0 trivial (by simp[h0]) (λi hi P=>by omega) (λP=>?_);refine wW ?_;have:p=[]:=Dz h0;subst this;exact Db rfl;have a:¬AB p ((p.length:Int)-1)=0:=λq=>H ⟨h0,q⟩;refine wW ?_;refine AN (λi=>∀j:Nat,j<i->AR (-1000000000) 1000000000 (AB p j)=true) (λi=>[.u,.u,.u,.u,LI p,.n p.length,.n i,.u,.u]) p.length (by simp) rfl (λi hi P=>?_) (λP=>?_);refine wW ?_;refine cB Bq ?_
 cases h2:AR (-1000000000) 1000000000 (AB p i);refine wW ?_;exact Db (by rw[DT,Lr hi h2];rfl);refine wW ?_;exact Bf P h2;refine wW ?_;exact Db (by rw[DT,Ki P];simp[a];omega)
theorem Vq[HA K]{p:List Int}(h:p.length<=1099511627776):K 429 [LI p] [.b (DT p)]:=by
 refine qw I429 ?_;refine AN (λi=>∀j:Nat,j<i->AR (-1000000000) 1000000000 (AB p j)=true) (λi=>[LI p,.u,.n i,.u,.u]) p.length (by simp) rfl (λi hi P=>?_) (λP=>?_);refine wW ?_;refine cB Bt ?_
 cases h2:AR (-1000000000) 1000000000 (AB p i);refine wW ?_;exact Db (by rw[DT,Lr hi h2];rfl);refine wW ?_;exact Bf P h2;by_cases H:61<p.length;refine wW ?_;exact Db (by simp[DT];intros;omega);by_cases h0:p.length=0;simp(disch:=try exact dV) only[AD,h0];exact Db (by rw[DT,Ki P];simp[h0]);by_cases q:AB p ((p.length:Int)-1)=0;simp(disch:=try exact dV) only[AD,q];exact Db (by simp[DT,q,h0]);refine wW ?_;exact Db (by rw[DT,Ki P];simp[q];omega)
theorem AI6[HA K]{p:List Int}(h:p.length<=1099511627776):K 460 [LI p] [.b (JZ p)]:=by
 refine qw I460 ?_;refine AN (λi=>∀j:Nat,j<i->AR (-100000) 100000 (AB p j)=true) (λi=>[LI p,.u,.u,LI p,.n p.length,.n i,.u,.u]) p.length (by simp) rfl (λi hi P=>?_) (λP=>?_);refine wW ?_;refine cB Bq ?_
 cases h2:AR (-100000) 100000 (AB p i);refine wW ?_;exact Db (by rw[JZ,Lr hi h2];rfl);refine wW ?_;exact Bf P h2;refine wW ?_;refine cW (KP h) ?_;exact Db (by rw[JZ,Ki P];simp)
theorem AVO[HA K]{p:List Int}(h:p.length<=1099511627776):K 462 [LI p] [.b (JZ p)]:=by
 refine qw I462 ?_;refine AN (λi=>∀j:Nat,j<i->AR (-100000) 100000 (AB p j)=true) (λi=>[LI p,.u,.n i,.u,.u]) p.length (by simp) rfl (λi hi P=>?_) (λP=>?_);refine wW ?_;refine cB Bt ?_
 cases h2:AR (-100000) 100000 (AB p i);refine wW ?_;exact Db (by rw[JZ,Lr hi h2];rfl);refine wW ?_;exact Bf P h2;refine wW ?_;refine cW (Vq h) ?_;exact Db (by rw[JZ,Ki P];simp)
def HC(p:List Int):Nat->Nat
 |0=>0
 |n+1=>if AB p n=0 then HC p n else n+1
def DL(p:List Int):List Int:=p.take (HC p p.length)
theorem Qn{p:List Int}:∀n,HC p n<=n
 |0=>Nat.le_refl _
 |n+1=>by have:=Qn (p:=p) n;unfold HC;split<;>omega
theorem S5{p:List Int}:(DL p).length=HC p p.length:=by have:=Qn (p:=p) p.length;simp only[DL,List.length_take];omega
theorem AOL{α:Type}{p:List α}{n:Nat}:sub p 0 n=p.take n:=by simp[sub]
theorem ABO[HA K]{p:List Int}(h:p.length<=1099511627776):K 469 [LI p] [LI (DL p)]:=by
 refine qw I469 ?_;refine Bj (λ(x:Nat)=>x<=p.length/\HC p x=HC p p.length) (λx=>[LI p,.u,.n x,.u]) (λx=>x) p.length ⟨Nat.le_refl _,rfl⟩ rfl ?_;intro x b
 cases x with
 |zero=>
  have e:HC p p.length=0:=b.2.symm
  refine wW ?_
  simp[DL,e,sub]
 |succ x=>
  have ex:((x+1:Nat):Int)-1=x:=by omega
  have H:=b.2
  simp only[HC]at H
  by_cases a:AB p x=0
  .rw[if_pos a]at H
   simp(disch:=try exact dV) only[AD,Bm,a]
   exact⟨x,by omega,⟨by omega,H⟩,rfl⟩
  .rw[if_neg a]at H
   simp(disch:=try exact dV) only[AD,Bm]
   rw[show((x:Int)+1)=((x+1:Nat):Int) by omega,AOL,DL,<-H]
theorem AN8[HA K]{p:List Int}(h:p.length<=1099511627776):K 463 [LI p] [LI (DL p)]:=by
 refine qw I463 ?_;refine Bj (λ(x:Nat)=>x<=p.length/\HC p x=HC p p.length) (λx=>[LI p,.u,.n x,.u]) (λx=>x) p.length ⟨Nat.le_refl _,rfl⟩ rfl ?_;intro x b
 cases x with
 |zero=>
  have e:HC p p.length=0:=b.2.symm
  simp(disch:=try exact dV) only[AD,E3]
  simp[DL,e,sub]
 |succ x=>
  have ex:((x+1:Nat):Int)-1=x:=by omega
  have H:=b.2
  simp only[HC]at H
  by_cases a:AB p x=0
  .rw[if_pos a]at H
   simp(disch:=try exact dV) only[AD,Bm,a]
   exact⟨x,by omega,⟨by omega,H⟩,rfl⟩
  .rw[if_neg a]at H
   simp(disch:=try exact dV) only[AD,Bm,E3]
   rw[show((x:Int)+1)=((x+1:Nat):Int) by omega,AOL,DL,<-H]
end Go.Cat
namespace Go.Cat
variable{K:Nat->List D->List D->Prop}
def Jx(b:List Int)(c:Int)(i k:Nat)(o:List Int):List Int:=BH o ((i:Int)+k) (IntKind.i64.wrap (AB o ((i:Int)+k)-IntKind.i64.wrap (c*AB b k)))
theorem V2{b o:List Int}{c:Int}{i k:Nat}:(Jx b c i k o).length=o.length:=by simp[Jx,BH]
theorem Af8{b o:List Int}{c:Int}{i n:Nat}:(iter (Jx b c i) n o).length=o.length:=VB (λ(s:List Int)=>s.length=o.length) rfl (λi s h=>by rw[V2,h]) n
def dvS(b:List Int)(i:Nat)(x:List Int×List Int):List Int×List Int:=
 (iter (Jx b (AB x.1 ((i:Int)+b.length-1)) i) b.length x.1,BH x.2 i (AB x.1 ((i:Int)+b.length-1)))
def Fs(b:List Int):Nat->List Int×List Int->Option (List Int×List Int)
 |0,x=>some x
 |i+1,x=>if AR (-1000000000) 1000000000 (AB x.1 ((i:Int)+b.length-1))=true then Fs b i (dvS b i x)else none
def Iy(b:List Int):Nat->List Int×List Int->List Int×List Int
 |0,x=>x
 |i+1,x=>Iy b i (dvS b i x)
def Bh(a b:List Int):Nat:=a.length+1-b.length
def Kp(a b:List Int):Bool:=JZ a&&AR 1 13 b.length&&decide (AB b ((b.length:Int)-1)=1)&&b.all (AR (-1) 1)
def Jr(a b:List Int):Option (List Int×List Int):=if Kp a b=true then(Fs b (Bh a b) (a,rep (Bh a b:Nat) 0)).bind λx=>if DT (DL x.2)&&DT (DL x.1)then some (DL x.2,DL x.1)else none else none
theorem ALE{b:List Int}:∀{i:Nat}{x y:List Int×List Int},Fs b i x=some y->y.1.length=x.1.length/\y.2.length=x.2.length
 |0,x,y,h=>by simp only[Fs,AL]at h;subst h;exact⟨rfl,rfl⟩
 |i+1,x,y,h=>by
  simp only[Fs]at h;split at h;have:=ALE h;simp only[dvS,Af8,DO]at this;exact this
  cases h
theorem Vc[HA K]{a b:List Int}(h:a.length<=1048576)(J:b.length<=1048576)(h0:1<=b.length):
  K 461 [LI a,LI b] (match Fs b (Bh a b) (a,rep (Bh a b:Nat) 0)with|some x=>[LI (DL x.2),LI (DL x.1),.b true]|none=>[LI [],LI [],.b false]):=by
 have C:(max 0 ((a.length:Int)-(b.length:Int)+1))=(Bh a b:Nat):=by simp only[Bh];omega
 refine qw I461 ?_;refine cB (Ps (by omega)) ?_;simp(disch:=try exact dV) only[AD,C];refine Bj (λ(x:Nat×List Int×List Int)=>x.1<=Bh a b/\x.2.1.length=a.length/\x.2.2.length=Bh a b/\Fs b x.1 x.2=Fs b (Bh a b) (a,rep (Bh a b:Nat) 0)) (λx=>[.u,LI b,.u,.u,.u,LI x.2.1,LI x.2.2,.n ((x.1:Int)-1),.u,.u,.u,.u,.u,.u,.u,.u,.u]) (λx=>x.1) (Bh a b,a,rep (Bh a b:Nat) 0) ⟨Nat.le_refl _,rfl,by simp[rep],rfl⟩ (by simp[rep]) ?_;rintro⟨i,l,q⟩ ⟨j,G,e,g⟩;simp only at j G e g|-;have B:Bh a b=a.length+1-b.length:=rfl
 cases i with
 |zero=>
  have M:=S5 (p:=l)
  have I:=S5 (p:=q)
  refine wW ?_
  refine cW (ABO (by omega)) ?_
  refine cW (ABO (by omega)) ?_
  rw[<-g]<;>rfl
 |succ i=>
  have f:((i+1:Nat):Int)-1=i:=by omega
  rw[f]
  refine wW ?_
  refine cB Bq ?_
  cases hr:AR (-1000000000) 1000000000 (AB l ((i:Int)+b.length-1))
  .refine wW ?_
   rw[<-g]
   simp only[Fs,hr]
   rfl
  .refine wW ?_
   refine P8 (Jx b (AB l ((i:Int)+b.length-1)) i) (λ_ (o:List Int)=>o.length=a.length) (λk o=>[.u,LI b,.u,.u,.u,LI o,LI (BH q i (AB l ((i:Int)+b.length-1))),.n i,.n (AB l ((i:Int)+b.length-1)),.u,.u,.u,.u,LI b,.n b.length,.n k,.u]) b.length l G rfl (λk s _ F=>by rw[V2,F]) (λk O L H _=>?_) (λO c H=>?_)
   .simp(disch:=try exact dV) only[AD,Jx]
   .refine wW ?_
    refine⟨(i,O,BH q i (AB l ((i:Int)+b.length-1))),by omega,⟨by omega,H,by rw[DO,e],?_⟩,by simp⟩
    rw[<-g]
    simp only[Fs,hr,if_true]
    rw[c]<;>rfl
theorem dv_i[HA K]{a b:List Int}(h:a.length<=1048576)(s:b.length<=1048576):
  K 403 [LI a,LI b] (match Jr a b with|some x=>[LI x.1,LI x.2,.b true]|none=>[LI [],LI [],.b false]):=by
 refine qw I403 ?_;refine cB (AI6 (by omega)) ?_
 cases c:JZ a
 .refine wW ?_;refine AN (λ_=>True) (λi=>[LI a,LI b,.u,.u,.u,.b false,.u,.u,.u,.u,LI b,.n b.length,.n i,.u,.u,.u]) b.length trivial rfl (λi hi _=>?_) (λ_=>?_)
  .exact wZ
  .simp(disch:=try exact dV) only[AD,E3];simp[Jr,Kp,c]
 .refine wW ?_;refine cB Bq ?_
  cases e:AR 1 13 b.length
  .refine wW ?_;refine AN (λ_=>True) (λi=>[LI a,LI b,.u,.u,.u,.b false,.u,.u,.u,.u,LI b,.n b.length,.n i,.u,.u,.u]) b.length trivial rfl (λi hi _=>?_) (λ_=>?_)
   .exact wZ
   .simp(disch:=try exact dV) only[AD,E3];simp[Jr,Kp,c,e]
  .have F:=A5.1 e;by_cases f:AB b ((b.length:Int)-1)=1
   .simp(disch:=try exact dV) only[AD,f];refine Aj (λi (x:Bool)=>(x=true->∀j:Nat,j<i->AR (-1) 1 (AB b j)=true)/\(x=false->b.all (AR (-1) 1)=false)) (λi x=>[LI a,LI b,.u,.u,.u,.b x,.u,.u,.u,.u,LI b,.n b.length,.n i,.u,.u,.u]) b.length true ⟨λ_=>by simp,by simp⟩ rfl (λi x hi P=>?_) (λx P=>?_)
    .refine wW ?_
     cases x
     .refine wW ?_;exact⟨false,⟨by simp,P.2⟩,rfl⟩
     .refine wW ?_;refine cB Bq ?_
      cases hr:AR (-1) 1 (AB b i)
      .refine wW ?_;exact⟨false,⟨by simp,λ_=>Lr hi hr⟩,rfl⟩
      .refine wW ?_;exact⟨true,⟨λ_=>Bf (P.1 rfl) hr,by simp⟩,rfl⟩
    .cases x
     .simp(disch:=try exact dV) only[AD,E3];simp[Jr,Kp,P.2 rfl]
     .have l:=Ki (P.1 rfl);have B:Kp a b=true:=by simp[Kp,c,e,f,l]
      have k:=Vc (K:=K) h s (by omega);have H:=λy=>ALE (b:=b) (i:=Bh a b) (x:=(a,rep (Bh a b:Nat) 0)) (y:=y);have C:Bh a b=a.length+1-b.length:=rfl;simp only[Jr,B,if_true];refine wW ?_
      cases q:Fs b (Bh a b) (a,rep (Bh a b:Nat) 0)with
      |none=>
       rw[q]at k
       refine cB k ?_
       simp(disch:=try exact dV) only[AD,E3]
       rfl
      |some y=>
       rw[q]at k
       obtain⟨g,o⟩:=H y q
       simp only[LV]at g o
       have T:=S5 (p:=y.1)
       have G:=S5 (p:=y.2)
       have I:=Qn (p:=y.1) y.1.length
       have J:=Qn (p:=y.2) y.2.length
       refine cW k ?_
       cases p1:DT (DL y.2)
       .repeat(refine cB (KP (by omega)) ?_;try simp(disch:=try exact dV) only[AD,p1,E3])
        all_goals rfl
       .cases p2:DT (DL y.1)
        .repeat(refine cB (by first|exact KP (by omega)|exact KP (by omega)|fail) ?_;try simp(disch:=try exact dV) only[AD,p1,p2,E3])
         all_goals rfl
        .repeat(refine cB (by first|exact KP (by omega)|exact KP (by omega)|fail) ?_;try simp(disch:=try exact dV) only[AD,p1,p2])
         all_goals rfl
   .refine wW ?_;refine AN (λ_=>True) (λi=>[LI a,LI b,.u,.u,.u,.b false,.u,.u,.u,.u,LI b,.n b.length,.n i,.u,.u,.u]) b.length trivial rfl (λi hi _=>?_) (λ_=>?_)
    .exact wZ
    .simp(disch:=try exact dV) only[AD,E3];simp[Jr,Kp,f]
end Go.Cat
namespace Go.Cat
variable{K:Nat->List D->List D->Prop}
theorem VY[HA K]{a b:List Int}(h:a.length<=1048576)(I:b.length<=1048576)(h0:1<=b.length):
  K 471 [LI a,LI b] [LI (DL (Iy b (Bh a b) (a,rep (Bh a b:Nat) 0)).2),LI (DL (Iy b (Bh a b) (a,rep (Bh a b:Nat) 0)).1)]:=by
 have C:(max 0 ((a.length:Int)-(b.length:Int)+1))=(Bh a b:Nat):=by simp only[Bh];omega
 have B:Bh a b=a.length+1-b.length:=rfl;refine qb I471 ?_;simp(disch:=try exact dV) only[AD,E3,C];refine Bj (λ(x:Nat×List Int×List Int)=>x.1<=Bh a b/\x.2.1.length=a.length/\x.2.2.length=Bh a b/\Iy b x.1 x.2=Iy b (Bh a b) (a,rep (Bh a b:Nat) 0)) (λx=>[.u,LI b,.u,.u,LI x.2.1,LI x.2.2,.n ((x.1:Int)-1),.u,.u,.u,.u]) (λx=>x.1) (Bh a b,a,rep (Bh a b:Nat) 0) ⟨Nat.le_refl _,rfl,by simp[rep],rfl⟩ (by simp[rep]) ?_;rintro⟨i,l,q⟩ ⟨j,G,e,g⟩;simp only at j G e g|-
 cases i with
 |zero=>
  refine wW ?_
  refine cW (AN8 (by omega)) ?_
  refine cW (AN8 (by omega)) ?_
  rw[<-g]<;>rfl
 |succ i=>
  have f:((i+1:Nat):Int)-1=i:=by omega
  rw[f]
  refine wW ?_
  refine P8 (Jx b (AB l ((i:Int)+b.length-1)) i) (λ_ (o:List Int)=>o.length=a.length) (λk o=>[.u,LI b,.u,.u,LI o,LI (BH q i (AB l ((i:Int)+b.length-1))),.n i,.n (AB l ((i:Int)+b.length-1)),.n k,.u,.u]) b.length l G rfl (λk s _ F=>by rw[V2,F]) (λk O J H _=>?_) (λO c H=>?_)
  .simp(disch:=try exact dV) only[AD,Jx]
  .refine wW ?_
   refine⟨(i,O,BH q i (AB l ((i:Int)+b.length-1))),by omega,⟨by omega,H,by rw[DO,e],?_⟩,by simp⟩
   rw[<-g]
   simp only[Iy]
   rw[c]<;>rfl
theorem Ab7[HA K]{n:Nat}(h:n<=1000):K 470 [.n n] [LI (rep (n:Nat) 1)]:=by
 refine qb I470 ?_;simp(disch:=try exact dV) only[AD,E3];refine AN (λ_=>True) (λi=>[.n n,.u,LI (rep (i:Nat) 1),.n i,.u]) n trivial (by simp[rep]) (λi hi _=>?_) (λ_=>?_);have e:rep ((i:Int)+1) (1:Int)=rep (i:Nat) 1++[1]:=by rw[show(i:Int)+1=((i+1:Nat):Int) by omega];simp only[Ts];rw[List.replicate_succ']
 refine wW ?_;rw[e];exact wZ
def OO(n:Int):Bool:=AR 0 20 n
def QC(n:Int):List Int:=if OO n=true then rep n 1 else []
theorem np_i[HA K]{n:Int}:K 422 [.n n] [LI (QC n),.b (OO n)]:=by
 refine qw I422 ?_;refine cB Bq ?_
 cases h:AR 0 20 n;simp(disch:=try exact dV) only[AD,E3];simp[QC,OO,h];have H:=A5.1 h;obtain⟨m,rfl⟩:=CE H.1;simp(disch:=try exact dV) only[AD,E3];refine AN (λ_=>True) (λi=>[.u,.u,.u,LI (rep (i:Nat) 1),.u,.n m,.n i,.u]) m trivial (by simp[rep]) (λi hi _=>?_) (λ_=>?_);have e:rep ((i:Int)+1) (1:Int)=rep (i:Nat) 1++[1]:=by rw[show(i:Int)+1=((i+1:Nat):Int) by omega];simp only[Ts];rw[List.replicate_succ']
 refine wW ?_;rw[e];refine wW ?_;simp[QC,OO,h]
def Eh(p:List Int):List (List Nat):=p.map AQ
def Fm(p:List Int):List Nat:=if p.length=0\/DT p=false then [48]else glue [44] (Eh p)
theorem Vi{p:List Int}(h:DT p=true):∀x∈Eh p,x.length<=20:=by intro x a;obtain⟨y,b,rfl⟩:=List.mem_map.1 a;obtain⟨j,H,rfl⟩:=List.mem_iff_getElem.1 b;have:=Wp h H;refine Ax ?_;simp only[AB,BM,Ap,FD H,Option.getD_some]at this;omega
theorem AJ3{p:List Int}{i:Nat}(h:i<p.length):AG (Eh p) i=AQ (AB p i):=by simp[AG,Eh,AB,h]
theorem AZ0{p:List Int}{i:Nat}(h:i<p.length):(Eh p).take (i+1)=(Eh p).take i++[AQ (AB p i)]:=by rw[CP (by simpa[Eh]using h)];simp[Eh,AB,h]
theorem Vp{p:List Int}:(Eh p).length=p.length:=by simp[Eh]
theorem Ac8[HA K]{p:List Int}(h:p.length<=1048576):K 430 [LI p] [.s (Fm p)]:=by
 refine qb I430 ?_;by_cases h0:p.length=0;simp(disch:=try exact dV) only[AD,h0];simp[Fm,h0];refine wW ?_
 cases H:DT p
 .repeat(refine cB (KP (by omega)) ?_;try simp(disch:=try exact dV) only[AD,H])
  simp[Fm,H]
 have l:=AO3 H;have e:=Vp (p:=p);repeat(refine cB (KP (by omega)) ?_;try simp(disch:=try exact dV) only[AD,H])
 rw[Np];refine AN (λ_=>True) (λi=>[.u,.u,LS ((Eh p).take i),.u,.u,LI p,.n p.length,.n i,.u]) p.length trivial (by simp) (λi hi _=>?_) (λ_=>?_);have c:((Eh p).take i).length=i:=by simp;omega
 have b:=Wp H hi;rw[AZ0 hi];refine wW ?_;exact cZ (C4 (by omega));rw[List.take_of_length_le (by omega)];refine wW ?_;have k:=J1 (K:=K) (ws:=Eh p) (sep:=[44]) (by omega) (λx a=>by have:=Vi H x a;omega) (by simp);refine cW k ?_;simp[Fm,h0,H]
theorem Ab0{n:Int}:AQ n≠[]:=by unfold AQ;split;simp;split;simp;rename_i h0 _;rw[HR (by omega)];simp
theorem AY1[HA K]{p:List Int}(h:p.length<=1048576):K 431 [LI p] [.s (Fm p)]:=by
 refine qw I431 ?_
 cases H:DT p
 .by_cases h0:p.length=0;refine Bj (λ(_:Unit)=>True) (λ_=>[LI p,.u,.s [],.n 0,.u,.u,.u]) (λ_=>0) () trivial rfl (λ_ _=>?_);simp(disch:=try exact dV) only[AD,h0];simp[Fm,h0];refine Bj (λ(_:Unit)=>True) (λ_=>[LI p,.u,.s [],.n 0,.u,.u,.u]) (λ_=>0) () trivial rfl (λ_ _=>?_);refine wW ?_;repeat(refine cB (Vq (by omega)) ?_;try simp(disch:=try exact dV) only[AD,H])
  simp[Fm,H]
 have l:=AO3 H;have c:=Vp (p:=p);refine AN (λ_=>True) (λi=>[LI p,.u,.s (BE [44] (Eh p) i),.n i,.u,.u,.u]) p.length trivial rfl (λi hi _=>?_) (λ_=>?_);have j:=Wp H hi;have b1:=IH (sep:=[44]) (Vi H) i;have b2:=Ax (n:=AB p i) (by omega);have B:i*(20+[44].length)<=61*21:=Nat.mul_le_mul (by omega) (by simp);have e:=AJ3 hi;refine wW ?_;refine cB (Vq (by omega)) ?_;by_cases q:0<i;simp(disch:=try exact dV) only[AD,H];refine cW (By (by omega)) ?_;simp only[BE,if_pos q,e];simp(disch:=try exact dV) only[AD,H];refine cW (By (by omega)) ?_;simp only[BE,if_neg q,e,List.append_nil];by_cases h0:p.length=0;have e:BE [44] (Eh p) p.length=[]:=by rw[h0];rfl
 rw[e];simp(disch:=try exact dV) only[AD,h0];simp[Fm,h0];have e:(BE [44] (Eh p) p.length==[])=false:=by refine beq_eq_false_iff_ne.2 ?_;obtain⟨m,b⟩:∃m,p.length=m+1:=⟨p.length-1,by omega⟩;rw[b,BE,AJ3 (by omega)];intro q;have:=congrArg List.length q;simp only[A4,A6]at this;have a:=Ab0 (n:=AB p m);have f:(AQ (AB p m)).length≠0:=λq=>a (Dz q);omega
 simp(disch:=try exact dV) only[AD,e];have g:glue [44] (Eh p)=BE [44] (Eh p) p.length:=by rw[glue,c]
 simp[Fm,h0,H,g]
end Go.Cat
namespace Go.Cat
theorem Lf{p:List Int}{k:Nat}(h:p.length<=k):AB p k=0:=by simp[AB,h]
end Go.Cat
namespace Go.Cat
variable{K:Nat->List D->List D->Prop}
set_option maxRecDepth 100000
end Go.Cat
