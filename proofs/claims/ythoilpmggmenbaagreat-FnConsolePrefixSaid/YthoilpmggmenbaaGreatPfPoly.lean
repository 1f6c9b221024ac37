/-
 Polynomials: what is one, sums, products, quotients, values.
-/
import Derived.Test.YthoilpmggmenbaaGreatPfLFCl
set_option linter.unusedSimpArgs false
set_option linter.unusedVariables false
namespace Go.Cat
variable{K:Nat->List D->List D->Prop}
def DX(p:List Int):Bool:=p.all (AR (-1000000000) 1000000000)&&(decide (p.length<=61)&&(decide (p.length=0)||!decide (AB p ((p.length:Int)-1)=0)))
def Ji(p:List Int):Bool:=p.all (AR (-100000) 100000)&&DX p
theorem Uj{p:List Int}(h:DX p=true){i:Nat}(hi:i<p.length):-1000000000<=AB p i/\AB p i<=1000000000:=by simp only[DX,AV,Ao]at h;exact A7.1 (h.1 _ (by simp[AB,hi]))
theorem AQB{p:List Int}(h:DX p=true):p.length<=61:=by simp only[DX,AV,Ac]at h;exact h.2.1
theorem K0[HA K]{p:List Int}(h:p.length<=1099511627776):K 428 [LI p] [.b (DX p)]:=by
 refine qb I428 ?_;by_cases c:61<p.length;refine wW ?_;exact Db (by simp[DX];intros;omega);by_cases H:p.length≠0/\AB p ((p.length:Int)-1)=0;simp(disch:=try exact dV) only[AD,H.2];exact Db (by simp[DX,H.1,H.2]);by_cases h0:p.length=0;simp(disch:=try exact dV) only[AD,h0];refine AN (λi=>True) (λi=>[.u,.u,.u,.u,LI p,.n p.length,.n i,.u,.u]) 0 trivial (by simp[h0]) (λi hi P=>by omega) (λP=>?_);refine wW ?_;have:p=[]:=Dy h0;subst this;exact Db rfl;have a:¬AB p ((p.length:Int)-1)=0:=λq=>H ⟨h0,q⟩;refine wW ?_;refine AN (λi=>∀j:Nat,j<i->AR (-1000000000) 1000000000 (AB p j)=true) (λi=>[.u,.u,.u,.u,LI p,.n p.length,.n i,.u,.u]) p.length (by simp) rfl (λi hi P=>?_) (λP=>?_);refine wW ?_;refine cB Br ?_
 cases h2:AR (-1000000000) 1000000000 (AB p i);refine wW ?_;exact Db (by rw[DX,LU hi h2];rfl);refine wW ?_;exact Bg P h2;refine wW ?_;exact Db (by rw[DX,KX P];simp[a];omega)
theorem VC[HA K]{p:List Int}(h:p.length<=1099511627776):K 429 [LI p] [.b (DX p)]:=by
 refine qw I429 ?_;refine AN (λi=>∀j:Nat,j<i->AR (-1000000000) 1000000000 (AB p j)=true) (λi=>[LI p,.u,.n i,.u,.u]) p.length (by simp) rfl (λi hi P=>?_) (λP=>?_);refine wW ?_;refine cB Bt ?_
 cases h2:AR (-1000000000) 1000000000 (AB p i);refine wW ?_;exact Db (by rw[DX,LU hi h2];rfl);refine wW ?_;exact Bg P h2;by_cases H:61<p.length;refine wW ?_;exact Db (by simp[DX];intros;omega);by_cases h0:p.length=0;simp(disch:=try exact dV) only[AD,h0];exact Db (by rw[DX,KX P];simp[h0]);by_cases q:AB p ((p.length:Int)-1)=0;simp(disch:=try exact dV) only[AD,q];exact Db (by simp[DX,q,h0]);refine wW ?_;exact Db (by rw[DX,KX P];simp[q];omega)
theorem ATJ[HA K]{p:List Int}(h:p.length<=1099511627776):K 460 [LI p] [.b (Ji p)]:=by
 refine qw I460 ?_;refine AN (λi=>∀j:Nat,j<i->AR (-100000) 100000 (AB p j)=true) (λi=>[LI p,.u,.u,LI p,.n p.length,.n i,.u,.u]) p.length (by simp) rfl (λi hi P=>?_) (λP=>?_);refine wW ?_;refine cB Br ?_
 cases h2:AR (-100000) 100000 (AB p i);refine wW ?_;exact Db (by rw[Ji,LU hi h2];rfl);refine wW ?_;exact Bg P h2;refine wW ?_;refine cW (K0 h) ?_;exact Db (by rw[Ji,KX P];simp)
theorem AUQ[HA K]{p:List Int}(h:p.length<=1099511627776):K 462 [LI p] [.b (Ji p)]:=by
 refine qw I462 ?_;refine AN (λi=>∀j:Nat,j<i->AR (-100000) 100000 (AB p j)=true) (λi=>[LI p,.u,.n i,.u,.u]) p.length (by simp) rfl (λi hi P=>?_) (λP=>?_);refine wW ?_;refine cB Bt ?_
 cases h2:AR (-100000) 100000 (AB p i);refine wW ?_;exact Db (by rw[Ji,LU hi h2];rfl);refine wW ?_;exact Bg P h2;refine wW ?_;refine cW (VC h) ?_;exact Db (by rw[Ji,KX P];simp)
def HK(p:List Int):Nat->Nat
 |0=>0
 |n+1=>if AB p n=0 then HK p n else n+1
def DM(p:List Int):List Int:=p.take (HK p p.length)
theorem SZ{p:List Int}:∀n,HK p n<=n
 |0=>Nat.le_refl _
 |n+1=>by have:=SZ (p:=p) n;unfold HK;split<;>omega
theorem RA{p:List Int}:(DM p).length=HK p p.length:=by have:=SZ (p:=p) p.length;simp only[DM,List.length_take];omega
theorem AJE{α:Type}{p:List α}{n:Nat}:sub p 0 n=p.take n:=by simp[sub]
theorem AOB[HA K]{p:List Int}(h:p.length<=1099511627776):K 469 [LI p] [LI (DM p)]:=by
 refine qw I469 ?_;refine Bd (λ(x:Nat)=>x<=p.length/\HK p x=HK p p.length) (λx=>[LI p,.u,.n x,.u]) (λx=>x) p.length ⟨Nat.le_refl _,rfl⟩ rfl ?_;intro x b
 cases x with
 |zero=>
  have e:HK p p.length=0:=b.2.symm
  refine wW ?_
  simp[DM,e,sub]
 |succ x=>
  have ex:((x+1:Nat):Int)-1=x:=by omega
  have H:=b.2
  simp only[HK]at H
  by_cases a:AB p x=0
  .rw[if_pos a]at H
   simp(disch:=try exact dV) only[AD,Bq,a]
   exact⟨x,by omega,⟨by omega,H⟩,rfl⟩
  .rw[if_neg a]at H
   simp(disch:=try exact dV) only[AD,Bq]
   rw[show((x:Int)+1)=((x+1:Nat):Int) by omega,AJE,DM,<-H]
theorem AM4[HA K]{p:List Int}(h:p.length<=1099511627776):K 463 [LI p] [LI (DM p)]:=by
 refine qw I463 ?_;refine Bd (λ(x:Nat)=>x<=p.length/\HK p x=HK p p.length) (λx=>[LI p,.u,.n x,.u]) (λx=>x) p.length ⟨Nat.le_refl _,rfl⟩ rfl ?_;intro x b
 cases x with
 |zero=>
  have e:HK p p.length=0:=b.2.symm
  simp(disch:=try exact dV) only[AD,Eb]
  simp[DM,e,sub]
 |succ x=>
  have ex:((x+1:Nat):Int)-1=x:=by omega
  have H:=b.2
  simp only[HK]at H
  by_cases a:AB p x=0
  .rw[if_pos a]at H
   simp(disch:=try exact dV) only[AD,Bq,a]
   exact⟨x,by omega,⟨by omega,H⟩,rfl⟩
  .rw[if_neg a]at H
   simp(disch:=try exact dV) only[AD,Bq,Eb]
   rw[show((x:Int)+1)=((x+1:Nat):Int) by omega,AJE,DM,<-H]
end Go.Cat
namespace Go.Cat
variable{K:Nat->List D->List D->Prop}
def KT(b:List Int)(c:Int)(i k:Nat)(o:List Int):List Int:=BE o ((i:Int)+k) (IntKind.i64.wrap (AB o ((i:Int)+k)-IntKind.i64.wrap (c*AB b k)))
theorem Yp{b o:List Int}{c:Int}{i k:Nat}:(KT b c i k o).length=o.length:=by simp[KT,BE]
theorem Ak2{b o:List Int}{c:Int}{i n:Nat}:(iter (KT b c i) n o).length=o.length:=Vh (λ(s:List Int)=>s.length=o.length) rfl (λi s h=>by rw[Yp,h]) n
def dvS(b:List Int)(i:Nat)(x:List Int×List Int):List Int×List Int:=
 (iter (KT b (AB x.1 ((i:Int)+b.length-1)) i) b.length x.1,BE x.2 i (AB x.1 ((i:Int)+b.length-1)))
def GH(b:List Int):Nat->List Int×List Int->Option (List Int×List Int)
 |0,x=>some x
 |i+1,x=>if AR (-1000000000) 1000000000 (AB x.1 ((i:Int)+b.length-1))=true then GH b i (dvS b i x)else none
def Ik(b:List Int):Nat->List Int×List Int->List Int×List Int
 |0,x=>x
 |i+1,x=>Ik b i (dvS b i x)
def Bj(a b:List Int):Nat:=a.length+1-b.length
def Lf(a b:List Int):Bool:=Ji a&&AR 1 13 b.length&&decide (AB b ((b.length:Int)-1)=1)&&b.all (AR (-1) 1)
def Ki(a b:List Int):Option (List Int×List Int):=if Lf a b=true then(GH b (Bj a b) (a,rep (Bj a b:Nat) 0)).bind λx=>if DX (DM x.2)&&DX (DM x.1)then some (DM x.2,DM x.1)else none else none
theorem ANX{b:List Int}:∀{i:Nat}{x y:List Int×List Int},GH b i x=some y->y.1.length=x.1.length/\y.2.length=x.2.length
 |0,x,y,h=>by simp only[GH,AL]at h;subst h;exact⟨rfl,rfl⟩
 |i+1,x,y,h=>by
  simp only[GH]at h;split at h;have:=ANX h;simp only[dvS,Ak2,DN]at this;exact this
  cases h
theorem ZL[HA K]{a b:List Int}(h:a.length<=1048576)(J:b.length<=1048576)(h0:1<=b.length):
  K 461 [LI a,LI b] (match GH b (Bj a b) (a,rep (Bj a b:Nat) 0)with|some x=>[LI (DM x.2),LI (DM x.1),.b true]|none=>[LI [],LI [],.b false]):=by
 have C:(max 0 ((a.length:Int)-(b.length:Int)+1))=(Bj a b:Nat):=by simp only[Bj];omega
 refine qw I461 ?_;refine cB (Px (by omega)) ?_;simp(disch:=try exact dV) only[AD,C];refine Bd (λ(x:Nat×List Int×List Int)=>x.1<=Bj a b/\x.2.1.length=a.length/\x.2.2.length=Bj a b/\GH b x.1 x.2=GH b (Bj a b) (a,rep (Bj a b:Nat) 0)) (λx=>[.u,LI b,.u,.u,.u,LI x.2.1,LI x.2.2,.n ((x.1:Int)-1),.u,.u,.u,.u,.u,.u,.u,.u,.u]) (λx=>x.1) (Bj a b,a,rep (Bj a b:Nat) 0) ⟨Nat.le_refl _,rfl,by simp[rep],rfl⟩ (by simp[rep]) ?_;rintro⟨i,l,q⟩ ⟨j,G,e,g⟩;simp only at j G e g|-;have B:Bj a b=a.length+1-b.length:=rfl
 cases i with
 |zero=>
  have M:=RA (p:=l)
  have I:=RA (p:=q)
  refine wW ?_
  refine cW (AOB (by omega)) ?_
  refine cW (AOB (by omega)) ?_
  rw[<-g]<;>rfl
 |succ i=>
  have f:((i+1:Nat):Int)-1=i:=by omega
  rw[f]
  refine wW ?_
  refine cB Br ?_
  cases hr:AR (-1000000000) 1000000000 (AB l ((i:Int)+b.length-1))
  .refine wW ?_
   rw[<-g]
   simp only[GH,hr]
   rfl
  .refine wW ?_
   refine Pw (KT b (AB l ((i:Int)+b.length-1)) i) (λ_ (o:List Int)=>o.length=a.length) (λk o=>[.u,LI b,.u,.u,.u,LI o,LI (BE q i (AB l ((i:Int)+b.length-1))),.n i,.n (AB l ((i:Int)+b.length-1)),.u,.u,.u,.u,LI b,.n b.length,.n k,.u]) b.length l G rfl (λk s _ F=>by rw[Yp,F]) (λk O L H _=>?_) (λO c H=>?_)
   .simp(disch:=try exact dV) only[AD,KT]
   .refine wW ?_
    refine⟨(i,O,BE q i (AB l ((i:Int)+b.length-1))),by omega,⟨by omega,H,by rw[DN,e],?_⟩,by simp⟩
    rw[<-g]
    simp only[GH,hr,if_true]
    rw[c]<;>rfl
theorem dv_i[HA K]{a b:List Int}(h:a.length<=1048576)(s:b.length<=1048576):
  K 403 [LI a,LI b] (match Ki a b with|some x=>[LI x.1,LI x.2,.b true]|none=>[LI [],LI [],.b false]):=by
 refine qw I403 ?_;refine cB (ATJ (by omega)) ?_
 cases c:Ji a
 .refine wW ?_;refine AN (λ_=>True) (λi=>[LI a,LI b,.u,.u,.u,.b false,.u,.u,.u,.u,LI b,.n b.length,.n i,.u,.u,.u]) b.length trivial rfl (λi hi _=>?_) (λ_=>?_)
  .exact wZ
  .simp(disch:=try exact dV) only[AD,Eb];simp[Ki,Lf,c]
 .refine wW ?_;refine cB Br ?_
  cases e:AR 1 13 b.length
  .refine wW ?_;refine AN (λ_=>True) (λi=>[LI a,LI b,.u,.u,.u,.b false,.u,.u,.u,.u,LI b,.n b.length,.n i,.u,.u,.u]) b.length trivial rfl (λi hi _=>?_) (λ_=>?_)
   .exact wZ
   .simp(disch:=try exact dV) only[AD,Eb];simp[Ki,Lf,c,e]
  .have F:=A7.1 e;by_cases f:AB b ((b.length:Int)-1)=1
   .simp(disch:=try exact dV) only[AD,f];refine Ah (λi (x:Bool)=>(x=true->∀j:Nat,j<i->AR (-1) 1 (AB b j)=true)/\(x=false->b.all (AR (-1) 1)=false)) (λi x=>[LI a,LI b,.u,.u,.u,.b x,.u,.u,.u,.u,LI b,.n b.length,.n i,.u,.u,.u]) b.length true ⟨λ_=>by simp,by simp⟩ rfl (λi x hi P=>?_) (λx P=>?_)
    .refine wW ?_
     cases x
     .refine wW ?_;exact⟨false,⟨by simp,P.2⟩,rfl⟩
     .refine wW ?_;refine cB Br ?_
      cases hr:AR (-1) 1 (AB b i)
      .refine wW ?_;exact⟨false,⟨by simp,λ_=>LU hi hr⟩,rfl⟩
      .refine wW ?_;exact⟨true,⟨λ_=>Bg (P.1 rfl) hr,by simp⟩,rfl⟩
    .cases x
     .simp(disch:=try exact dV) only[AD,Eb];simp[Ki,Lf,P.2 rfl]
     .have l:=KX (P.1 rfl);have B:Lf a b=true:=by simp[Lf,c,e,f,l]
      have k:=ZL (K:=K) h s (by omega);have H:=λy=>ANX (b:=b) (i:=Bj a b) (x:=(a,rep (Bj a b:Nat) 0)) (y:=y);have C:Bj a b=a.length+1-b.length:=rfl;simp only[Ki,B,if_true];refine wW ?_
      cases q:GH b (Bj a b) (a,rep (Bj a b:Nat) 0)with
      |none=>
       rw[q]at k
       refine cB k ?_
       simp(disch:=try exact dV) only[AD,Eb]
       rfl
      |some y=>
       rw[q]at k
       obtain⟨g,o⟩:=H y q
       simp only[Lg]at g o
       have T:=RA (p:=y.1)
       have G:=RA (p:=y.2)
       have I:=SZ (p:=y.1) y.1.length
       have J:=SZ (p:=y.2) y.2.length
       refine cW k ?_
       cases p1:DX (DM y.2)
       .repeat(refine cB (K0 (by omega)) ?_;try simp(disch:=try exact dV) only[AD,p1,Eb])
        all_goals rfl
       .cases p2:DX (DM y.1)
        .repeat(refine cB (by first|exact K0 (by omega)|exact K0 (by omega)|fail) ?_;try simp(disch:=try exact dV) only[AD,p1,p2,Eb])
         all_goals rfl
        .repeat(refine cB (by first|exact K0 (by omega)|exact K0 (by omega)|fail) ?_;try simp(disch:=try exact dV) only[AD,p1,p2])
         all_goals rfl
   .refine wW ?_;refine AN (λ_=>True) (λi=>[LI a,LI b,.u,.u,.u,.b false,.u,.u,.u,.u,LI b,.n b.length,.n i,.u,.u,.u]) b.length trivial rfl (λi hi _=>?_) (λ_=>?_)
    .exact wZ
    .simp(disch:=try exact dV) only[AD,Eb];simp[Ki,Lf,f]
end Go.Cat
namespace Go.Cat
variable{K:Nat->List D->List D->Prop}
theorem YB[HA K]{a b:List Int}(h:a.length<=1048576)(I:b.length<=1048576)(h0:1<=b.length):
  K 471 [LI a,LI b] [LI (DM (Ik b (Bj a b) (a,rep (Bj a b:Nat) 0)).2),LI (DM (Ik b (Bj a b) (a,rep (Bj a b:Nat) 0)).1)]:=by
 have C:(max 0 ((a.length:Int)-(b.length:Int)+1))=(Bj a b:Nat):=by simp only[Bj];omega
 have B:Bj a b=a.length+1-b.length:=rfl;refine qb I471 ?_;simp(disch:=try exact dV) only[AD,Eb,C];refine Bd (λ(x:Nat×List Int×List Int)=>x.1<=Bj a b/\x.2.1.length=a.length/\x.2.2.length=Bj a b/\Ik b x.1 x.2=Ik b (Bj a b) (a,rep (Bj a b:Nat) 0)) (λx=>[.u,LI b,.u,.u,LI x.2.1,LI x.2.2,.n ((x.1:Int)-1),.u,.u,.u,.u]) (λx=>x.1) (Bj a b,a,rep (Bj a b:Nat) 0) ⟨Nat.le_refl _,rfl,by simp[rep],rfl⟩ (by simp[rep]) ?_;rintro⟨i,l,q⟩ ⟨j,G,e,g⟩;simp only at j G e g|-
 cases i with
 |zero=>
  refine wW ?_
  refine cW (AM4 (by omega)) ?_
  refine cW (AM4 (by omega)) ?_
  rw[<-g]<;>rfl
 |succ i=>
  have f:((i+1:Nat):Int)-1=i:=by omega
  rw[f]
  refine wW ?_
  refine Pw (KT b (AB l ((i:Int)+b.length-1)) i) (λ_ (o:List Int)=>o.length=a.length) (λk o=>[.u,LI b,.u,.u,LI o,LI (BE q i (AB l ((i:Int)+b.length-1))),.n i,.n (AB l ((i:Int)+b.length-1)),.n k,.u,.u]) b.length l G rfl (λk s _ F=>by rw[Yp,F]) (λk O J H _=>?_) (λO c H=>?_)
  .simp(disch:=try exact dV) only[AD,KT]
  .refine wW ?_
   refine⟨(i,O,BE q i (AB l ((i:Int)+b.length-1))),by omega,⟨by omega,H,by rw[DN,e],?_⟩,by simp⟩
   rw[<-g]
   simp only[Ik]
   rw[c]<;>rfl
theorem Aj3[HA K]{n:Nat}(h:n<=1000):K 470 [.n n] [LI (rep (n:Nat) 1)]:=by
 refine qb I470 ?_;simp(disch:=try exact dV) only[AD,Eb];refine AN (λ_=>True) (λi=>[.n n,.u,LI (rep (i:Nat) 1),.n i,.u]) n trivial (by simp[rep]) (λi hi _=>?_) (λ_=>?_);have e:rep ((i:Int)+1) (1:Int)=rep (i:Nat) 1++[1]:=by rw[show(i:Int)+1=((i+1:Nat):Int) by omega];simp only[XD];rw[List.replicate_succ']
 refine wW ?_;rw[e];exact wZ
def QF(n:Int):Bool:=AR 0 20 n
def Oy(n:Int):List Int:=if QF n=true then rep n 1 else []
theorem np_i[HA K]{n:Int}:K 422 [.n n] [LI (Oy n),.b (QF n)]:=by
 refine qw I422 ?_;refine cB Br ?_
 cases h:AR 0 20 n;simp(disch:=try exact dV) only[AD,Eb];simp[Oy,QF,h];have H:=A7.1 h;obtain⟨m,rfl⟩:=CJ H.1;simp(disch:=try exact dV) only[AD,Eb];refine AN (λ_=>True) (λi=>[.u,.u,.u,LI (rep (i:Nat) 1),.u,.n m,.n i,.u]) m trivial (by simp[rep]) (λi hi _=>?_) (λ_=>?_);have e:rep ((i:Int)+1) (1:Int)=rep (i:Nat) 1++[1]:=by rw[show(i:Int)+1=((i+1:Nat):Int) by omega];simp only[XD];rw[List.replicate_succ']
 refine wW ?_;rw[e];refine wW ?_;simp[Oy,QF,h]
def Ek(p:List Int):List (List Nat):=p.map AQ
def Fg(p:List Int):List Nat:=if p.length=0\/DX p=false then [48]else glue [44] (Ek p)
theorem UW{p:List Int}(h:DX p=true):∀x∈Ek p,x.length<=20:=by intro x a;obtain⟨y,b,rfl⟩:=List.mem_map.1 a;obtain⟨j,H,rfl⟩:=List.mem_iff_getElem.1 b;have:=Uj h H;refine Aw ?_;simp only[AB,BM,Ap,Eg H,Option.getD_some]at this;omega
theorem ACY{p:List Int}{i:Nat}(h:i<p.length):AF (Ek p) i=AQ (AB p i):=by simp[AF,Ek,AB,h]
theorem Ak1{p:List Int}{i:Nat}(h:i<p.length):(Ek p).take (i+1)=(Ek p).take i++[AQ (AB p i)]:=by rw[CQ (by simpa[Ek]using h)];simp[Ek,AB,h]
theorem WX{p:List Int}:(Ek p).length=p.length:=by simp[Ek]
theorem AXM[HA K]{p:List Int}(h:p.length<=1048576):K 430 [LI p] [.s (Fg p)]:=by
 refine qb I430 ?_;by_cases h0:p.length=0;simp(disch:=try exact dV) only[AD,h0];simp[Fg,h0];refine wW ?_
 cases H:DX p
 .repeat(refine cB (K0 (by omega)) ?_;try simp(disch:=try exact dV) only[AD,H])
  simp[Fg,H]
 have l:=AQB H;have e:=WX (p:=p);repeat(refine cB (K0 (by omega)) ?_;try simp(disch:=try exact dV) only[AD,H])
 rw[Ma];refine AN (λ_=>True) (λi=>[.u,.u,LS ((Ek p).take i),.u,.u,LI p,.n p.length,.n i,.u]) p.length trivial (by simp) (λi hi _=>?_) (λ_=>?_);have c:((Ek p).take i).length=i:=by simp;omega
 have b:=Uj H hi;rw[Ak1 hi];refine wW ?_;exact cZ (C8 (by omega));rw[List.take_of_length_le (by omega)];refine wW ?_;have k:=JW (K:=K) (ws:=Ek p) (sep:=[44]) (by omega) (λx a=>by have:=UW H x a;omega) (by simp);refine cW k ?_;simp[Fg,h0,H]
theorem AaD{n:Int}:AQ n≠[]:=by unfold AQ;split;simp;split;simp;rename_i h0 _;rw[Hf (by omega)];simp
theorem AjE[HA K]{p:List Int}(h:p.length<=1048576):K 431 [LI p] [.s (Fg p)]:=by
 refine qw I431 ?_
 cases H:DX p
 .by_cases h0:p.length=0;refine Bd (λ(_:Unit)=>True) (λ_=>[LI p,.u,.s [],.n 0,.u,.u,.u]) (λ_=>0) () trivial rfl (λ_ _=>?_);simp(disch:=try exact dV) only[AD,h0];simp[Fg,h0];refine Bd (λ(_:Unit)=>True) (λ_=>[LI p,.u,.s [],.n 0,.u,.u,.u]) (λ_=>0) () trivial rfl (λ_ _=>?_);refine wW ?_;repeat(refine cB (VC (by omega)) ?_;try simp(disch:=try exact dV) only[AD,H])
  simp[Fg,H]
 have l:=AQB H;have c:=WX (p:=p);refine AN (λ_=>True) (λi=>[LI p,.u,.s (BH [44] (Ek p) i),.n i,.u,.u,.u]) p.length trivial rfl (λi hi _=>?_) (λ_=>?_);have j:=Uj H hi;have b1:=IN (sep:=[44]) (UW H) i;have b2:=Aw (n:=AB p i) (by omega);have B:i*(20+[44].length)<=61*21:=Nat.mul_le_mul (by omega) (by simp);have e:=ACY hi;refine wW ?_;refine cB (VC (by omega)) ?_;by_cases q:0<i;simp(disch:=try exact dV) only[AD,H];refine cW (CB (by omega)) ?_;simp only[BH,if_pos q,e];simp(disch:=try exact dV) only[AD,H];refine cW (CB (by omega)) ?_;simp only[BH,if_neg q,e,List.append_nil];by_cases h0:p.length=0;have e:BH [44] (Ek p) p.length=[]:=by rw[h0];rfl
 rw[e];simp(disch:=try exact dV) only[AD,h0];simp[Fg,h0];have e:(BH [44] (Ek p) p.length==[])=false:=by refine beq_eq_false_iff_ne.2 ?_;obtain⟨m,b⟩:∃m,p.length=m+1:=⟨p.length-1,by omega⟩;rw[b,BH,ACY (by omega)];intro q;have:=congrArg List.length q;simp only[AW,A5]at this;have a:=AaD (n:=AB p m);have f:(AQ (AB p m)).length≠0:=λq=>a (Dy q);omega
 simp(disch:=try exact dV) only[AD,e];have g:glue [44] (Ek p)=BH [44] (Ek p) p.length:=by rw[glue,c]
 simp[Fg,h0,H,g]
end Go.Cat
namespace Go.Cat
theorem LN{p:List Int}{k:Nat}(h:p.length<=k):AB p k=0:=by simp[AB,h]
end Go.Cat
