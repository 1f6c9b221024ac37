/-
 Plane trees: parents in preorder.
-/
import Derived.Test.YthoilpmggmenbaaGreatPfLFCl
set_option linter.unusedSimpArgs false
set_option linter.unusedVariables false
namespace Go.Cat
variable{K:Nat->List D->List D->Prop}
def GL:List Nat->List Int->List Int->List Int
 |[],out,_=>out
 |c::w,out,st=>if c=100 then GL w out st.tail else GL w (out++[st.headD 0]) ((out.length:Int)::st)
def Cp(w:List Nat):List Int:=GL w [-1] [0]
theorem Vo:∀{w:List Nat}{out st:List Int},out.length<=(GL w out st).length/\(GL w out st).length<=out.length+w.length
 |[],_,_=>by simp[GL]
 |c::w,out,st=>by unfold GL;split;have:=Vo (w:=w) (out:=out) (st:=st.tail);simp only[AO];omega;have:=Vo (w:=w) (out:=out++[st.headD 0]) (st:=(out.length:Int)::st);simp only[AO,A4,A6]at this|-;omega
theorem ABX[HA K]{w:List Nat}(hd:AK w=true):K 510 [.s w] [LI (Cp w),.b true]:=by
 have a:=Af hd;have C:=a.l;refine qw I510 ?_;repeat(refine cB (Bv (by omega)) ?_;try simp(disch:=try exact dV) only[AD,hd])
 refine Aj (λi (x:List Int×List Int)=>GL (w.drop i) x.1 x.2=Cp w/\(x.2.length:Int)=Hh w i+1/\x.1.length<=i+1/\1<=x.1.length) (λi x=>[.s w,.u,.u,LI x.1,LI x.2.reverse,.n i,.u,.u,.u]) w.length ([-1],[0]) ⟨by simp[Cp],by simp[FW],by simp,by simp⟩ rfl (λi x hi P=>?_) (λx P=>?_);obtain⟨out,st⟩:=x;obtain⟨g,G,o,c⟩:=P;simp only at g G o c;rw[EF hi]at g;have B:=HE (w:=w) (i:=i);have q:=a.h0 (i+1) (by omega);have h0:=a.h0 i (by omega)
 cases st with
 |nil=>simp at G;omega
 |cons x t=>
  have H:(t.reverse).length=t.length:=by simp
  have f:AB (t.reverse++[x]) t.length=x:=by rw[<-H];exact Kr
  have j:sub (t.reverse++[x]) 0 t.length=t.reverse:=by rw[<-H];exact L7
  have e:(((t.reverse++[x]).length:Nat):Int)=(t.length:Int)+1:=by simp
  simp only[AO]at G
  simp only[List.reverse_cons]
  rcases a.ud i hi with h|h
  .have k:=GN hi h
   rw[h]at g
   simp only[GL,List.headD_cons]at g
   rw[if_neg (by omega)]at g
   simp(disch:=try exact dV) only[AD,h,e,f,Bm]
   refine⟨(out++[x],(out.length:Int)::x::t),⟨g,by simp;omega,by simp;omega,by simp⟩,?_⟩
   simp
  .have k:=FO hi h
   rw[h]at g
   simp only[GL,if_true,List.tail_cons]at g
   simp(disch:=try exact dV) only[AD,h,e,j,Bm]
   exact⟨(out,t),⟨g,by simp only;omega,by simp only;omega,c⟩,rfl⟩
 obtain⟨out,st⟩:=x;obtain⟨g,_⟩:=P;rw[List.drop_length]at g;simp only[GL]at g;refine wW ?_;rw[<-g]
def CH(out:List Int):List Int->Prop
 |[]=>True
 |[x]=>0<=x/\x<out.length
 |x::y::t=>(0<=x/\x<out.length/\AB out x=y)/\CH out (y::t)
theorem AVY{out:List Int}{x z:Int}(h:0<=x/\x<out.length):AB (out++[z]) x=AB out x:=by simp only[AB,Ap];rw[DW (by omega)]
theorem AOG{out:List Int}{q:Int}:∀{st:List Int},CH out st->CH (out++[q]) st
 |[],_=>trivial
 |[x],h=>by simp only[CH,A4,AO,A6]at h|-;omega
 |x::y::t,h=>by obtain⟨⟨H,a,b⟩,c⟩:=h;refine⟨⟨H,by simp;omega,?_⟩,AOG c⟩;rw[AVY ⟨H,a⟩,b]
theorem Ag8{out:List Int}{x:Int}{t:List Int}(h:CH out (x::t)):0<=x/\x<out.length:=by
 cases t with
 |nil=>exact h
 |cons y t=>exact⟨h.1.1,h.1.2.1⟩
theorem AOE[HA K]{w:List Nat}(hd:AK w=true):K 299 [.s w] [LI (Cp w),.b true]:=by
 have H:=Af hd;have q:=H.l;refine qw I299 ?_;refine Aj (λi (x:List Int×Int×List Int)=>GL (w.drop i) x.1 (x.2.1::x.2.2)=Cp w/\(x.2.2.length:Int)=Hh w i/\x.1.length<=i+1/\CH x.1 (x.2.1::x.2.2)) (λi x=>[.s w,.u,.u,LI x.1,.n x.2.1,.n i,.u,.u,.u]) w.length ([-1],0,[]) ⟨by simp[Cp],by simp[FW],by simp,by simp[CH]⟩ rfl (λi x hi P=>?_) (λx P=>?_)
 .obtain⟨out,x,t⟩:=x;obtain⟨g,a,c,G⟩:=P;simp only at g a c G;rw[EF hi]at g;have B:=Ag8 G;have o:=HE (w:=w) (i:=i);have k:=H.h0 (i+1) (by omega);rcases H.ud i hi with h|h
  .have e:=GN hi h;rw[h]at g;simp only[GL,List.headD_cons]at g;rw[if_neg (by omega)]at g;refine wW ?_;repeat(refine cB (Br (by omega)) ?_;try simp(disch:=try exact dV) only[AD,hd,h])
   refine⟨(out++[x],(out.length:Int),x::t),⟨g,by simp;omega,by simp;omega,?_⟩,?_⟩;refine⟨⟨by show(0:Int)<=(out.length:Int);omega,by show((out.length:Nat):Int)<(((out++[x]).length:Nat):Int);simp;omega,?_⟩,AOG G⟩;simp[AB];simp
  have e:=FO hi h;rw[h]at g;simp only[GL,if_true,List.tail_cons]at g
  cases t with
  |nil=>simp at a;omega
  |cons y t=>
   obtain⟨⟨_,_,j⟩,f⟩:=G
   simp only[AO]at a
   refine wW ?_
   repeat(refine cB (Br (by omega)) ?_;try simp(disch:=try exact dV) only[AD,hd,h])
   exact⟨(out,y,t),⟨g,by simp only;omega,by simp only;omega,f⟩,by rw[j]⟩
 obtain⟨out,x,t⟩:=x;obtain⟨g,_⟩:=P;rw[List.drop_length]at g;simp only[GL]at g;refine wW ?_;repeat(refine cB (Br (by omega)) ?_;try simp(disch:=try exact dV) only[AD,hd])
 rw[<-g]
def Gu(p:List Int):Nat->Int->Int->Bool
 |0,_,_=>false
 |f+1,v,t=>if v<0 then false else if v=t then true else Gu p f (AB p v) t
def IC(p:List Int)(i:Nat):Prop:=∀j:Nat,j<i->(j=0/\AB p 0=-1)\/(0<j/\Gu p (j+1) ((j:Int)-1) (AB p j)=true)
instance{p:List Int}{i:Nat}:Decidable (IC p i):=by unfold IC;infer_instance
def CB(p:List Int):Bool:=AR 1 9 p.length&&decide (IC p p.length)
theorem TN{p:List Int}{i:Nat}(a:∀j:Nat,j<i->-1<=AB p j/\AB p j<j):∀(f:Nat)(v t:Int),v<i->Gu p f v t=true->0<=t/\t<=v
 |0,_,_,_,h=>by simp[Gu]at h
 |f+1,v,t,b,h=>by
  unfold Gu at h;split at h
  cases h;rename_i h0;split at h;omega;obtain⟨n,rfl⟩:=CE (show 0<=v by omega);have H:=a n (by omega);have H:-1<=AB p (n:Nat)/\AB p (n:Nat)<n:=H;have:=TN a f (AB p (n:Nat)) t (by omega) h;have e:(Int.ofNat n)=(n:Int):=rfl;omega
theorem Nl{p:List Int}:∀{i:Nat},IC p i->∀j:Nat,j<i->-1<=AB p j/\AB p j<j
 |0,_,j,h=>by omega
 |i+1,H,j,h=>by
  have I:=Nl (p:=p) (i:=i) (λj c=>H j (by omega));rcases BS j i with q|q;exact I j q;obtain rfl:j=i:=by omega
  rcases H j (by omega)with⟨rfl,h0⟩|⟨h0,b⟩
  have a:AB p ((0:Nat):Int)=-1:=h0;omega;have:=TN I (j+1) _ _ (by omega) b;omega
theorem WW[HA K]{p:List Int}(h:p.length<=1099511627776):K 516 [LI p] [.b (CB p)]:=by
 refine qw I516 ?_;refine cB Bq ?_
 cases c:AR 1 9 (p.length:Int);refine wW ?_;simp[CB,c];have C:=A5.1 c;by_cases h0:AB p 0=-1;simp(disch:=omega) only[AD,h0];refine Aj (λi (_:Unit)=>IC p (i+1)) (λi _=>[LI p,.u,.n ((i:Int)+1),.u,.u,.u,.u,.u]) (p.length-1) () (λj F=>.inl ⟨by omega,h0⟩) rfl (λi _ hi P=>?_) (λ_ P=>?_);have k:=Nl P;obtain⟨R,a⟩:∃R,R=Gu p (i+2) ((i:Int)) (AB p ((i:Int)+1)):=⟨_,rfl⟩;simp(disch:=omega) only[AD,Bm];refine Bj (λ(x:Nat×Int)=>(-1<=x.2/\x.2<=i)/\x.2+2<=x.1/\Gu p x.1 x.2 (AB p ((i:Int)+1))=R) (λx=>[LI p,.u,.n ((i:Int)+1),.n x.2,.u,.u,.u,.u]) (λx=>x.1) (i+2,(i:Int)) ⟨by show -1<=(i:Int)/\(i:Int)<=i;omega,by show(i:Int)+2<=((i+2:Nat):Int);omega,a.symm⟩ rfl ?_;rintro⟨f,v⟩ ⟨G,s,g⟩;simp only at G s g|-
 cases f with
 |zero=>omega
 |succ f=>
  unfold Gu at g
  by_cases o:v<0
  .rw[if_pos o]at g
   refine wW ?_
   rw[show CB p=false from ?_]
   refine Bool.eq_false_iff.2 λq=>?_
   simp only[CB,AV,Aa]at q
   rcases q.2 (i+1) (by omega)with⟨B,_⟩|⟨_,Q⟩
   .omega
   .rw[show((i+1:Nat):Int)=(i:Int)+1 by omega,Bm,<-a,<-g]at Q
    cases Q
  .rw[if_neg o]at g
   by_cases H:v=AB p ((i:Int)+1)
   .rw[if_pos H]at g
    simp(disch:=omega) only[AD,<-H]
    refine⟨(),Bf P (.inr ⟨by omega,?_⟩)⟩
    rw[show((i+1:Nat):Int)=(i:Int)+1 by omega,Bm,<-a,<-g]
   .rw[if_neg H]at g
    obtain⟨n,rfl⟩:=CE (show 0<=v by omega)
    have l:=k n (by omega)
    have l:-1<=AB p (n:Nat)/\AB p (n:Nat)<n:=l
    refine wW ?_
    exact⟨(f,AB p (n:Nat)),by show f<f+1;omega,⟨by simp only;omega,by simp only;omega,g⟩,rfl⟩
 have e:p.length-1+1=p.length:=by omega
 rw[e]at P;refine wW ?_;simp[CB,c,P];refine wW ?_;rw[show CB p=false from ?_];refine Bool.eq_false_iff.2 λq=>?_;simp only[CB,AV,Aa]at q;rcases q.2 0 (by omega)with⟨_,Q⟩|⟨B,_⟩;exact h0 Q;omega
theorem Jy[HA K]{p:List Int}(h:p.length<=1099511627776):K 321 [LI p] [.b (CB p)]:=by
 have o:∀{i:Nat},i<p.length->¬((i=0/\AB p 0=-1)\/(0<i/\Gu p (i+1) ((i:Int)-1) (AB p i)=true))->CB p=false:=by intro i hi q;refine Bool.eq_false_iff.2 λQ=>?_;simp only[CB,AV,Aa]at Q;exact q (Q.2 i hi)
 refine qw I321 ?_;refine AN (λi=>IC p i) (λi=>[LI p,.u,.n i,.u,.u,.u,.u,.u,.u]) p.length (by simp[IC]) rfl (λi hi P=>?_) (λP=>?_);have c:=Nl P;by_cases a:i=0;subst a;by_cases h0:AB p 0=-1;simp(disch:=omega) only[AD,h0];refine Bj (λ(_:Unit)=>True) (λ_=>[LI p,.u,.n 0,.b true,.n (-1),.u,.u,.u,.u]) (λ_=>0) () trivial rfl (λ_ _=>?_);refine wW ?_;exact Bf P (.inl ⟨rfl,h0⟩);rw[o hi λq=>by rcases q with q|q;exact h0 q.2;omega];exact wZ;refine wW ?_;refine cB Bt ?_
 cases hr:AR 0 ((i:Int)-1) (AB p i);rw[o hi λq=>by
  rcases q with q|q
  .exact a q.1
  .have:=TN c (i+1) _ _ (by omega) q.2;rw[JB]at hr;omega]
 exact wZ;have B:=A5.1 hr;obtain⟨R,j⟩:∃R,R=Gu p (i+1) ((i:Int)-1) (AB p i):=⟨_,rfl⟩;refine wW ?_;refine Bj (λ(x:Nat×Int×Bool)=>(-1<=x.2.1/\x.2.1<i)/\x.2.1+2<=x.1/\(x.2.2||Gu p x.1 x.2.1 (AB p i))=R) (λx=>[LI p,.u,.n i,.b x.2.2,.n x.2.1,.u,.u,.u,.u]) (λx=>x.1) (i+1,(i:Int)-1,false) ⟨by show -1<=(i:Int)-1/\(i:Int)-1<i;omega,by show(i:Int)-1+2<=((i+1:Nat):Int);omega,by rw[j];rfl⟩ rfl ?_;rintro⟨f,v,e⟩ ⟨G,s,g⟩;simp only at G s g|-
 cases f with
 |zero=>omega
 |succ f=>
  unfold Gu at g
  by_cases l:v<0
  .rw[if_pos l,Bool.or_false]at g
   subst g
   cases e
   .refine wW ?_
    rw[o hi λq=>by
     rcases q with q|q
     .exact a q.1
     .rw[q.2]at j;cases j]
   .refine wW ?_
    exact Bf P (.inr ⟨by omega,j.symm⟩)
  .rw[if_neg l]at g
   obtain⟨n,rfl⟩:=CE (show 0<=v by omega)
   have k:=c n (by omega)
   have k:-1<=AB p (n:Nat)/\AB p (n:Nat)<n:=k
   have key:((e||decide (((n:Nat):Int)=AB p i))||Gu p f (AB p (n:Nat)) (AB p i))=R:=by
    rw[<-g]
    by_cases H:((n:Nat):Int)=AB p i
    .rw[if_pos H];simp[H]
    .rw[if_neg H];simp[H]
   cases e
   .by_cases H:((n:Nat):Int)=AB p i
    .refine wW ?_
     exact⟨(f,AB p (n:Nat),true),by show f<f+1;omega,⟨by simp only;omega,by simp only;omega,by rw[<-key];simp[H]⟩,rfl⟩
    .refine wW ?_
     exact⟨(f,AB p (n:Nat),false),by show f<f+1;omega,⟨by simp only;omega,by simp only;omega,by rw[<-key];simp[H]⟩,rfl⟩
   .refine wW ?_
    exact⟨(f,AB p (n:Nat),true),by show f<f+1;omega,⟨by simp only;omega,by simp only;omega,by rw[<-key];simp⟩,rfl⟩
 refine wW ?_;refine cW Bt ?_;simp[CB,P]
def DZ(p:List Int)(v:Int):Nat->List Int
 |0=>[]
 |i+1=>if AB p i=v then DZ p v i++[(i:Int)]else DZ p v i
theorem X2{p:List Int}{v:Int}:∀i,(DZ p v i).length<=i
 |0=>by simp[DZ]
 |i+1=>by have:=X2 (p:=p) (v:=v) i;unfold DZ;split<;>simp<;>omega
theorem Xv:D.l []=LI []:=rfl
theorem chi[HA K]{p:List Int}{v:Int}(h:p.length<=1048576)(H:CB p=true)(a:0<=v):K 517 [LI p,.n v] [LI (DZ p v p.length)]:=by
 refine qw I517 ?_;repeat(refine cB (WW (by omega)) ?_;try simp(disch:=try exact dV) only[AD,H])
 rw[Xv];refine AN (λ_=>True) (λi=>[.u,.n v,.u,LI (DZ p v i),.u,.u,.u,LI p,.n p.length,.n i,.u,.u]) p.length trivial rfl (λi hi _=>?_) (λ_=>?_);have l:=X2 (p:=p) (v:=v) i;by_cases he:AB p i=v;simp only[DZ,if_pos he];simp(disch:=try exact dV) only[AD,he];simp only[DZ,if_neg he];exact wZ;exact wZ
theorem chs[HA K]{p:List Int}{v:Int}(h:p.length<=1048576)(H:CB p=true)(g:0<=v):K 322 [LI p,.n v] [LI (DZ p v p.length)]:=by
 simp only[CB,AV,Aa]at H;have f:=A5.1 H.1;have h0:AB p 0=-1:=by
  rcases H.2 0 (by omega)with q|q
  exact q.2;omega
 have H:CB p=true:=by simp[CB,H]
 have b:DZ p v 1=[]:=by have e:AB p ((0:Nat):Int)=-1:=h0;simp only[DZ];rw[if_neg (by omega)]
 refine qw I322 ?_;rw[Xv];refine AN (λ_=>True) (λi=>[LI p,.n v,.u,LI (DZ p v (i+1)),.n ((i:Int)+1),.u,.u]) (p.length-1) trivial (by rw[b];rfl) (λi hi _=>?_) (λ_=>?_)
 .have l:=X2 (p:=p) (v:=v) (i+1);have c:((i+1:Nat):Int)=(i:Int)+1:=by omega
  by_cases he:AB p ((i:Int)+1)=v
  .have a:DZ p v (i+1+1)=DZ p v (i+1)++[(i:Int)+1]:=by
    rw[DZ,c,if_pos he]
   rw[a]
   refine wW ?_
   repeat(refine cB (Jy (by omega)) ?_;try simp(disch:=try exact dV) only[AD,H,he])
  have a:DZ p v (i+1+1)=DZ p v (i+1):=by rw[DZ,c,if_neg he]
  rw[a];refine wW ?_;repeat(refine cB (Jy (by omega)) ?_;try simp(disch:=try exact dV) only[AD,H])
 have e:p.length-1+1=p.length:=by omega
 rw[e];exact wZ
def HN(p:List Int)(i:Nat):Nat:=CX (λv=>if CB p=true/\(DZ p v p.length).length=0 then 1 else 0) i
theorem Uq{p:List Int}{i:Nat}:HN p i<=i:=by have:=Kl (g:=λv:Nat=>if CB p=true/\(DZ p v p.length).length=0 then 1 else 0) (b:=1) (λj=>by split<;>omega) i;unfold HN;omega
theorem AgI[HA K]{p:List Int}(h:p.length<=1048576):K 511 [LI p] [.n (HN p p.length)]:=by
 refine qw I511 ?_;refine AN (λ_=>True) (λi=>[LI p,.u,.n (HN p i),.u,.n p.length,.n i,.u,.u]) p.length trivial rfl (λi hi _=>?_) (λ_=>?_)
 .have b:=Uq (p:=p) (i:=i);have e:HN p (i+1)=HN p i+(if CB p=true/\(DZ p i p.length).length=0 then 1 else 0):=rfl;refine wW ?_;refine cB (WW (by omega)) ?_
  cases hp:CB p;rw[e,hp,if_neg (by simp)];refine wW ?_;simp;refine wW ?_;refine cB (chi h hp (by omega)) ?_;by_cases h0:(DZ p i p.length).length=0
  .rw[e,hp,if_pos ⟨rfl,h0⟩];simp(disch:=omega) only[AD,h0];all_goals simp
  rw[e,hp,if_neg λq=>h0 q.2];refine wW ?_;all_goals simp
 exact wZ
theorem AXG[HA K]{p:List Int}(h:p.length<=1048576):K 300 [LI p] [.n (HN p p.length)]:=by
 refine qw I300 ?_
 cases H:CB p
 .have e:HN p p.length=0:=Ot λi hi=>if_neg (by rw[H];simp);rw[e];refine Bj (λ(_:Unit)=>True) (λ_=>[LI p,.u,.n 0,.n 0,.u,.u]) (λ_=>0) () trivial rfl (λ_ _=>?_);by_cases h0:0<p.length
  .refine wW ?_;repeat(refine cB (Jy (by omega)) ?_;try simp(disch:=omega) only[AD,H])
  exact wZ
 refine AN (λ_=>True) (λi=>[LI p,.u,.n (HN p i),.n i,.u,.u]) p.length trivial rfl (λi hi _=>?_) (λ_=>?_)
 .have b:=Uq (p:=p) (i:=i);have a:HN p (i+1)=HN p i+(if CB p=true/\(DZ p i p.length).length=0 then 1 else 0):=rfl;refine wW ?_;repeat(refine cB (Jy (by omega)) ?_;try simp(disch:=omega) only[AD,H])
  refine cB (chs h H (by omega)) ?_;by_cases h0:(DZ p i p.length).length=0
  .rw[a,H,if_pos ⟨rfl,h0⟩];simp(disch:=omega) only[AD,h0];all_goals simp
  rw[a,H,if_neg λq=>h0 q.2];refine wW ?_;all_goals simp
 exact wZ
end Go.Cat
