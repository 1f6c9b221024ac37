/-
 Plane trees: parents in preorder.
-/
import Derived.Test.YthoilpmggmenbaaGreatPfLFCl
set_option linter.unusedSimpArgs false
set_option linter.unusedVariables false
namespace Go.Cat
variable{K:Nat->List D->List D->Prop}
def F3:List Nat->List Int->List Int->List Int
 |[],out,_=>out
 |c::w,out,st=>if c=100 then F3 w out st.tail else F3 w (out++[st.headD 0]) ((out.length:Int)::st)
def Ca(w:List Nat):List Int:=F3 w [-1] [0]
theorem Ui:∀{w:List Nat}{out st:List Int},out.length<=(F3 w out st).length/\(F3 w out st).length<=out.length+w.length
 |[],_,_=>by simp[F3]
 |c::w,out,st=>by unfold F3;split;have:=Ui (w:=w) (out:=out) (st:=st.tail);simp only[AO];omega;have:=Ui (w:=w) (out:=out++[st.headD 0]) (st:=(out.length:Int)::st);simp only[AO,AZ,Aa]at this|-;omega
theorem Y9[HA K]{w:List Nat}(hd:AK w=true):K 510 [.s w] [LI (Ca w),.b true]:=by
 have a:=A8 hd;have C:=a.l;refine qw I510 ?_;repeat(refine cB (Bf (by omega)) ?_;try simp(disch:=try exact dV) only[AD,hd])
 refine BE (λi (x:List Int×List Int)=>F3 (w.drop i) x.1 x.2=Ca w/\(x.2.length:Int)=Hh w i+1/\x.1.length<=i+1/\1<=x.1.length) (λi x=>[.s w,.u,.u,LI x.1,LI x.2.reverse,.n i,.u,.u,.u]) w.length ([-1],[0]) ⟨by simp[Ca],by simp[Ef],by simp,by simp⟩ rfl (λi x hi P=>?_) (λx P=>?_);obtain⟨out,st⟩:=x;obtain⟨g,G,o,c⟩:=P;simp only at g G o c;rw[EJ hi]at g;have B:=Fx (w:=w) (i:=i);have q:=a.h0 (i+1) (by omega);have h0:=a.h0 i (by omega)
 cases st with
 |nil=>simp at G;omega
 |cons x t=>
  have H:(t.reverse).length=t.length:=by simp
  have f:AB (t.reverse++[x]) t.length=x:=by rw[<-H];exact NH
  have j:sub (t.reverse++[x]) 0 t.length=t.reverse:=by rw[<-H];exact Mh
  have e:(((t.reverse++[x]).length:Nat):Int)=(t.length:Int)+1:=by simp
  simp only[AO]at G
  simp only[List.reverse_cons]
  rcases a.ud i hi with h|h
  .have k:=F6 hi h
   rw[h]at g
   simp only[F3,List.headD_cons]at g
   rw[if_neg (by omega)]at g
   simp(disch:=try exact dV) only[AD,h,e,f,Bl]
   refine⟨(out++[x],(out.length:Int)::x::t),⟨g,by simp;omega,by simp;omega,by simp⟩,?_⟩
   simp
  .have k:=Ej hi h
   rw[h]at g
   simp only[F3,if_true,List.tail_cons]at g
   simp(disch:=try exact dV) only[AD,h,e,j,Bl]
   exact⟨(out,t),⟨g,by simp only;omega,by simp only;omega,c⟩,rfl⟩
 obtain⟨out,st⟩:=x;obtain⟨g,_⟩:=P;rw[List.drop_length]at g;simp only[F3]at g;refine wW ?_;rw[<-g]
def CH(out:List Int):List Int->Prop
 |[]=>True
 |[x]=>0<=x/\x<out.length
 |x::y::t=>(0<=x/\x<out.length/\AB out x=y)/\CH out (y::t)
theorem ATE{out:List Int}{x z:Int}(h:0<=x/\x<out.length):AB (out++[z]) x=AB out x:=by simp only[AB,Ap];rw[DP (by omega)]
theorem XB{out:List Int}{q:Int}:∀{st:List Int},CH out st->CH (out++[q]) st
 |[],_=>trivial
 |[x],h=>by simp only[CH,AZ,AO,Aa]at h|-;omega
 |x::y::t,h=>by obtain⟨⟨H,a,b⟩,c⟩:=h;refine⟨⟨H,by simp;omega,?_⟩,XB c⟩;rw[ATE ⟨H,a⟩,b]
theorem AQQ{out:List Int}{x:Int}{t:List Int}(h:CH out (x::t)):0<=x/\x<out.length:=by
 cases t with
 |nil=>exact h
 |cons y t=>exact⟨h.1.1,h.1.2.1⟩
theorem Zs[HA K]{w:List Nat}(hd:AK w=true):K 299 [.s w] [LI (Ca w),.b true]:=by
 have H:=A8 hd;have q:=H.l;refine qw I299 ?_;refine BE (λi (x:List Int×Int×List Int)=>F3 (w.drop i) x.1 (x.2.1::x.2.2)=Ca w/\(x.2.2.length:Int)=Hh w i/\x.1.length<=i+1/\CH x.1 (x.2.1::x.2.2)) (λi x=>[.s w,.u,.u,LI x.1,.n x.2.1,.n i,.u,.u,.u]) w.length ([-1],0,[]) ⟨by simp[Ca],by simp[Ef],by simp,by simp[CH]⟩ rfl (λi x hi P=>?_) (λx P=>?_)
 .obtain⟨out,x,t⟩:=x;obtain⟨g,a,c,G⟩:=P;simp only at g a c G;rw[EJ hi]at g;have B:=AQQ G;have o:=Fx (w:=w) (i:=i);have k:=H.h0 (i+1) (by omega);rcases H.ud i hi with h|h
  .have e:=F6 hi h;rw[h]at g;simp only[F3,List.headD_cons]at g;rw[if_neg (by omega)]at g;refine wW ?_;repeat(refine cB (By (by omega)) ?_;try simp(disch:=try exact dV) only[AD,hd,h])
   refine⟨(out++[x],(out.length:Int),x::t),⟨g,by simp;omega,by simp;omega,?_⟩,?_⟩;refine⟨⟨by show(0:Int)<=(out.length:Int);omega,by show((out.length:Nat):Int)<(((out++[x]).length:Nat):Int);simp;omega,?_⟩,XB G⟩;simp[AB];simp
  have e:=Ej hi h;rw[h]at g;simp only[F3,if_true,List.tail_cons]at g
  cases t with
  |nil=>simp at a;omega
  |cons y t=>
   obtain⟨⟨_,_,j⟩,f⟩:=G
   simp only[AO]at a
   refine wW ?_
   repeat(refine cB (By (by omega)) ?_;try simp(disch:=try exact dV) only[AD,hd,h])
   exact⟨(out,y,t),⟨g,by simp only;omega,by simp only;omega,f⟩,by rw[j]⟩
 obtain⟨out,x,t⟩:=x;obtain⟨g,_⟩:=P;rw[List.drop_length]at g;simp only[F3]at g;refine wW ?_;repeat(refine cB (By (by omega)) ?_;try simp(disch:=try exact dV) only[AD,hd])
 rw[<-g]
def GH(p:List Int):Nat->Int->Int->Bool
 |0,_,_=>false
 |f+1,v,t=>if v<0 then false else if v=t then true else GH p f (AB p v) t
def Gi(p:List Int)(i:Nat):Prop:=∀j:Nat,j<i->(j=0/\AB p 0=-1)\/(0<j/\GH p (j+1) ((j:Int)-1) (AB p j)=true)
instance{p:List Int}{i:Nat}:Decidable (Gi p i):=by unfold Gi;infer_instance
def CY(p:List Int):Bool:=A4 1 9 p.length&&decide (Gi p p.length)
theorem PG{p:List Int}{i:Nat}(a:∀j:Nat,j<i->-1<=AB p j/\AB p j<j):∀(f:Nat)(v t:Int),v<i->GH p f v t=true->0<=t/\t<=v
 |0,_,_,_,h=>by simp[GH]at h
 |f+1,v,t,b,h=>by
  unfold GH at h;split at h
  cases h;rename_i h0;split at h;omega;obtain⟨n,rfl⟩:=CZ (show 0<=v by omega);have H:=a n (by omega);have H:-1<=AB p (n:Nat)/\AB p (n:Nat)<n:=H;have:=PG a f (AB p (n:Nat)) t (by omega) h;have e:(Int.ofNat n)=(n:Int):=rfl;omega
theorem LX{p:List Int}:∀{i:Nat},Gi p i->∀j:Nat,j<i->-1<=AB p j/\AB p j<j
 |0,_,j,h=>by omega
 |i+1,H,j,h=>by
  have I:=LX (p:=p) (i:=i) (λj c=>H j (by omega));rcases B7 j i with q|q;exact I j q;obtain rfl:j=i:=by omega
  rcases H j (by omega)with⟨rfl,h0⟩|⟨h0,b⟩
  have a:AB p ((0:Nat):Int)=-1:=h0;omega;have:=PG I (j+1) _ _ (by omega) b;omega
theorem Rv[HA K]{p:List Int}(h:p.length<=1099511627776):K 516 [LI p] [.b (CY p)]:=by
 refine qw I516 ?_;refine cB CN ?_
 cases c:A4 1 9 (p.length:Int);refine wW ?_;simp[CY,c];have C:=Af.1 c;by_cases h0:AB p 0=-1;simp(disch:=omega) only[AD,h0];refine BE (λi (_:Unit)=>Gi p (i+1)) (λi _=>[LI p,.u,.n ((i:Int)+1),.u,.u,.u,.u,.u]) (p.length-1) () (λj F=>.inl ⟨by omega,h0⟩) rfl (λi _ hi P=>?_) (λ_ P=>?_);have k:=LX P;obtain⟨R,a⟩:∃R,R=GH p (i+2) ((i:Int)) (AB p ((i:Int)+1)):=⟨_,rfl⟩;simp(disch:=omega) only[AD,Bl];refine Bd (λ(x:Nat×Int)=>(-1<=x.2/\x.2<=i)/\x.2+2<=x.1/\GH p x.1 x.2 (AB p ((i:Int)+1))=R) (λx=>[LI p,.u,.n ((i:Int)+1),.n x.2,.u,.u,.u,.u]) (λx=>x.1) (i+2,(i:Int)) ⟨by show -1<=(i:Int)/\(i:Int)<=i;omega,by show(i:Int)+2<=((i+2:Nat):Int);omega,a.symm⟩ rfl ?_;rintro⟨f,v⟩ ⟨G,s,g⟩;simp only at G s g|-
 cases f with
 |zero=>omega
 |succ f=>
  unfold GH at g
  by_cases o:v<0
  .rw[if_pos o]at g
   refine wW ?_
   rw[show CY p=false from ?_]
   refine Bool.eq_false_iff.2 λq=>?_
   simp only[CY,AU,Ad]at q
   rcases q.2 (i+1) (by omega)with⟨B,_⟩|⟨_,Q⟩
   .omega
   .rw[show((i+1:Nat):Int)=(i:Int)+1 by omega,Bl,<-a,<-g]at Q
    cases Q
  .rw[if_neg o]at g
   by_cases H:v=AB p ((i:Int)+1)
   .rw[if_pos H]at g
    simp(disch:=omega) only[AD,<-H]
    refine⟨(),Cw P (.inr ⟨by omega,?_⟩)⟩
    rw[show((i+1:Nat):Int)=(i:Int)+1 by omega,Bl,<-a,<-g]
   .rw[if_neg H]at g
    obtain⟨n,rfl⟩:=CZ (show 0<=v by omega)
    have l:=k n (by omega)
    have l:-1<=AB p (n:Nat)/\AB p (n:Nat)<n:=l
    refine wW ?_
    exact⟨(f,AB p (n:Nat)),by show f<f+1;omega,⟨by simp only;omega,by simp only;omega,g⟩,rfl⟩
 have e:p.length-1+1=p.length:=by omega
 rw[e]at P;refine wW ?_;simp[CY,c,P];refine wW ?_;rw[show CY p=false from ?_];refine Bool.eq_false_iff.2 λq=>?_;simp only[CY,AU,Ad]at q;rcases q.2 0 (by omega)with⟨_,Q⟩|⟨B,_⟩;exact h0 Q;omega
theorem Kr[HA K]{p:List Int}(h:p.length<=1099511627776):K 321 [LI p] [.b (CY p)]:=by
 have o:∀{i:Nat},i<p.length->¬((i=0/\AB p 0=-1)\/(0<i/\GH p (i+1) ((i:Int)-1) (AB p i)=true))->CY p=false:=by intro i hi q;refine Bool.eq_false_iff.2 λQ=>?_;simp only[CY,AU,Ad]at Q;exact q (Q.2 i hi)
 refine qw I321 ?_;refine AR (λi=>Gi p i) (λi=>[LI p,.u,.n i,.u,.u,.u,.u,.u,.u]) p.length (by simp[Gi]) rfl (λi hi P=>?_) (λP=>?_);have c:=LX P;by_cases a:i=0;subst a;by_cases h0:AB p 0=-1;simp(disch:=omega) only[AD,h0];refine Bd (λ(_:Unit)=>True) (λ_=>[LI p,.u,.n 0,.b true,.n (-1),.u,.u,.u,.u]) (λ_=>0) () trivial rfl (λ_ _=>?_);refine wW ?_;exact Cw P (.inl ⟨rfl,h0⟩);rw[o hi λq=>by rcases q with q|q;exact h0 q.2;omega];exact wZ;refine wW ?_;refine cB Cl ?_
 cases hr:A4 0 ((i:Int)-1) (AB p i);rw[o hi λq=>by
  rcases q with q|q
  .exact a q.1
  .have:=PG c (i+1) _ _ (by omega) q.2;rw[I3]at hr;omega]
 exact wZ;have B:=Af.1 hr;obtain⟨R,j⟩:∃R,R=GH p (i+1) ((i:Int)-1) (AB p i):=⟨_,rfl⟩;refine wW ?_;refine Bd (λ(x:Nat×Int×Bool)=>(-1<=x.2.1/\x.2.1<i)/\x.2.1+2<=x.1/\(x.2.2||GH p x.1 x.2.1 (AB p i))=R) (λx=>[LI p,.u,.n i,.b x.2.2,.n x.2.1,.u,.u,.u,.u]) (λx=>x.1) (i+1,(i:Int)-1,false) ⟨by show -1<=(i:Int)-1/\(i:Int)-1<i;omega,by show(i:Int)-1+2<=((i+1:Nat):Int);omega,by rw[j];rfl⟩ rfl ?_;rintro⟨f,v,e⟩ ⟨G,s,g⟩;simp only at G s g|-
 cases f with
 |zero=>omega
 |succ f=>
  unfold GH at g
  by_cases l:v<0
  .rw[if_pos l,Bool.or_false]at g
   subst g
   cases e
   .refine wW ?_
    rw[o hi λq=>by
     rcases q with q|q
     .exact a q.1
     .rw[q.2]at j;cases j]
   .refine wW ?_
    exact Cw P (.inr ⟨by omega,j.symm⟩)
  .rw[if_neg l]at g
   obtain⟨n,rfl⟩:=CZ (show 0<=v by omega)
   have k:=c n (by omega)
   have k:-1<=AB p (n:Nat)/\AB p (n:Nat)<n:=k
   have key:((e||decide (((n:Nat):Int)=AB p i))||GH p f (AB p (n:Nat)) (AB p i))=R:=by
    rw[<-g]
    by_cases H:((n:Nat):Int)=AB p i
    .rw[if_pos H];simp[H]
    .rw[if_neg H];simp[H]
   cases e
   .by_cases H:((n:Nat):Int)=AB p i
    .refine wW ?_
     exact⟨(f,AB p (n:Nat),true),by show f<f+1;omega,⟨by simp only;omega,by simp only;omega,by rw[<-key];simp[H]⟩,rfl⟩
    .refine wW ?_
     exact⟨(f,AB p (n:Nat),false),by show f<f+1;omega,⟨by simp only;omega,by simp only;omega,by rw[<-key];simp[H]⟩,rfl⟩
   .refine wW ?_
    exact⟨(f,AB p (n:Nat),true),by show f<f+1;omega,⟨by simp only;omega,by simp only;omega,by rw[<-key];simp⟩,rfl⟩
 refine wW ?_;refine cW Cl ?_;simp[CY,P]
def DF(p:List Int)(v:Int):Nat->List Int
 |0=>[]
 |i+1=>if AB p i=v then DF p v i++[(i:Int)]else DF p v i
theorem To{p:List Int}{v:Int}:∀i,(DF p v i).length<=i
 |0=>by simp[DF]
 |i+1=>by have:=To (p:=p) (v:=v) i;unfold DF;split<;>simp<;>omega
theorem AAK:D.l []=LI []:=rfl
theorem chi[HA K]{p:List Int}{v:Int}(h:p.length<=1048576)(H:CY p=true)(a:0<=v):K 517 [LI p,.n v] [LI (DF p v p.length)]:=by
 refine qw I517 ?_;repeat(refine cB (Rv (by omega)) ?_;try simp(disch:=try exact dV) only[AD,H])
 rw[AAK];refine AR (λ_=>True) (λi=>[.u,.n v,.u,LI (DF p v i),.u,.u,.u,LI p,.n p.length,.n i,.u,.u]) p.length trivial rfl (λi hi _=>?_) (λ_=>?_);have l:=To (p:=p) (v:=v) i;by_cases he:AB p i=v;simp only[DF,if_pos he];simp(disch:=try exact dV) only[AD,he];simp only[DF,if_neg he];exact wZ;exact wZ
theorem chs[HA K]{p:List Int}{v:Int}(h:p.length<=1048576)(H:CY p=true)(g:0<=v):K 322 [LI p,.n v] [LI (DF p v p.length)]:=by
 simp only[CY,AU,Ad]at H;have f:=Af.1 H.1;have h0:AB p 0=-1:=by
  rcases H.2 0 (by omega)with q|q
  exact q.2;omega
 have H:CY p=true:=by simp[CY,H]
 have b:DF p v 1=[]:=by have e:AB p ((0:Nat):Int)=-1:=h0;simp only[DF];rw[if_neg (by omega)]
 refine qw I322 ?_;rw[AAK];refine AR (λ_=>True) (λi=>[LI p,.n v,.u,LI (DF p v (i+1)),.n ((i:Int)+1),.u,.u]) (p.length-1) trivial (by rw[b];rfl) (λi hi _=>?_) (λ_=>?_)
 .have l:=To (p:=p) (v:=v) (i+1);have c:((i+1:Nat):Int)=(i:Int)+1:=by omega
  by_cases he:AB p ((i:Int)+1)=v
  .have a:DF p v (i+1+1)=DF p v (i+1)++[(i:Int)+1]:=by
    rw[DF,c,if_pos he]
   rw[a]
   refine wW ?_
   repeat(refine cB (Kr (by omega)) ?_;try simp(disch:=try exact dV) only[AD,H,he])
  have a:DF p v (i+1+1)=DF p v (i+1):=by rw[DF,c,if_neg he]
  rw[a];refine wW ?_;repeat(refine cB (Kr (by omega)) ?_;try simp(disch:=try exact dV) only[AD,H])
 have e:p.length-1+1=p.length:=by omega
 rw[e];exact wZ
def GP(p:List Int)(i:Nat):Nat:=CG (λv=>if CY p=true/\(DF p v p.length).length=0 then 1 else 0) i
theorem V1{p:List Int}{i:Nat}:GP p i<=i:=by have:=KQ (g:=λv:Nat=>if CY p=true/\(DF p v p.length).length=0 then 1 else 0) (b:=1) (λj=>by split<;>omega) i;unfold GP;omega
theorem APK[HA K]{p:List Int}(h:p.length<=1048576):K 511 [LI p] [.n (GP p p.length)]:=by
 refine qw I511 ?_;refine AR (λ_=>True) (λi=>[LI p,.u,.n (GP p i),.u,.n p.length,.n i,.u,.u]) p.length trivial rfl (λi hi _=>?_) (λ_=>?_)
 .have b:=V1 (p:=p) (i:=i);have e:GP p (i+1)=GP p i+(if CY p=true/\(DF p i p.length).length=0 then 1 else 0):=rfl;refine wW ?_;refine cB (Rv (by omega)) ?_
  cases hp:CY p;rw[e,hp,if_neg (by simp)];refine wW ?_;simp;refine wW ?_;refine cB (chi h hp (by omega)) ?_;by_cases h0:(DF p i p.length).length=0
  .rw[e,hp,if_pos ⟨rfl,h0⟩];simp(disch:=omega) only[AD,h0];all_goals simp
  rw[e,hp,if_neg λq=>h0 q.2];refine wW ?_;all_goals simp
 exact wZ
theorem APY[HA K]{p:List Int}(h:p.length<=1048576):K 300 [LI p] [.n (GP p p.length)]:=by
 refine qw I300 ?_
 cases H:CY p
 .have e:GP p p.length=0:=N1 λi hi=>if_neg (by rw[H];simp);rw[e];refine Bd (λ(_:Unit)=>True) (λ_=>[LI p,.u,.n 0,.n 0,.u,.u]) (λ_=>0) () trivial rfl (λ_ _=>?_);by_cases h0:0<p.length
  .refine wW ?_;repeat(refine cB (Kr (by omega)) ?_;try simp(disch:=omega) only[AD,H])
  exact wZ
 refine AR (λ_=>True) (λi=>[LI p,.u,.n (GP p i),.n i,.u,.u]) p.length trivial rfl (λi hi _=>?_) (λ_=>?_)
 .have b:=V1 (p:=p) (i:=i);have a:GP p (i+1)=GP p i+(if CY p=true/\(DF p i p.length).length=0 then 1 else 0):=rfl;refine wW ?_;repeat(refine cB (Kr (by omega)) ?_;try simp(disch:=omega) only[AD,H])
  refine cB (chs h H (by omega)) ?_;by_cases h0:(DF p i p.length).length=0
  .rw[a,H,if_pos ⟨rfl,h0⟩];simp(disch:=omega) only[AD,h0];all_goals simp
  rw[a,H,if_neg λq=>h0 q.2];refine wW ?_;all_goals simp
 exact wZ
end Go.Cat
namespace Go.Cat
variable{K:Nat->List D->List D->Prop}
def cI(l:List Nat):List Int:=l.map λ(j:Nat)=>(j:Int)
theorem AFP{j:Nat}{l:List Nat}:(cI (j::l)).reverse=(cI l).reverse++[(j:Int)]:=by simp[cI]
theorem Yl{l:List Nat}:((cI l).reverse).length=l.length:=by simp[cI]
theorem YS{l:List Nat}:(cI l).length=l.length:=by simp[cI]
theorem NO{w:List Nat}{i:Nat}:Hh w i<=i:=by have:=Nt (w:=w.take i) (c:=117);simp only[Hh];simp only[List.length_take]at this;omega
def PS(w:List Nat)(i:Nat)(out:List Int)(st:List Nat):Prop:=
 SO w st i/\out.length=w.length/\∀a:Nat,a<i->a∉st->∃b:Nat,AB out a=b/\(PR w a b\/PR w b a)
theorem AIT{w:List Nat}{i:Nat}{out:List Int}{st:List Nat}(h:PS w i out st)(hi:i<w.length)(g:AI w i=117):PS w (i+1) out (i::st):=by obtain⟨b,c,f⟩:=h;refine⟨AFO b hi g,c,λa j H=>?_⟩;have e:a≠i:=λe=>H (by rw[e];exact List.mem_cons_self ..);exact f a (by omega) λq=>H (BL _ q)
theorem ACG{w:List Nat}{i j:Nat}{out:List Int}{st:List Nat}(h:PS w i out (j::st))(hi:i<w.length)(hd:AI w i=100):PS w (i+1) (B9 (B9 out i j) j i) st:=by obtain⟨H,c,f⟩:=h;obtain⟨Q,k⟩:=Z3 H hi hd;have o:=Q.1;refine⟨k,by rw[DD,DD,c],λa l g=>?_⟩;rw[Gb (by rw[DD];omega),Gb (by omega)];by_cases e:j=a;subst e;rw[if_pos rfl];exact⟨i,rfl,.inl Q⟩;rw[if_neg e];by_cases b:i=a;subst b;rw[if_pos rfl];exact⟨j,rfl,.inr Q⟩;rw[if_neg b];exact f a (by omega) λq=>by rcases AY.1 q with q|q;exact e q.symm;exact g q
theorem Qz[HA K]{w:List Nat}(M:AK w=true):∃rs,(∃m,rs=[LI m]/\PP w m)/\K 373 [.s w] rs:=by
 have hd:=A8 M;have Q:=hd.l;refine qx AJW ?_;refine wW ?_;refine BE (λi (x:List Int×List Nat)=>PS w i x.1 x.2) (λi x=>[.s w,.u,LI x.1,LI (cI x.2).reverse,.n i,.u,.u,.u]) w.length (rep w.length 0,[]) ⟨by simp[SO,Ef],by simp[rep],by simp⟩ rfl (λi x hi h=>?_) (λx h=>?_);obtain⟨out,st⟩:=x;simp only at h;have k:=K2 h.1;have f:=Yl (l:=st);have c:=YS (l:=st);have L:=NO (w:=w) (i:=i);have g:=h.2.1;rcases hd.ud i hi with b|b;simp(disch:=try exact dV) only[AD,b];exact⟨(out,i::st),AIT h hi b,by rw[AFP]⟩;have e:=Ej hi b;have N:=hd.h0 (i+1) (by omega)
 cases st with
 |nil=>simp only[Aa]at k;omega
 |cons j t=>
  have P:=h.1.1
  have H:((cI t).reverse).length=t.length:=Yl
  have o:AB ((cI t).reverse++[(j:Int)]) t.length=j:=by rw[<-H];exact NH
  have B:sub ((cI t).reverse++[(j:Int)]) 0 t.length=(cI t).reverse:=by rw[<-H];exact Mh
  have C:((((cI t).reverse++[(j:Int)]).length:Nat):Int)=(t.length:Int)+1:=by simp[H]
  have J:=YS (l:=t)
  simp only[AO]at k
  simp only[AFP]
  simp(disch:=try exact dV) only[AD,b,C,o,B,Bl]
  exact⟨(B9 (B9 out i j) j i,t),ACG h hi b,rfl⟩
 obtain⟨out,st⟩:=x;simp only at h;refine wW ?_;refine⟨_,rfl,h.2.1,λa I=>?_⟩;obtain⟨F,O,G⟩:=h;refine G a I λq=>?_;have:=K2 F;rw[hd.he]at this;have:st=[]:=Dd (by omega);subst this
 cases q
theorem l4u[HA K]{w:List Nat}{i k:Nat}(hd:DY w)(h:PR w i k):K 370 [.s w,.n i] [.n k]:=by
 have f:=hd.l;have hi:i<w.length:=by have:=h.1;have:=h.2.1;omega
 have a:AI w i=117:=by
  rcases hd.ud i hi with q|q;exact q;have:=Ej hi q;have:=h.2.2.2 (i+1) (by omega) (by have:=h.1;omega)
  omega
 refine qb ZL ?_;simp(disch:=omega) only[AD,a];refine Bd (λ(x:Nat)=>i<=x/\x<=k) (λx=>[.s w,.n i,.u,.n (Hh w x-Hh w i),.n x,.u,.u,.u,.u,.u,.u,.u,.u]) (λx=>k-x) i ⟨by omega,by have:=h.1;omega⟩ (by simp) ?_;intro x g;have c:=h.2.1;have b:=hd.h0 x (by omega);have b1:=hd.h0 i (by omega);have b2:Hh w x<=x/\Hh w i<=i:=⟨NO,NO⟩;have key:Hh w (x+1)-Hh w i=0↔x=k:=by constructor;intro q;by_cases e:x=k;exact e;have:=h.2.2.2 (x+1) (by omega) (by omega);omega;rintro rfl;have:=h.2.2.1;omega
 rcases hd.ud x (by omega)with q|q
 have e:=F6 (i:=x) (by omega) q;by_cases H:x=k;have:=key.2 H;subst H;simp(disch:=omega) only[AD,q];have:¬(Hh w x-Hh w i+1=0):=λz=>H (key.1 (by omega));simp(disch:=omega) only[AD,q];exact⟨x+1,by omega,by omega,by simp;omega⟩;have e:=Ej (i:=x) (by omega) q;by_cases H:x=k;have:=key.2 H;subst H;simp(disch:=omega) only[AD,q];have:¬(Hh w x-Hh w i-1=0):=λz=>H (key.1 (by omega));simp(disch:=omega) only[AD,q];exact⟨x+1,by omega,by omega,by simp;omega⟩
theorem l4d[HA K]{w:List Nat}{i k:Nat}(hd:DY w)(h:PR w k i):K 370 [.s w,.n i] [.n k]:=by
 have c:=hd.l;have hi:i<w.length:=h.2.1;have a:=h.1;have b:AI w i=100:=by
  rcases hd.ud i hi with q|q;have:=F6 hi q;have:=h.2.2.2 i (by omega) (by omega)
  have:=h.2.2.1;omega;exact q
 refine qb ZL ?_;simp(disch:=omega) only[AD,b];refine Bd (λ(x:Nat)=>k<=x/\x<=i) (λx=>[.s w,.u,.u,.n (Hh w (x+1)-Hh w k),.u,.n x,.u,.u,.u,.u,.u,.u,.u]) (λx=>x) i ⟨by omega,by omega⟩ (by rw[h.2.2.1];simp) ?_;intro x f;have B:=hd.h0 (x+1) (by omega);have b1:=hd.h0 k (by omega);have b2:Hh w (x+1)<=((x+1:Nat):Int)/\Hh w k<=k:=⟨NO,NO⟩;have key:Hh w x-Hh w k=0↔x=k:=by constructor;intro q;by_cases e:x=k;exact e;have:=h.2.2.2 x (by omega) (by omega);omega;rintro rfl;omega
 rcases hd.ud x (by omega)with q|q
 have e:=F6 (i:=x) (by omega) q;by_cases H:x=k;have:=key.2 H;subst H;simp(disch:=omega) only[AD,q];have:¬(Hh w (x+1)-Hh w k-1=0):=λz=>H (key.1 (by omega));simp(disch:=omega) only[AD,q];refine⟨x-1,by omega,by omega,?_⟩;rw[show x-1+1=x by omega,show((x-1:Nat):Int)=(x:Int)-1 by omega,show Hh w (x+1)-Hh w k-1=Hh w x-Hh w k by omega];have e:=Ej (i:=x) (by omega) q;by_cases H:x=k;have:=key.2 H;subst H;simp(disch:=omega) only[AD,q];have:¬(Hh w (x+1)-Hh w k+1=0):=λz=>H (key.1 (by omega));simp(disch:=omega) only[AD,q];refine⟨x-1,by omega,by omega,?_⟩;rw[show x-1+1=x by omega,show((x-1:Nat):Int)=(x:Int)-1 by omega,show Hh w (x+1)-Hh w k+1=Hh w x-Hh w k by omega]
theorem AVD[HA K]{w:List Nat}{m:List Int}{i:Nat}(hd:DY w)(h:PP w m)(hi:i<w.length):K 370 [.s w,.n i] [.n (AB m i)]:=by obtain⟨b,e,q⟩:=h.2 i hi;rw[e];rcases q with q|q;exact l4u (K:=K) hd q;exact l4d (K:=K) hd q
theorem AbQ:D.l []=LI []:=rfl
theorem Ac2{m:List Int}{i:Nat}(h:i<m.length):m.take (i+1)=m.take i++[AB m i]:=by rw[CO h];simp[AB,h]
theorem TD[HA K]{w:List Nat}{m:List Int}(H:AK w=true)(h:PP w m):K 356 [.s w] [LI m,.b true]:=by
 have hd:=A8 H;have a:=hd.l;have c:=h.1;refine qw I356 ?_;rw[AbQ];refine AR (λ_=>True) (λi=>[.s w,.u,.u,LI (m.take i),.n i,.u]) w.length trivial (by simp) (λi hi _=>?_) (λ_=>?_)
 .have e:(m.take i).length=i:=by simp;omega
  refine wW ?_;repeat(refine cB (By (by omega)) ?_;try simp(disch:=try exact dV) only[AD,H])
  refine cW (AVD hd h hi) ?_;rw[Ac2 (by omega)]
 refine wW ?_;repeat(refine cB (By (by omega)) ?_;try simp(disch:=try exact dV) only[AD,H])
 rw[List.take_of_length_le (by omega)]
def D4(s:List Bool):Nat:=s.countP λb=>!b
theorem RD{s:List Bool}{i:Nat}{b:Bool}:C2 s i b=s.set i b:=by simp[C2]
theorem RM:∀{s:List Bool}{i:Nat},i<s.length->s.getD i false=false->D4 (s.set i true)+1=D4 s
 |[],i,h,_=>by simp at h
 |b::s,0,_,h=>by simp only[List.getD_cons_zero]at h;subst h;simp[D4]
 |b::s,i+1,h,H=>by have:=RM (s:=s) (i:=i) (by simpa using h) (by simpa using H);simp only[D4,List.set_cons_succ,List.countP_cons]at this|-;omega
theorem AL0:∀{s:List Bool}{i:Nat},D4 (s.set i true)<=D4 s
 |[],i=>by simp[D4]
 |b::s,0=>by simp[D4,List.countP_cons]
 |b::s,i+1=>by have:=AL0 (s:=s) (i:=i);simp only[D4,List.set_cons_succ,List.countP_cons]at this|-;omega
def FC(a b:List Int):Nat->List Bool->Int->List Bool
 |0,s,_=>s
 |f+1,s,c=>if CM s c=true then s else FC a b f (C2 (C2 s c true) (AB a c) true) (AB b (AB a c))
theorem ANY{a b:List Int}:∀{f:Nat}{s:List Bool}{x:Int},(FC a b f s x).length=s.length
 |0,_,_=>rfl
 |f+1,s,x=>by unfold FC;split;rfl;rw[ANY,Fy,Fy]
def Cs(a b:List Int):Nat->List Bool×Nat
 |0=>(rep a.length false,0)
 |i+1=>if CM (Cs a b i).1 i=true then Cs a b i else(FC a b (a.length+1) (Cs a b i).1 i,(Cs a b i).2+1)
theorem P0{a b:List Int}:∀i,(Cs a b i).1.length=a.length/\(Cs a b i).2<=i
 |0=>by simp[Cs,rep]
 |i+1=>by have:=P0 (a:=a) (b:=b) i;unfold Cs;split;omega;simp only[ANY];omega
def G0(a b:List Int):Nat:=(Cs a b a.length).2
def JI(m:List Int):Prop:=∀j:Nat,j<m.length->0<=AB m j/\AB m j<m.length
theorem Lb{m:List Int}(h:CV m=true):JI m:=λj H=>by
 have:=Af.1 ((GY h).2 j H).1
 omega
theorem OF{m:List Int}(h:JI m){x:Int}(H:0<=x/\x<m.length):0<=AB m x/\AB m x<m.length:=by obtain⟨n,rfl⟩:=CZ H.1;exact h n (by omega)
theorem Iq{s:List Bool}{n:Nat}:CM s (n:Int)=s.getD n false:=by simp[CM]
theorem AIH{a:List Int}{f:Nat}{s:List Bool}{x:Int}(o:s.length=a.length)(e:0<=x/\x<a.length)(b:JI a)(l:D4 s<f+1)(h:CM s x=false):
  D4 (C2 (C2 s x true) (AB a x) true)<f:=by obtain⟨n,rfl⟩:=CZ e.1;have H:=b n (by omega);obtain⟨k,c⟩:=CZ H.1;rw[c,RD,RD];rw[Iq]at h;have g:=RM (s:=s) (i:=n) (by omega) h;have j:=AL0 (s:=s.set n true) (i:=k);omega
theorem AQ5[HA K]{a b:List Int}(M:a.length<=16)(j:b.length=a.length)(F:JI a)(I:JI b):K 360 [LI a,LI b] [.n (G0 a b)]:=by
 refine qw I360 ?_;refine AR (λ_=>True) (λi=>[LI a,LI b,.u,LT (Cs a b i).1,.n (Cs a b i).2,.u,.u,.n a.length,.n i,.u,.u,.u]) a.length trivial rfl (λi hi _=>?_) (λ_=>?_);have h:=P0 (a:=a) (b:=b) i;obtain⟨s,q⟩:∃s,s=(Cs a b i).1:=⟨_,rfl⟩;obtain⟨c,k⟩:∃c,c=(Cs a b i).2:=⟨_,rfl⟩;rw[<-q,<-k]at h;have he:Cs a b (i+1)=if CM s i=true then(s,c)else(FC a b (a.length+1) s i,c+1):=by rw[q,k]<;>rfl
 rw[he,<-q,<-k];obtain⟨o,L⟩:=h;obtain⟨R,C⟩:∃R,R=FC a b (a.length+1) s i:=⟨_,rfl⟩;rw[<-C]
 cases ht:CM s i;simp only[Gw,if_false];simp(disch:=try exact dV) only[AD,ht];refine Bd (λ(x:Nat×List Bool×Int)=>x.2.1.length=a.length/\(0<=x.2.2/\x.2.2<a.length)/\D4 x.2.1<x.1/\FC a b x.1 x.2.1 x.2.2=R) (λx=>[LI a,LI b,.u,LT x.2.1,.n ((c:Int)+1),.u,.n x.2.2,.n a.length,.n i,.u,.u,.u]) (λx=>x.1) (a.length+1,s,i) ⟨o,by simp;omega,by have:=List.countP_le_length (p:=λb=>!b) (l:=s);simp only[D4];omega,C.symm⟩ rfl ?_;rintro⟨f,t,x⟩ ⟨G,e,B,g⟩;simp only at G e B g|-;have J:=OF F e;have H:=OF I (x:=AB a x) (by omega)
 cases f with
 |zero=>omega
 |succ f=>
  simp only[FC]at g
  cases hx:CM t x
  .rw[hx]at g
   simp only[Gw,if_false]at g
   simp(disch:=try exact dV) only[AD,hx]
   exact⟨(f,C2 (C2 t x true) (AB a x) true,AB b (AB a x)),by show f<f+1;omega,⟨by rw[Fy,Fy,G],by rw[<-j];exact H,AIH G e F B hx,g⟩,rfl⟩
  .rw[hx]at g
   simp only[if_true]at g
   simp(disch:=try exact dV) only[AD,hx]
   rw[<-g]
 simp only[if_true];simp(disch:=try exact dV) only[AD,ht];exact wZ
theorem AX6[HA K]{a b:List Int}(o:EG a=true)(B:EG b=true)(q:b.length=a.length):K 371 [LI a,LI b] [.n (G0 a b)]:=by
 have H:CV a=true:=by simp[EG]at o;exact o.1
 have C:CV b=true:=by simp[EG]at B;exact B.1
 have Q:=(GY H).1;have e:=Lb H;have I:=Lb C;refine qw I371 ?_;repeat(refine cB (by first|exact TP (by omega)|exact TP (by omega)|fail) ?_;try simp(disch:=try exact dV) only[AD,o,B])
 refine AR (λ_=>True) (λi=>[LI a,LI b,.u,LT (Cs a b i).1,.n (Cs a b i).2,.n i,.u,.u,.u,.u,.u]) a.length trivial rfl (λi hi _=>?_) (λ_=>?_);have h:=P0 (a:=a) (b:=b) i;obtain⟨s,L⟩:∃s,s=(Cs a b i).1:=⟨_,rfl⟩;obtain⟨c,F⟩:∃c,c=(Cs a b i).2:=⟨_,rfl⟩;rw[<-L,<-F]at h;have he:Cs a b (i+1)=if CM s i=true then(s,c)else(FC a b (a.length+1) s i,c+1):=by rw[L,F]<;>rfl
 rw[he,<-L,<-F];obtain⟨J,P⟩:=h;obtain⟨R,N⟩:∃R,R=FC a b (a.length+1) s i:=⟨_,rfl⟩;rw[<-N]
 cases ht:CM s i;simp only[Gw,if_false];simp(disch:=try exact dV) only[AD,ht];refine Bd (λ(x:Nat×List Bool×Int)=>x.2.1.length=a.length/\(0<=x.2.2/\x.2.2<a.length)/\D4 x.2.1<x.1/\FC a b x.1 x.2.1 x.2.2=R) (λx=>[LI a,LI b,.u,LT x.2.1,.n ((c:Int)+1),.n i,.n x.2.2,.u,.u,.u,.u]) (λx=>x.1) (a.length+1,s,i) ⟨J,by simp;omega,by have:=List.countP_le_length (p:=λb=>!b) (l:=s);simp only[D4];omega,N.symm⟩ rfl ?_;rintro⟨f,t,x⟩ ⟨G,k,M,g⟩;simp only at G k M g|-;have O:=OF e k;have j:=OF I (x:=AB a x) (by omega)
 cases f with
 |zero=>omega
 |succ f=>
  simp only[FC]at g
  cases hx:CM t x
  .rw[hx]at g
   simp only[Gw,if_false]at g
   simp(disch:=try exact dV) only[AD,hx]
   exact⟨(f,C2 (C2 t x true) (AB a x) true,AB b (AB a x)),by show f<f+1;omega,⟨by rw[Fy,Fy,G],by rw[<-q];exact j,AIH G k e M hx,g⟩,rfl⟩
  .rw[hx]at g
   simp only[if_true]at g
   simp(disch:=try exact dV) only[AD,hx]
   rw[<-g]
 simp only[if_true];simp(disch:=try exact dV) only[AD,ht];exact wZ
inductive HO:List (List Nat)->List (List Int)->Prop
 |nil:HO [] []
 |snoc{ws ms w m}:HO ws ms->PP w m->HO (ws++[w]) (ms++[m])
theorem PA{ws ms} (h:HO ws ms):ms.length=ws.length:=by
 induction h with
 |nil=>rfl
 |snoc _ _ i=>simp[i]
theorem AcK{ws ms} (h:HO ws ms):∀i:Nat,i<ws.length->PP (AH ws i) (AF ms i):=by
 induction h with
 |nil=>intro i hi;simp at hi
 | @snoc ws ms w m h H I=>
  intro i hi
  have l:=PA h
  rcases B7 i ws.length with q|q
  .have:=I i q
   simpa[AH,AF,Ap,DP q,DP (show i<ms.length by omega)]using this
  .have e:i=ws.length:=by simp at hi;omega
   subst e
   have a:AH (ws++[w]) ws.length=w:=by simp[AH,Ap]
   have b:AF (ms++[m]) ws.length=m:=by rw[<-l];simp[AF,Ap]
   rw[a,b]
   exact H
theorem AVW:D.l []=LL []:=rfl
theorem ADA{ws:List (List Nat)}{i:Nat}(h:i<ws.length):AH ws i∈ws:=by simp[AH,h]
theorem Rr{ws:List (List Nat)}{i:Nat}(h:i<ws.length):ws.take (i+1)=ws.take i++[AH ws i]:=by rw[CO h];simp[AH,h]
theorem AEV{a b:List (List Int)}(h:a.length+b.length<=1099511627776):Ev false (LL a) (LL b)=some (LL (a++b)):=KU ⟨h,rfl⟩
theorem AR5[HA K]{n:Nat}(h:n<7):∃rs,(∃ms,rs=[LL ms]/\HO (AG n) ms)/\K 359 [.n n] rs:=by
 have a:=apl h;refine qx I359 ?_;refine wW ?_;refine cW (AKO h) ?_;rw[AVW];refine BE (λi (ms:List (List Int))=>HO ((AG n).take i) ms) (λi ms=>[.u,.u,LL ms,.u,LS (AG n),.n (AG n).length,.n i,.u]) (AG n).length [] (by simpa using HO.nil) rfl (λi ms hi P=>?_) (λms P=>?_);have b:=PA P;have c:((AG n).take i).length=i:=by simp;omega
 obtain⟨_,⟨m,rfl,H⟩,k⟩:=Qz (K:=K) (w:=AH (AG n) i) (apd h (ADA hi)).1;refine wW ?_;refine cB k ?_;simp(disch:=try exact dV) only[AD,AEV];refine⟨ms++[m],?_,rfl⟩;rw[Rr hi];exact HO.snoc P H;rw[List.take_length]at P;refine wW ?_;exact⟨ms,rfl,P⟩
end Go.Cat
