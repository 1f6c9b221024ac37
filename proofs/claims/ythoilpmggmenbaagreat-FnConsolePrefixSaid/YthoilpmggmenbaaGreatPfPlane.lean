/-
 Plane trees: parents in preorder.
-/
import Derived.Test.YthoilpmggmenbaaGreatPfLFCl
set_option linter.unusedSimpArgs false
set_option linter.unusedVariables false
namespace Go.Cat
variable{K:Nat->List D->List D->Prop}
def GD:List Nat->List Int->List Int->List Int
 |[],out,_=>out
 |c::w,out,st=>if c=100 then GD w out st.tail else GD w (out++[st.headD 0]) ((out.length:Int)::st)
def Co(w:List Nat):List Int:=GD w [-1] [0]
theorem UM:∀{w:List Nat}{out st:List Int},out.length<=(GD w out st).length/\(GD w out st).length<=out.length+w.length
 |[],_,_=>by simp[GD]
 |c::w,out,st=>by unfold GD;split;have:=UM (w:=w) (out:=out) (st:=st.tail);simp only[AP];omega;have:=UM (w:=w) (out:=out++[st.headD 0]) (st:=(out.length:Int)::st);simp only[AP,AW,A5]at this|-;omega
theorem AAL[HA K]{w:List Nat}(hd:AK w=true):K 510 [.s w] [LI (Co w),.b true]:=by
 have a:=Af hd;have C:=a.l;refine qw I510 ?_;repeat(refine cB (Bz (by omega)) ?_;try simp(disch:=try exact dV) only[AD,hd])
 refine Ah (λi (x:List Int×List Int)=>GD (w.drop i) x.1 x.2=Co w/\(x.2.length:Int)=Hh w i+1/\x.1.length<=i+1/\1<=x.1.length) (λi x=>[.s w,.u,.u,LI x.1,LI x.2.reverse,.n i,.u,.u,.u]) w.length ([-1],[0]) ⟨by simp[Co],by simp[FI],by simp,by simp⟩ rfl (λi x hi P=>?_) (λx P=>?_);obtain⟨out,st⟩:=x;obtain⟨g,G,o,c⟩:=P;simp only at g G o c;rw[EN hi]at g;have B:=Gx (w:=w) (i:=i);have q:=a.h0 (i+1) (by omega);have h0:=a.h0 i (by omega)
 cases st with
 |nil=>simp at G;omega
 |cons x t=>
  have H:(t.reverse).length=t.length:=by simp
  have f:AB (t.reverse++[x]) t.length=x:=by rw[<-H];exact LA
  have j:sub (t.reverse++[x]) 0 t.length=t.reverse:=by rw[<-H];exact MG
  have e:(((t.reverse++[x]).length:Nat):Int)=(t.length:Int)+1:=by simp
  simp only[AP]at G
  simp only[List.reverse_cons]
  rcases a.ud i hi with h|h
  .have k:=GS hi h
   rw[h]at g
   simp only[GD,List.headD_cons]at g
   rw[if_neg (by omega)]at g
   simp(disch:=try exact dV) only[AD,h,e,f,Bq]
   refine⟨(out++[x],(out.length:Int)::x::t),⟨g,by simp;omega,by simp;omega,by simp⟩,?_⟩
   simp
  .have k:=F0 hi h
   rw[h]at g
   simp only[GD,if_true,List.tail_cons]at g
   simp(disch:=try exact dV) only[AD,h,e,j,Bq]
   exact⟨(out,t),⟨g,by simp only;omega,by simp only;omega,c⟩,rfl⟩
 obtain⟨out,st⟩:=x;obtain⟨g,_⟩:=P;rw[List.drop_length]at g;simp only[GD]at g;refine wW ?_;rw[<-g]
def CH(out:List Int):List Int->Prop
 |[]=>True
 |[x]=>0<=x/\x<out.length
 |x::y::t=>(0<=x/\x<out.length/\AB out x=y)/\CH out (y::t)
theorem AjG{out:List Int}{x z:Int}(h:0<=x/\x<out.length):AB (out++[z]) x=AB out x:=by simp only[AB,Ap];rw[D4 (by omega)]
theorem AJF{out:List Int}{q:Int}:∀{st:List Int},CH out st->CH (out++[q]) st
 |[],_=>trivial
 |[x],h=>by simp only[CH,AW,AP,A5]at h|-;omega
 |x::y::t,h=>by obtain⟨⟨H,a,b⟩,c⟩:=h;refine⟨⟨H,by simp;omega,?_⟩,AJF c⟩;rw[AjG ⟨H,a⟩,b]
theorem AZR{out:List Int}{x:Int}{t:List Int}(h:CH out (x::t)):0<=x/\x<out.length:=by
 cases t with
 |nil=>exact h
 |cons y t=>exact⟨h.1.1,h.1.2.1⟩
theorem ATD[HA K]{w:List Nat}(hd:AK w=true):K 299 [.s w] [LI (Co w),.b true]:=by
 have H:=Af hd;have q:=H.l;refine qw I299 ?_;refine Ah (λi (x:List Int×Int×List Int)=>GD (w.drop i) x.1 (x.2.1::x.2.2)=Co w/\(x.2.2.length:Int)=Hh w i/\x.1.length<=i+1/\CH x.1 (x.2.1::x.2.2)) (λi x=>[.s w,.u,.u,LI x.1,.n x.2.1,.n i,.u,.u,.u]) w.length ([-1],0,[]) ⟨by simp[Co],by simp[FI],by simp,by simp[CH]⟩ rfl (λi x hi P=>?_) (λx P=>?_)
 .obtain⟨out,x,t⟩:=x;obtain⟨g,a,c,G⟩:=P;simp only at g a c G;rw[EN hi]at g;have B:=AZR G;have o:=Gx (w:=w) (i:=i);have k:=H.h0 (i+1) (by omega);rcases H.ud i hi with h|h
  .have e:=GS hi h;rw[h]at g;simp only[GD,List.headD_cons]at g;rw[if_neg (by omega)]at g;refine wW ?_;repeat(refine cB (Bu (by omega)) ?_;try simp(disch:=try exact dV) only[AD,hd,h])
   refine⟨(out++[x],(out.length:Int),x::t),⟨g,by simp;omega,by simp;omega,?_⟩,?_⟩;refine⟨⟨by show(0:Int)<=(out.length:Int);omega,by show((out.length:Nat):Int)<(((out++[x]).length:Nat):Int);simp;omega,?_⟩,AJF G⟩;simp[AB];simp
  have e:=F0 hi h;rw[h]at g;simp only[GD,if_true,List.tail_cons]at g
  cases t with
  |nil=>simp at a;omega
  |cons y t=>
   obtain⟨⟨_,_,j⟩,f⟩:=G
   simp only[AP]at a
   refine wW ?_
   repeat(refine cB (Bu (by omega)) ?_;try simp(disch:=try exact dV) only[AD,hd,h])
   exact⟨(out,y,t),⟨g,by simp only;omega,by simp only;omega,f⟩,by rw[j]⟩
 obtain⟨out,x,t⟩:=x;obtain⟨g,_⟩:=P;rw[List.drop_length]at g;simp only[GD]at g;refine wW ?_;repeat(refine cB (Bu (by omega)) ?_;try simp(disch:=try exact dV) only[AD,hd])
 rw[<-g]
def Gq(p:List Int):Nat->Int->Int->Bool
 |0,_,_=>false
 |f+1,v,t=>if v<0 then false else if v=t then true else Gq p f (AB p v) t
def IV(p:List Int)(i:Nat):Prop:=∀j:Nat,j<i->(j=0/\AB p 0=-1)\/(0<j/\Gq p (j+1) ((j:Int)-1) (AB p j)=true)
instance{p:List Int}{i:Nat}:Decidable (IV p i):=by unfold IV;infer_instance
def CI(p:List Int):Bool:=AR 1 9 p.length&&decide (IV p p.length)
theorem RO{p:List Int}{i:Nat}(a:∀j:Nat,j<i->-1<=AB p j/\AB p j<j):∀(f:Nat)(v t:Int),v<i->Gq p f v t=true->0<=t/\t<=v
 |0,_,_,_,h=>by simp[Gq]at h
 |f+1,v,t,b,h=>by
  unfold Gq at h;split at h
  cases h;rename_i h0;split at h;omega;obtain⟨n,rfl⟩:=CJ (show 0<=v by omega);have H:=a n (by omega);have H:-1<=AB p (n:Nat)/\AB p (n:Nat)<n:=H;have:=RO a f (AB p (n:Nat)) t (by omega) h;have e:(Int.ofNat n)=(n:Int):=rfl;omega
theorem Nb{p:List Int}:∀{i:Nat},IV p i->∀j:Nat,j<i->-1<=AB p j/\AB p j<j
 |0,_,j,h=>by omega
 |i+1,H,j,h=>by
  have I:=Nb (p:=p) (i:=i) (λj c=>H j (by omega));rcases BQ j i with q|q;exact I j q;obtain rfl:j=i:=by omega
  rcases H j (by omega)with⟨rfl,h0⟩|⟨h0,b⟩
  have a:AB p ((0:Nat):Int)=-1:=h0;omega;have:=RO I (j+1) _ _ (by omega) b;omega
theorem X1[HA K]{p:List Int}(h:p.length<=1099511627776):K 516 [LI p] [.b (CI p)]:=by
 refine qw I516 ?_;refine cB Br ?_
 cases c:AR 1 9 (p.length:Int);refine wW ?_;simp[CI,c];have C:=A7.1 c;by_cases h0:AB p 0=-1;simp(disch:=omega) only[AD,h0];refine Ah (λi (_:Unit)=>IV p (i+1)) (λi _=>[LI p,.u,.n ((i:Int)+1),.u,.u,.u,.u,.u]) (p.length-1) () (λj F=>.inl ⟨by omega,h0⟩) rfl (λi _ hi P=>?_) (λ_ P=>?_);have k:=Nb P;obtain⟨R,a⟩:∃R,R=Gq p (i+2) ((i:Int)) (AB p ((i:Int)+1)):=⟨_,rfl⟩;simp(disch:=omega) only[AD,Bq];refine Bd (λ(x:Nat×Int)=>(-1<=x.2/\x.2<=i)/\x.2+2<=x.1/\Gq p x.1 x.2 (AB p ((i:Int)+1))=R) (λx=>[LI p,.u,.n ((i:Int)+1),.n x.2,.u,.u,.u,.u]) (λx=>x.1) (i+2,(i:Int)) ⟨by show -1<=(i:Int)/\(i:Int)<=i;omega,by show(i:Int)+2<=((i+2:Nat):Int);omega,a.symm⟩ rfl ?_;rintro⟨f,v⟩ ⟨G,s,g⟩;simp only at G s g|-
 cases f with
 |zero=>omega
 |succ f=>
  unfold Gq at g
  by_cases o:v<0
  .rw[if_pos o]at g
   refine wW ?_
   rw[show CI p=false from ?_]
   refine Bool.eq_false_iff.2 λq=>?_
   simp only[CI,AV,Ac]at q
   rcases q.2 (i+1) (by omega)with⟨B,_⟩|⟨_,Q⟩
   .omega
   .rw[show((i+1:Nat):Int)=(i:Int)+1 by omega,Bq,<-a,<-g]at Q
    cases Q
  .rw[if_neg o]at g
   by_cases H:v=AB p ((i:Int)+1)
   .rw[if_pos H]at g
    simp(disch:=omega) only[AD,<-H]
    refine⟨(),Bg P (.inr ⟨by omega,?_⟩)⟩
    rw[show((i+1:Nat):Int)=(i:Int)+1 by omega,Bq,<-a,<-g]
   .rw[if_neg H]at g
    obtain⟨n,rfl⟩:=CJ (show 0<=v by omega)
    have l:=k n (by omega)
    have l:-1<=AB p (n:Nat)/\AB p (n:Nat)<n:=l
    refine wW ?_
    exact⟨(f,AB p (n:Nat)),by show f<f+1;omega,⟨by simp only;omega,by simp only;omega,g⟩,rfl⟩
 have e:p.length-1+1=p.length:=by omega
 rw[e]at P;refine wW ?_;simp[CI,c,P];refine wW ?_;rw[show CI p=false from ?_];refine Bool.eq_false_iff.2 λq=>?_;simp only[CI,AV,Ac]at q;rcases q.2 0 (by omega)with⟨_,Q⟩|⟨B,_⟩;exact h0 Q;omega
theorem Jw[HA K]{p:List Int}(h:p.length<=1099511627776):K 321 [LI p] [.b (CI p)]:=by
 have o:∀{i:Nat},i<p.length->¬((i=0/\AB p 0=-1)\/(0<i/\Gq p (i+1) ((i:Int)-1) (AB p i)=true))->CI p=false:=by intro i hi q;refine Bool.eq_false_iff.2 λQ=>?_;simp only[CI,AV,Ac]at Q;exact q (Q.2 i hi)
 refine qw I321 ?_;refine AN (λi=>IV p i) (λi=>[LI p,.u,.n i,.u,.u,.u,.u,.u,.u]) p.length (by simp[IV]) rfl (λi hi P=>?_) (λP=>?_);have c:=Nb P;by_cases a:i=0;subst a;by_cases h0:AB p 0=-1;simp(disch:=omega) only[AD,h0];refine Bd (λ(_:Unit)=>True) (λ_=>[LI p,.u,.n 0,.b true,.n (-1),.u,.u,.u,.u]) (λ_=>0) () trivial rfl (λ_ _=>?_);refine wW ?_;exact Bg P (.inl ⟨rfl,h0⟩);rw[o hi λq=>by rcases q with q|q;exact h0 q.2;omega];exact wZ;refine wW ?_;refine cB Bt ?_
 cases hr:AR 0 ((i:Int)-1) (AB p i);rw[o hi λq=>by
  rcases q with q|q
  .exact a q.1
  .have:=RO c (i+1) _ _ (by omega) q.2;rw[JS]at hr;omega]
 exact wZ;have B:=A7.1 hr;obtain⟨R,j⟩:∃R,R=Gq p (i+1) ((i:Int)-1) (AB p i):=⟨_,rfl⟩;refine wW ?_;refine Bd (λ(x:Nat×Int×Bool)=>(-1<=x.2.1/\x.2.1<i)/\x.2.1+2<=x.1/\(x.2.2||Gq p x.1 x.2.1 (AB p i))=R) (λx=>[LI p,.u,.n i,.b x.2.2,.n x.2.1,.u,.u,.u,.u]) (λx=>x.1) (i+1,(i:Int)-1,false) ⟨by show -1<=(i:Int)-1/\(i:Int)-1<i;omega,by show(i:Int)-1+2<=((i+1:Nat):Int);omega,by rw[j];rfl⟩ rfl ?_;rintro⟨f,v,e⟩ ⟨G,s,g⟩;simp only at G s g|-
 cases f with
 |zero=>omega
 |succ f=>
  unfold Gq at g
  by_cases l:v<0
  .rw[if_pos l,Bool.or_false]at g
   subst g
   cases e
   .refine wW ?_
    rw[o hi λq=>by
     rcases q with q|q
     .exact a q.1
     .rw[q.2]at j;cases j]
   .refine wW ?_
    exact Bg P (.inr ⟨by omega,j.symm⟩)
  .rw[if_neg l]at g
   obtain⟨n,rfl⟩:=CJ (show 0<=v by omega)
   have k:=c n (by omega)
   have k:-1<=AB p (n:Nat)/\AB p (n:Nat)<n:=k
   have key:((e||decide (((n:Nat):Int)=AB p i))||Gq p f (AB p (n:Nat)) (AB p i))=R:=by
    rw[<-g]
    by_cases H:((n:Nat):Int)=AB p i
    .rw[if_pos H];simp[H]
    .rw[if_neg H];simp[H]
   cases e
   .by_cases H:((n:Nat):Int)=AB p i
    .refine wW ?_
     exact⟨(f,AB p (n:Nat),true),by show f<f+1;omega,⟨by simp only;omega,by simp only;omega,by rw[<-key];simp[H]⟩,rfl⟩
    .refine wW ?_
     exact⟨(f,AB p (n:Nat),false),by show f<f+1;omega,⟨by simp only;omega,by simp only;omega,by rw[<-key];simp[H]⟩,rfl⟩
   .refine wW ?_
    exact⟨(f,AB p (n:Nat),true),by show f<f+1;omega,⟨by simp only;omega,by simp only;omega,by rw[<-key];simp⟩,rfl⟩
 refine wW ?_;refine cW Bt ?_;simp[CI,P]
def D3(p:List Int)(v:Int):Nat->List Int
 |0=>[]
 |i+1=>if AB p i=v then D3 p v i++[(i:Int)]else D3 p v i
theorem ZD{p:List Int}{v:Int}:∀i,(D3 p v i).length<=i
 |0=>by simp[D3]
 |i+1=>by have:=ZD (p:=p) (v:=v) i;unfold D3;split<;>simp<;>omega
theorem Wz:D.l []=LI []:=rfl
theorem chi[HA K]{p:List Int}{v:Int}(h:p.length<=1048576)(H:CI p=true)(a:0<=v):K 517 [LI p,.n v] [LI (D3 p v p.length)]:=by
 refine qw I517 ?_;repeat(refine cB (X1 (by omega)) ?_;try simp(disch:=try exact dV) only[AD,H])
 rw[Wz];refine AN (λ_=>True) (λi=>[.u,.n v,.u,LI (D3 p v i),.u,.u,.u,LI p,.n p.length,.n i,.u,.u]) p.length trivial rfl (λi hi _=>?_) (λ_=>?_);have l:=ZD (p:=p) (v:=v) i;by_cases he:AB p i=v;simp only[D3,if_pos he];simp(disch:=try exact dV) only[AD,he];simp only[D3,if_neg he];exact wZ;exact wZ
theorem chs[HA K]{p:List Int}{v:Int}(h:p.length<=1048576)(H:CI p=true)(g:0<=v):K 322 [LI p,.n v] [LI (D3 p v p.length)]:=by
 simp only[CI,AV,Ac]at H;have f:=A7.1 H.1;have h0:AB p 0=-1:=by
  rcases H.2 0 (by omega)with q|q
  exact q.2;omega
 have H:CI p=true:=by simp[CI,H]
 have b:D3 p v 1=[]:=by have e:AB p ((0:Nat):Int)=-1:=h0;simp only[D3];rw[if_neg (by omega)]
 refine qw I322 ?_;rw[Wz];refine AN (λ_=>True) (λi=>[LI p,.n v,.u,LI (D3 p v (i+1)),.n ((i:Int)+1),.u,.u]) (p.length-1) trivial (by rw[b];rfl) (λi hi _=>?_) (λ_=>?_)
 .have l:=ZD (p:=p) (v:=v) (i+1);have c:((i+1:Nat):Int)=(i:Int)+1:=by omega
  by_cases he:AB p ((i:Int)+1)=v
  .have a:D3 p v (i+1+1)=D3 p v (i+1)++[(i:Int)+1]:=by
    rw[D3,c,if_pos he]
   rw[a]
   refine wW ?_
   repeat(refine cB (Jw (by omega)) ?_;try simp(disch:=try exact dV) only[AD,H,he])
  have a:D3 p v (i+1+1)=D3 p v (i+1):=by rw[D3,c,if_neg he]
  rw[a];refine wW ?_;repeat(refine cB (Jw (by omega)) ?_;try simp(disch:=try exact dV) only[AD,H])
 have e:p.length-1+1=p.length:=by omega
 rw[e];exact wZ
def H9(p:List Int)(i:Nat):Nat:=CY (λv=>if CI p=true/\(D3 p v p.length).length=0 then 1 else 0) i
theorem Xw{p:List Int}{i:Nat}:H9 p i<=i:=by have:=LX (g:=λv:Nat=>if CI p=true/\(D3 p v p.length).length=0 then 1 else 0) (b:=1) (λj=>by split<;>omega) i;unfold H9;omega
theorem AdW[HA K]{p:List Int}(h:p.length<=1048576):K 511 [LI p] [.n (H9 p p.length)]:=by
 refine qw I511 ?_;refine AN (λ_=>True) (λi=>[LI p,.u,.n (H9 p i),.u,.n p.length,.n i,.u,.u]) p.length trivial rfl (λi hi _=>?_) (λ_=>?_)
 .have b:=Xw (p:=p) (i:=i);have e:H9 p (i+1)=H9 p i+(if CI p=true/\(D3 p i p.length).length=0 then 1 else 0):=rfl;refine wW ?_;refine cB (X1 (by omega)) ?_
  cases hp:CI p;rw[e,hp,if_neg (by simp)];refine wW ?_;simp;refine wW ?_;refine cB (chi h hp (by omega)) ?_;by_cases h0:(D3 p i p.length).length=0
  .rw[e,hp,if_pos ⟨rfl,h0⟩];simp(disch:=omega) only[AD,h0];all_goals simp
  rw[e,hp,if_neg λq=>h0 q.2];refine wW ?_;all_goals simp
 exact wZ
theorem AXC[HA K]{p:List Int}(h:p.length<=1048576):K 300 [LI p] [.n (H9 p p.length)]:=by
 refine qw I300 ?_
 cases H:CI p
 .have e:H9 p p.length=0:=PG λi hi=>if_neg (by rw[H];simp);rw[e];refine Bd (λ(_:Unit)=>True) (λ_=>[LI p,.u,.n 0,.n 0,.u,.u]) (λ_=>0) () trivial rfl (λ_ _=>?_);by_cases h0:0<p.length
  .refine wW ?_;repeat(refine cB (Jw (by omega)) ?_;try simp(disch:=omega) only[AD,H])
  exact wZ
 refine AN (λ_=>True) (λi=>[LI p,.u,.n (H9 p i),.n i,.u,.u]) p.length trivial rfl (λi hi _=>?_) (λ_=>?_)
 .have b:=Xw (p:=p) (i:=i);have a:H9 p (i+1)=H9 p i+(if CI p=true/\(D3 p i p.length).length=0 then 1 else 0):=rfl;refine wW ?_;repeat(refine cB (Jw (by omega)) ?_;try simp(disch:=omega) only[AD,H])
  refine cB (chs h H (by omega)) ?_;by_cases h0:(D3 p i p.length).length=0
  .rw[a,H,if_pos ⟨rfl,h0⟩];simp(disch:=omega) only[AD,h0];all_goals simp
  rw[a,H,if_neg λq=>h0 q.2];refine wW ?_;all_goals simp
 exact wZ
end Go.Cat
namespace Go.Cat
variable{K:Nat->List D->List D->Prop}
def cI(l:List Nat):List Int:=l.map λ(j:Nat)=>(j:Int)
theorem AAK{j:Nat}{l:List Nat}:(cI (j::l)).reverse=(cI l).reverse++[(j:Int)]:=by simp[cI]
theorem APX{l:List Nat}:((cI l).reverse).length=l.length:=by simp[cI]
theorem AQ1{l:List Nat}:(cI l).length=l.length:=by simp[cI]
theorem Oj{w:List Nat}{i:Nat}:Hh w i<=i:=by have:=Od (w:=w.take i) (c:=117);simp only[Hh];simp only[List.length_take]at this;omega
def PS(w:List Nat)(i:Nat)(out:List Int)(st:List Nat):Prop:=
 SO w st i/\out.length=w.length/\∀a:Nat,a<i->a∉st->∃b:Nat,AB out a=b/\(PR w a b\/PR w b a)
theorem APN{w:List Nat}{i:Nat}{out:List Int}{st:List Nat}(h:PS w i out st)(hi:i<w.length)(g:AH w i=117):PS w (i+1) out (i::st):=by obtain⟨b,c,f⟩:=h;refine⟨APT b hi g,c,λa j H=>?_⟩;have e:a≠i:=λe=>H (by rw[e];exact List.mem_cons_self ..);exact f a (by omega) λq=>H (BP _ q)
theorem AL5{w:List Nat}{i j:Nat}{out:List Int}{st:List Nat}(h:PS w i out (j::st))(hi:i<w.length)(hd:AH w i=100):PS w (i+1) (BE (BE out i j) j i) st:=by obtain⟨H,c,f⟩:=h;obtain⟨Q,k⟩:=AN4 H hi hd;have o:=Q.1;refine⟨k,by rw[DN,DN,c],λa l g=>?_⟩;rw[Hc (by rw[DN];omega),Hc (by omega)];by_cases e:j=a;subst e;rw[if_pos rfl];exact⟨i,rfl,.inl Q⟩;rw[if_neg e];by_cases b:i=a;subst b;rw[if_pos rfl];exact⟨j,rfl,.inr Q⟩;rw[if_neg b];exact f a (by omega) λq=>by rcases A6.1 q with q|q;exact e q.symm;exact g q
theorem Tp[HA K]{w:List Nat}(M:AK w=true):∃rs,(∃m,rs=[LI m]/\PP w m)/\K 373 [.s w] rs:=by
 have hd:=Af M;have Q:=hd.l;refine qx AG6 ?_;refine wW ?_;refine Ah (λi (x:List Int×List Nat)=>PS w i x.1 x.2) (λi x=>[.s w,.u,LI x.1,LI (cI x.2).reverse,.n i,.u,.u,.u]) w.length (rep w.length 0,[]) ⟨by simp[SO,FI],by simp[rep],by simp⟩ rfl (λi x hi h=>?_) (λx h=>?_);obtain⟨out,st⟩:=x;simp only at h;have k:=LP h.1;have f:=APX (l:=st);have c:=AQ1 (l:=st);have L:=Oj (w:=w) (i:=i);have g:=h.2.1;rcases hd.ud i hi with b|b;simp(disch:=try exact dV) only[AD,b];exact⟨(out,i::st),APN h hi b,by rw[AAK]⟩;have e:=F0 hi b;have N:=hd.h0 (i+1) (by omega)
 cases st with
 |nil=>simp only[A5]at k;omega
 |cons j t=>
  have P:=h.1.1
  have H:((cI t).reverse).length=t.length:=APX
  have o:AB ((cI t).reverse++[(j:Int)]) t.length=j:=by rw[<-H];exact LA
  have B:sub ((cI t).reverse++[(j:Int)]) 0 t.length=(cI t).reverse:=by rw[<-H];exact MG
  have C:((((cI t).reverse++[(j:Int)]).length:Nat):Int)=(t.length:Int)+1:=by simp[H]
  have J:=AQ1 (l:=t)
  simp only[AP]at k
  simp only[AAK]
  simp(disch:=try exact dV) only[AD,b,C,o,B,Bq]
  exact⟨(BE (BE out i j) j i,t),AL5 h hi b,rfl⟩
 obtain⟨out,st⟩:=x;simp only at h;refine wW ?_;refine⟨_,rfl,h.2.1,λa I=>?_⟩;obtain⟨F,O,G⟩:=h;refine G a I λq=>?_;have:=LP F;rw[hd.he]at this;have:st=[]:=Dy (by omega);subst this
 cases q
theorem l4u[HA K]{w:List Nat}{i k:Nat}(hd:DY w)(h:PR w i k):K 370 [.s w,.n i] [.n k]:=by
 have f:=hd.l;have hi:i<w.length:=by have:=h.1;have:=h.2.1;omega
 have a:AH w i=117:=by
  rcases hd.ud i hi with q|q;exact q;have:=F0 hi q;have:=h.2.2.2 (i+1) (by omega) (by have:=h.1;omega)
  omega
 refine qb AI3 ?_;simp(disch:=omega) only[AD,a];refine Bd (λ(x:Nat)=>i<=x/\x<=k) (λx=>[.s w,.n i,.u,.n (Hh w x-Hh w i),.n x,.u,.u,.u,.u,.u,.u,.u,.u]) (λx=>k-x) i ⟨by omega,by have:=h.1;omega⟩ (by simp) ?_;intro x g;have c:=h.2.1;have b:=hd.h0 x (by omega);have b1:=hd.h0 i (by omega);have b2:Hh w x<=x/\Hh w i<=i:=⟨Oj,Oj⟩;have key:Hh w (x+1)-Hh w i=0↔x=k:=by constructor;intro q;by_cases e:x=k;exact e;have:=h.2.2.2 (x+1) (by omega) (by omega);omega;rintro rfl;have:=h.2.2.1;omega
 rcases hd.ud x (by omega)with q|q
 have e:=GS (i:=x) (by omega) q;by_cases H:x=k;have:=key.2 H;subst H;simp(disch:=omega) only[AD,q];have:¬(Hh w x-Hh w i+1=0):=λz=>H (key.1 (by omega));simp(disch:=omega) only[AD,q];exact⟨x+1,by omega,by omega,by simp;omega⟩;have e:=F0 (i:=x) (by omega) q;by_cases H:x=k;have:=key.2 H;subst H;simp(disch:=omega) only[AD,q];have:¬(Hh w x-Hh w i-1=0):=λz=>H (key.1 (by omega));simp(disch:=omega) only[AD,q];exact⟨x+1,by omega,by omega,by simp;omega⟩
theorem l4d[HA K]{w:List Nat}{i k:Nat}(hd:DY w)(h:PR w k i):K 370 [.s w,.n i] [.n k]:=by
 have c:=hd.l;have hi:i<w.length:=h.2.1;have a:=h.1;have b:AH w i=100:=by
  rcases hd.ud i hi with q|q;have:=GS hi q;have:=h.2.2.2 i (by omega) (by omega)
  have:=h.2.2.1;omega;exact q
 refine qb AI3 ?_;simp(disch:=omega) only[AD,b];refine Bd (λ(x:Nat)=>k<=x/\x<=i) (λx=>[.s w,.u,.u,.n (Hh w (x+1)-Hh w k),.u,.n x,.u,.u,.u,.u,.u,.u,.u]) (λx=>x) i ⟨by omega,by omega⟩ (by rw[h.2.2.1];simp) ?_;intro x f;have B:=hd.h0 (x+1) (by omega);have b1:=hd.h0 k (by omega);have b2:Hh w (x+1)<=((x+1:Nat):Int)/\Hh w k<=k:=⟨Oj,Oj⟩;have key:Hh w x-Hh w k=0↔x=k:=by constructor;intro q;by_cases e:x=k;exact e;have:=h.2.2.2 x (by omega) (by omega);omega;rintro rfl;omega
 rcases hd.ud x (by omega)with q|q
 have e:=GS (i:=x) (by omega) q;by_cases H:x=k;have:=key.2 H;subst H;simp(disch:=omega) only[AD,q];have:¬(Hh w (x+1)-Hh w k-1=0):=λz=>H (key.1 (by omega));simp(disch:=omega) only[AD,q];refine⟨x-1,by omega,by omega,?_⟩;rw[show x-1+1=x by omega,show((x-1:Nat):Int)=(x:Int)-1 by omega,show Hh w (x+1)-Hh w k-1=Hh w x-Hh w k by omega];have e:=F0 (i:=x) (by omega) q;by_cases H:x=k;have:=key.2 H;subst H;simp(disch:=omega) only[AD,q];have:¬(Hh w (x+1)-Hh w k+1=0):=λz=>H (key.1 (by omega));simp(disch:=omega) only[AD,q];refine⟨x-1,by omega,by omega,?_⟩;rw[show x-1+1=x by omega,show((x-1:Nat):Int)=(x:Int)-1 by omega,show Hh w (x+1)-Hh w k+1=Hh w x-Hh w k by omega]
theorem AaG[HA K]{w:List Nat}{m:List Int}{i:Nat}(hd:DY w)(h:PP w m)(hi:i<w.length):K 370 [.s w,.n i] [.n (AB m i)]:=by obtain⟨b,e,q⟩:=h.2 i hi;rw[e];rcases q with q|q;exact l4u (K:=K) hd q;exact l4d (K:=K) hd q
theorem Ae2:D.l []=LI []:=rfl
theorem AbK{m:List Int}{i:Nat}(h:i<m.length):m.take (i+1)=m.take i++[AB m i]:=by rw[CQ h];simp[AB,h]
theorem Xc[HA K]{w:List Nat}{m:List Int}(H:AK w=true)(h:PP w m):K 356 [.s w] [LI m,.b true]:=by
 have hd:=Af H;have a:=hd.l;have c:=h.1;refine qw I356 ?_;rw[Ae2];refine AN (λ_=>True) (λi=>[.s w,.u,.u,LI (m.take i),.n i,.u]) w.length trivial (by simp) (λi hi _=>?_) (λ_=>?_)
 .have e:(m.take i).length=i:=by simp;omega
  refine wW ?_;repeat(refine cB (Bu (by omega)) ?_;try simp(disch:=try exact dV) only[AD,H])
  refine cW (AaG hd h hi) ?_;rw[AbK (by omega)]
 refine wW ?_;repeat(refine cB (Bu (by omega)) ?_;try simp(disch:=try exact dV) only[AD,H])
 rw[List.take_of_length_le (by omega)]
def Dp(s:List Bool):Nat:=s.countP λb=>!b
theorem Rf{s:List Bool}{i:Nat}{b:Bool}:Cf s i b=s.set i b:=by simp[Cf]
theorem Sf:∀{s:List Bool}{i:Nat},i<s.length->s.getD i false=false->Dp (s.set i true)+1=Dp s
 |[],i,h,_=>by simp at h
 |b::s,0,_,h=>by simp only[List.getD_cons_zero]at h;subst h;simp[Dp]
 |b::s,i+1,h,H=>by have:=Sf (s:=s) (i:=i) (by simpa using h) (by simpa using H);simp only[Dp,List.set_cons_succ,List.countP_cons]at this|-;omega
theorem ANE:∀{s:List Bool}{i:Nat},Dp (s.set i true)<=Dp s
 |[],i=>by simp[Dp]
 |b::s,0=>by simp[Dp,List.countP_cons]
 |b::s,i+1=>by have:=ANE (s:=s) (i:=i);simp only[Dp,List.set_cons_succ,List.countP_cons]at this|-;omega
def Fq(a b:List Int):Nat->List Bool->Int->List Bool
 |0,s,_=>s
 |f+1,s,c=>if CU s c=true then s else Fq a b f (Cf (Cf s c true) (AB a c) true) (AB b (AB a c))
theorem AEC{a b:List Int}:∀{f:Nat}{s:List Bool}{x:Int},(Fq a b f s x).length=s.length
 |0,_,_=>rfl
 |f+1,s,x=>by unfold Fq;split;rfl;rw[AEC,G4,G4]
def DL(a b:List Int):Nat->List Bool×Nat
 |0=>(rep a.length false,0)
 |i+1=>if CU (DL a b i).1 i=true then DL a b i else(Fq a b (a.length+1) (DL a b i).1 i,(DL a b i).2+1)
theorem RM{a b:List Int}:∀i,(DL a b i).1.length=a.length/\(DL a b i).2<=i
 |0=>by simp[DL,rep]
 |i+1=>by have:=RM (a:=a) (b:=b) i;unfold DL;split;omega;simp only[AEC];omega
def H7(a b:List Int):Nat:=(DL a b a.length).2
def KR(m:List Int):Prop:=∀j:Nat,j<m.length->0<=AB m j/\AB m j<m.length
theorem Mi{m:List Int}(h:Ca m=true):KR m:=λj H=>by
 have:=A7.1 ((HT h).2 j H).1
 omega
theorem QL{m:List Int}(h:KR m){x:Int}(H:0<=x/\x<m.length):0<=AB m x/\AB m x<m.length:=by obtain⟨n,rfl⟩:=CJ H.1;exact h n (by omega)
theorem Km{s:List Bool}{n:Nat}:CU s (n:Int)=s.getD n false:=by simp[CU]
theorem ARD{a:List Int}{f:Nat}{s:List Bool}{x:Int}(o:s.length=a.length)(e:0<=x/\x<a.length)(b:KR a)(l:Dp s<f+1)(h:CU s x=false):
  Dp (Cf (Cf s x true) (AB a x) true)<f:=by obtain⟨n,rfl⟩:=CJ e.1;have H:=b n (by omega);obtain⟨k,c⟩:=CJ H.1;rw[c,Rf,Rf];rw[Km]at h;have g:=Sf (s:=s) (i:=n) (by omega) h;have j:=ANE (s:=s.set n true) (i:=k);omega
theorem AUP[HA K]{a b:List Int}(M:a.length<=16)(j:b.length=a.length)(F:KR a)(I:KR b):K 360 [LI a,LI b] [.n (H7 a b)]:=by
 refine qw I360 ?_;refine AN (λ_=>True) (λi=>[LI a,LI b,.u,LT (DL a b i).1,.n (DL a b i).2,.u,.u,.n a.length,.n i,.u,.u,.u]) a.length trivial rfl (λi hi _=>?_) (λ_=>?_);have h:=RM (a:=a) (b:=b) i;obtain⟨s,q⟩:∃s,s=(DL a b i).1:=⟨_,rfl⟩;obtain⟨c,k⟩:∃c,c=(DL a b i).2:=⟨_,rfl⟩;rw[<-q,<-k]at h;have he:DL a b (i+1)=if CU s i=true then(s,c)else(Fq a b (a.length+1) s i,c+1):=by rw[q,k]<;>rfl
 rw[he,<-q,<-k];obtain⟨o,L⟩:=h;obtain⟨R,C⟩:∃R,R=Fq a b (a.length+1) s i:=⟨_,rfl⟩;rw[<-C]
 cases ht:CU s i;simp only[Ig,if_false];simp(disch:=try exact dV) only[AD,ht];refine Bd (λ(x:Nat×List Bool×Int)=>x.2.1.length=a.length/\(0<=x.2.2/\x.2.2<a.length)/\Dp x.2.1<x.1/\Fq a b x.1 x.2.1 x.2.2=R) (λx=>[LI a,LI b,.u,LT x.2.1,.n ((c:Int)+1),.u,.n x.2.2,.n a.length,.n i,.u,.u,.u]) (λx=>x.1) (a.length+1,s,i) ⟨o,by simp;omega,by have:=List.countP_le_length (p:=λb=>!b) (l:=s);simp only[Dp];omega,C.symm⟩ rfl ?_;rintro⟨f,t,x⟩ ⟨G,e,B,g⟩;simp only at G e B g|-;have J:=QL F e;have H:=QL I (x:=AB a x) (by omega)
 cases f with
 |zero=>omega
 |succ f=>
  simp only[Fq]at g
  cases hx:CU t x
  .rw[hx]at g
   simp only[Ig,if_false]at g
   simp(disch:=try exact dV) only[AD,hx]
   exact⟨(f,Cf (Cf t x true) (AB a x) true,AB b (AB a x)),by show f<f+1;omega,⟨by rw[G4,G4,G],by rw[<-j];exact H,ARD G e F B hx,g⟩,rfl⟩
  .rw[hx]at g
   simp only[if_true]at g
   simp(disch:=try exact dV) only[AD,hx]
   rw[<-g]
 simp only[if_true];simp(disch:=try exact dV) only[AD,ht];exact wZ
theorem AmB[HA K]{a b:List Int}(o:ET a=true)(B:ET b=true)(q:b.length=a.length):K 371 [LI a,LI b] [.n (H7 a b)]:=by
 have H:Ca a=true:=by simp[ET]at o;exact o.1
 have C:Ca b=true:=by simp[ET]at B;exact B.1
 have Q:=(HT H).1;have e:=Mi H;have I:=Mi C;refine qw I371 ?_;repeat(refine cB (by first|exact XI (by omega)|exact XI (by omega)|fail) ?_;try simp(disch:=try exact dV) only[AD,o,B])
 refine AN (λ_=>True) (λi=>[LI a,LI b,.u,LT (DL a b i).1,.n (DL a b i).2,.n i,.u,.u,.u,.u,.u]) a.length trivial rfl (λi hi _=>?_) (λ_=>?_);have h:=RM (a:=a) (b:=b) i;obtain⟨s,L⟩:∃s,s=(DL a b i).1:=⟨_,rfl⟩;obtain⟨c,F⟩:∃c,c=(DL a b i).2:=⟨_,rfl⟩;rw[<-L,<-F]at h;have he:DL a b (i+1)=if CU s i=true then(s,c)else(Fq a b (a.length+1) s i,c+1):=by rw[L,F]<;>rfl
 rw[he,<-L,<-F];obtain⟨J,P⟩:=h;obtain⟨R,N⟩:∃R,R=Fq a b (a.length+1) s i:=⟨_,rfl⟩;rw[<-N]
 cases ht:CU s i;simp only[Ig,if_false];simp(disch:=try exact dV) only[AD,ht];refine Bd (λ(x:Nat×List Bool×Int)=>x.2.1.length=a.length/\(0<=x.2.2/\x.2.2<a.length)/\Dp x.2.1<x.1/\Fq a b x.1 x.2.1 x.2.2=R) (λx=>[LI a,LI b,.u,LT x.2.1,.n ((c:Int)+1),.n i,.n x.2.2,.u,.u,.u,.u]) (λx=>x.1) (a.length+1,s,i) ⟨J,by simp;omega,by have:=List.countP_le_length (p:=λb=>!b) (l:=s);simp only[Dp];omega,N.symm⟩ rfl ?_;rintro⟨f,t,x⟩ ⟨G,k,M,g⟩;simp only at G k M g|-;have O:=QL e k;have j:=QL I (x:=AB a x) (by omega)
 cases f with
 |zero=>omega
 |succ f=>
  simp only[Fq]at g
  cases hx:CU t x
  .rw[hx]at g
   simp only[Ig,if_false]at g
   simp(disch:=try exact dV) only[AD,hx]
   exact⟨(f,Cf (Cf t x true) (AB a x) true,AB b (AB a x)),by show f<f+1;omega,⟨by rw[G4,G4,G],by rw[<-q];exact j,ARD G k e M hx,g⟩,rfl⟩
  .rw[hx]at g
   simp only[if_true]at g
   simp(disch:=try exact dV) only[AD,hx]
   rw[<-g]
 simp only[if_true];simp(disch:=try exact dV) only[AD,ht];exact wZ
inductive Iu:List (List Nat)->List (List Int)->Prop
 |nil:Iu [] []
 |snoc{ws ms w m}:Iu ws ms->PP w m->Iu (ws++[w]) (ms++[m])
theorem UD{ws ms} (h:Iu ws ms):ms.length=ws.length:=by
 induction h with
 |nil=>rfl
 |snoc _ _ i=>simp[i]
theorem AXI{ws ms} (h:Iu ws ms):∀i:Nat,i<ws.length->PP (AF ws i) (AG ms i):=by
 induction h with
 |nil=>intro i hi;simp at hi
 | @snoc ws ms w m h H I=>
  intro i hi
  have l:=UD h
  rcases BQ i ws.length with q|q
  .have:=I i q
   simpa[AF,AG,Ap,D4 q,D4 (show i<ms.length by omega)]using this
  .have e:i=ws.length:=by simp at hi;omega
   subst e
   have a:AF (ws++[w]) ws.length=w:=by simp[AF,Ap]
   have b:AG (ms++[m]) ws.length=m:=by rw[<-l];simp[AG,Ap]
   rw[a,b]
   exact H
theorem AIZ:D.l []=LL []:=rfl
theorem AD4{ws:List (List Nat)}{i:Nat}(h:i<ws.length):AF ws i∈ws:=by simp[AF,h]
theorem VP{ws:List (List Nat)}{i:Nat}(h:i<ws.length):ws.take (i+1)=ws.take i++[AF ws i]:=by rw[CQ h];simp[AF,h]
theorem O8{a b:List (List Int)}(h:a.length+b.length<=1099511627776):EG false (LL a) (LL b)=some (LL (a++b)):=KG ⟨h,rfl⟩
theorem AlR[HA K]{n:Nat}(h:n<7):∃rs,(∃ms,rs=[LL ms]/\Iu (AI n) ms)/\K 359 [.n n] rs:=by
 have a:=apl h;refine qx I359 ?_;refine wW ?_;refine cW (ANV h) ?_;rw[AIZ];refine Ah (λi (ms:List (List Int))=>Iu ((AI n).take i) ms) (λi ms=>[.u,.u,LL ms,.u,LS (AI n),.n (AI n).length,.n i,.u]) (AI n).length [] (by simpa using Iu.nil) rfl (λi ms hi P=>?_) (λms P=>?_);have b:=UD P;have c:((AI n).take i).length=i:=by simp;omega
 obtain⟨_,⟨m,rfl,H⟩,k⟩:=Tp (K:=K) (w:=AF (AI n) i) (apd h (AD4 hi)).1;refine wW ?_;refine cB k ?_;simp(disch:=try exact dV) only[AD,O8];refine⟨ms++[m],?_,rfl⟩;rw[VP hi];exact Iu.snoc P H;rw[List.take_length]at P;refine wW ?_;exact⟨ms,rfl,P⟩
end Go.Cat
