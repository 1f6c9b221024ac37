/-
 Catalan numbers by running.
-/
import Derived.Test.YthoilpmggmenbaaGreatPfRankB
set_option linter.unusedSimpArgs false
set_option linter.unusedVariables false
namespace Go.Cat
variable{K:Nat->List D->List D->Prop}
set_option maxRecDepth 100000
def EN:List Int:=[1,1,2,5,14,42,132,429,1430,4862,16796,58786,208012,742900,2674440,9694845]
abbrev tcs:List (Nat×IF):=[(79,I79.v),(84,I84.v),(22,K6.v)]
abbrev ANQ:List (Nat×IF):=[(28,I28.v),(27,I27.v),(23,Jz.v)]
theorem AQ1:BH 16 (λn=>Fv (EC (Dx tcs) 60 8 79 [.n n]) (EN.getD n 0))=true:=by kernel_rfl
theorem AWO:BH 16 (λn=>Fv (EC (Dx ANQ) 60 8 28 [.n n]) (EN.getD n 0))=true:=by kernel_rfl
theorem TE[HA K]{n:Nat}(h:n<16):K 79 [.n n] [.n (EN.getD n 0)]:=run tcs 60 8 79 (Gt (BQ AQ1 n h))
theorem AEH[HA K]{n:Nat}(h:n<16):K 28 [.n n] [.n (EN.getD n 0)]:=run ANQ 60 8 28 (Gt (BQ AWO n h))
end Go.Cat
namespace Go.Cat
variable{K:Nat->List D->List D->Prop}
set_option maxRecDepth 100000
theorem ACN{u d:Nat}:bw (u+1) (d+1)=if d<u then 0 else bw u (d+1)+bw (u+1) d:=rfl
theorem Zy{d:Nat}:bw 0 d=1:=rfl
theorem UN{u d:Nat}(h:d<u):bw u d=0:=by
 cases u with
 |zero=>omega
 |succ u=>
  cases d with
  |zero=>rfl
  |succ d=>rw[ACN,if_pos (by omega)]
def EA(u d:Nat):Nat:=match u with
 |0=>0
 |u+1=>bw u d
theorem Mq{u d:Nat}(h:u<=d)(hd:0<d):bw u d=EA u d+bw u (d-1):=by
 cases d with
 |zero=>omega
 |succ d=>
  cases u with
  |zero=>rfl
  |succ u=>rw[ACN,if_neg (by omega)];rfl
def Cv:Nat->Nat->Nat->Nat->List Nat
 |0,_,_,_=>[]
 |n+1,u,d,k=>if k<EA u d then 117::Cv n (u-1) d k else 100::Cv n u (d-1) (k-EA u d)
def DT:List Nat->Nat->Nat->Nat
 |[],_,_=>0
 |c::w,u,d=>if c=117 then DT w (u-1) d else EA u d+DT w u (d-1)
def gw(u d:Nat)(w:List Nat):Prop:=u<=d/\w.length=u+d/\Bb w ((d:Int)-u)=some 0
theorem QM:∀{w:List Nat}{h k:Int},Bb w h=some k->h<=k+w.length
 |[],h,k,e=>by simp only[Bb,AL]at e;subst e;simp
 |c::w,h,k,e=>by
  simp only[Bb]at e;simp only[AO];split at e;have:=QM e;omega;split at e;split at e
  cases e;have:=QM e;omega
  cases e
theorem VD{u d:Nat}{w:List Nat}(h:gw u d (117::w)):∃U,u=U+1/\gw U d w:=by
 obtain⟨b,a,H⟩:=h;simp only[Bb,if_true]at H;have:=QM H;simp only[AO]at a
 cases u with
 |zero=>omega
 |succ u=>exact⟨u,rfl,by omega,by omega,by rw[<-H];congr 1;omega⟩
theorem Sr{u d:Nat}{w:List Nat}{c:Nat}(h:gw u d (c::w))(e:c≠117):c=100/\u<d/\gw u (d-1) w:=by
 obtain⟨f,b,H⟩:=h;simp only[Bb,if_neg e]at H;split at H;rename_i a;split at H
 cases H;simp only[AO]at b;refine⟨a,by omega,by omega,by omega,?_⟩;rw[<-H];congr 1;omega
 cases H
theorem WD:∀{w:List Nat}{h k:Int},Bb w h=some k->∃q:Int,k+w.length=h+2*q
 |[],h,k,e=>by simp only[Bb,AL]at e;subst e;exact⟨0,by simp⟩
 |c::w,h,k,e=>by
  simp only[Bb]at e;simp only[AO];split at e;obtain⟨q,H⟩:=WD e;exact⟨q+1,by omega⟩;split at e;split at e
  cases e;obtain⟨q,H⟩:=WD e;exact⟨q,by omega⟩
  cases e
theorem Lg{w:List Nat}(h:AK w=true):gw (w.length/2) (w.length/2) w/\w.length<=16:=by
 obtain⟨H,a⟩:Bb w 0=some 0/\w.length<=16:=by simpa[AK]using h
 obtain⟨q,b⟩:=WD H;exact⟨⟨by omega,by omega,by rw[<-H];congr 1;omega⟩,a⟩
theorem AYV{u d:Nat}(h:u<=d):EA u d<=bw u d:=by
 cases d with
 |zero=>
  have:u=0:=by omega
  subst this;simp[EA]
 |succ d=>rw[Mq h (by omega)];omega
theorem SX:∀(n u d k:Nat),u<=d->u+d=n->k<bw u d->gw u d (Cv n u d k)/\DT (Cv n u d k) u d=k
 |0,u,d,k=>λh e a=>by
  have f:u=0:=by omega
  have hd:d=0:=by omega
  subst f hd
  rw[Zy]at a
  exact⟨⟨by omega,rfl,rfl⟩,by simp[Cv,DT];omega⟩
 |n+1,u,d,k=>λh e a=>by
  unfold Cv
  split
  rename_i H
  cases u with
  |zero=>simp[EA]at H
  |succ u=>
   obtain⟨⟨b,c,g⟩,G⟩:=SX n u d k (by omega) (by omega) H
   simp only[Nat.add_sub_cancel]
   refine⟨⟨h,by simp only[AO];omega,?_⟩,?_⟩
   .simp only[Bb,if_true]
    rw[<-g];congr 1;omega
   .simp only[DT,if_true,Nat.add_sub_cancel];exact G
  rename_i H
  have hd:0<d:=by omega
  have s:=Mq h hd
  have i:u<d:=by
   rcases B7 u d with q|q
   exact q
   have:bw u (d-1)=0:=UN (by omega)
   omega
  obtain⟨⟨b,c,g⟩,G⟩:=SX n u (d-1) (k-EA u d) (by omega) (by omega) (by omega)
  refine⟨⟨h,by simp only[AO];omega,?_⟩,?_⟩
  simp only[Bb]
  rw[if_neg (by omega),if_pos trivial,if_neg (by omega),<-g];congr 1;omega
  simp only[DT]
  rw[if_neg (by omega),G];omega
theorem Og:∀(w:List Nat)(u d:Nat),gw u d w->DT w u d<bw u d/\Cv (u+d) u d (DT w u d)=w
 |[],u,d=>λh=>by
  obtain⟨i,b,_⟩:=h;simp only[Aa]at b;have f:u=0:=by omega
  have hd:d=0:=by omega
  subst f hd;exact⟨by simp[DT,Zy],rfl⟩
 |c::w,u,d=>λh=>by by_cases a:c=117;subst a;obtain⟨U,rfl,H⟩:=VD h;obtain⟨Q,q⟩:=Og w U d H;have j:EA (U+1) d=bw U d:=rfl;have e:=AYV h.1;simp only[DT,if_true,Nat.add_sub_cancel];refine⟨by omega,?_⟩;rw[show U+1+d=(U+d)+1 by omega];unfold Cv;rw[if_pos (by omega),Nat.add_sub_cancel,q];obtain⟨rfl,g,H⟩:=Sr h a;obtain⟨Q,q⟩:=Og w u (d-1) H;have s:=Mq h.1 (by omega);simp only[DT,if_neg a];refine⟨by omega,?_⟩;rw[show u+d=(u+(d-1))+1 by omega];unfold Cv;rw[if_neg (by omega),Nat.add_sub_cancel_left,q]
theorem bwM:BH 9 (λd=>BH (d+1) λu=>decide (bw u d<=1430))=true:=by kernel_rfl
theorem Jt{u d:Nat}(h:u<=d)(hd:d<9):bw u d<=1430:=of_decide_eq_true (BQ (BQ bwM d hd) u (by omega))
theorem bwC:BH 16 (λn=>decide ((bw n n:Int)=EN.getD n 0))=true:=by kernel_rfl
theorem UQ{n:Nat}(h:n<16):(bw n n:Int)=EN.getD n 0:=of_decide_eq_true (BQ bwC n h)
def Bu(w:List Nat):Int:=if AK w=true then DT w (w.length/2) (w.length/2)else -1
theorem AAZ[HA K]{w:List Nat}(h:w.length<=1000000000):K 273 [.s w] [.n (Bu w)]:=by
 refine qw I273 ?_;refine cB (Bf h) ?_
 cases hd:AK w;simp(disch:=omega) only[AD,hd];exact Dn (by simp[Bu,hd]);obtain⟨o,B⟩:=Lg hd;simp(disch:=omega) only[AD,hd];refine BE (λi (x:Nat×Nat×Nat)=>gw x.2.1 x.2.2 (w.drop i)/\x.2.2<=8/\x.1+DT (w.drop i) x.2.1 x.2.2=DT w (w.length/2) (w.length/2)/\x.1<=1430*i) (λi x=>[.s w,.u,.n x.1,.n x.2.1,.n x.2.2,.n i,.u,.u,.u,.u]) w.length (0,w.length/2,w.length/2) ⟨by simpa using o,by simp only;omega,by simp,by simp⟩ (by simp only[];rfl) (λi x hi P=>?_) (λx P=>?_);obtain⟨k,u,d⟩:=x;obtain⟨b,f,H,j⟩:=P;simp only at b f H j;rw[EJ hi]at b H;by_cases e:AI w i=117;rw[e]at b H;obtain⟨U,rfl,g⟩:=VD b;simp only[DT,if_true,Nat.add_sub_cancel]at H;have G:=g.1;simp(disch:=omega) only[AD,e];exact⟨(k,U,d),⟨g,f,H,by simp only;omega⟩,by simp⟩;obtain⟨c,q,g⟩:=Sr b e;obtain⟨a,rfl⟩:∃a,d=a+1:=⟨d-1,by omega⟩;simp only[DT,if_neg e,Nat.add_sub_cancel]at H g
 cases u with
 |zero=>
  have l:EA 0 (a+1)=0:=rfl
  simp(disch:=omega) only[AD,c]
  exact⟨(k,0,a),⟨g,by simp only;omega,by simp only;omega,by simp only;omega⟩,by simp⟩
 |succ u=>
  have l:EA (u+1) (a+1)=bw u (a+1):=rfl
  have C:=Jt (u:=u) (d:=a+1) (by omega) (by omega)
  simp(disch:=omega) only[AD,c,Bl]
  refine cW (AKB (u:=u) (d:=a+1) (by omega) (by omega)) ?_
  exact⟨(k+bw u (a+1),u+1,a),⟨g,by simp only;omega,by simp only;omega,by simp only;omega⟩,by simp⟩
 obtain⟨k,u,d⟩:=x;obtain⟨b,f,H,j⟩:=P;rw[List.drop_length]at H;simp only[DT]at H;refine wW ?_;exact Dn (by simp only[Bu,hd,if_true];omega)
theorem Xx[HA K]{w:List Nat}(h:w.length<=1000000000):K 276 [.s w] [.n (Bu w)]:=by
 refine qw I276 ?_;refine cB (By h) ?_
 cases hd:AK w;simp(disch:=omega) only[AD,hd];exact Dn (by simp[Bu,hd]);obtain⟨o,B⟩:=Lg hd;simp(disch:=omega) only[AD,hd];refine BE (λi (x:Nat×Nat×Nat)=>gw x.2.1 x.2.2 (w.drop i)/\x.2.2<=8/\x.1+DT (w.drop i) x.2.1 x.2.2=DT w (w.length/2) (w.length/2)/\x.1<=1430*i) (λi x=>[.s w,.u,.n x.2.1,.n x.2.2,.n x.1,.n i,.u,.u,.u,.u]) w.length (0,w.length/2,w.length/2) ⟨by simpa using o,by simp only;omega,by simp,by simp⟩ (by simp only[];rfl) (λi x hi P=>?_) (λx P=>?_);obtain⟨k,u,d⟩:=x;obtain⟨b,f,H,j⟩:=P;simp only at b f H j;rw[EJ hi]at b H;by_cases e:AI w i=117;rw[e]at b H;obtain⟨U,rfl,g⟩:=VD b;simp only[DT,if_true,Nat.add_sub_cancel]at H;have G:=g.1;simp(disch:=omega) only[AD,e];exact⟨(k,U,d),⟨g,f,H,by simp only;omega⟩,by simp⟩;obtain⟨c,q,g⟩:=Sr b e;obtain⟨a,rfl⟩:∃a,d=a+1:=⟨d-1,by omega⟩;simp only[DT,if_neg e,Nat.add_sub_cancel]at H g
 cases u with
 |zero=>
  have l:EA 0 (a+1)=0:=rfl
  simp(disch:=omega) only[AD,c]
  exact⟨(k,0,a),⟨g,by simp only;omega,by simp only;omega,by simp only;omega⟩,by simp⟩
 |succ u=>
  have l:EA (u+1) (a+1)=bw u (a+1):=rfl
  have C:=Jt (u:=u) (d:=a+1) (by omega) (by omega)
  simp(disch:=omega) only[AD,c,Bl]
  refine cW (AI8 (u:=u) (d:=a+1) (by omega) (by omega)) ?_
  exact⟨(k+bw u (a+1),u+1,a),⟨g,by simp only;omega,by simp only;omega,by simp only;omega⟩,by simp⟩
 obtain⟨k,u,d⟩:=x;obtain⟨b,f,H,j⟩:=P;rw[List.drop_length]at H;simp only[DT]at H;refine wW ?_;exact Dn (by simp only[Bu,hd,if_true];omega)
def DE(n k:Int):Bool:=decide (0<=n/\n<=8/\0<=k/\k<bw n.toNat n.toNat)
def Ea(n k:Int):List Nat:=if DE n k=true then Cv (2*n.toNat) n.toNat n.toNat k.toNat else []
end Go.Cat
namespace Go.Cat
variable{K:Nat->List D->List D->Prop}
set_option maxRecDepth 100000
theorem Vx:∀(n u d k:Nat),∀c∈Cv n u d k,c<256
 |0,_,_,_,c,h=>by simp[Cv]at h
 |n+1,u,d,k,c,h=>by unfold Cv at h;split at h;rcases AY.1 h with rfl|h;omega;exact Vx n _ _ _ c h;rcases AY.1 h with rfl|h;omega;exact Vx n _ _ _ c h
theorem Yi{u d k:Nat}(h:k<bw u d):Cv (u+1+d) (u+1) d k=117::Cv (u+d) u d k:=by rw[show u+1+d=(u+d)+1 by omega];rw[Cv,if_pos (show k<EA (u+1) d from h),Nat.add_sub_cancel]
theorem QR{u d k:Nat}(h:EA u (d+1)<=k):Cv (u+(d+1)) u (d+1) k=100::Cv (u+d) u d (k-EA u (d+1)):=by rw[show u+(d+1)=(u+d)+1 by omega];rw[Cv,if_neg (by omega),Nat.add_sub_cancel]
theorem OV{n:Nat}{k:Nat}(h:n<=8)(H:k<bw n n):DE n k=true:=by simp only[DE,Ad,BM];omega
theorem Qg{n:Nat}{k:Nat}(h:n<=8)(H:k<bw n n):Ea n k=Cv (n+n) n n k:=by simp only[Ea,OV h H,if_true,BM];rw[show 2*n=n+n by omega]
theorem LD{n k:Int}(h:DE n k=false):Ea n k=[]:=by simp[Ea,h]
theorem un_i[HA K]{a b:Int}:K 271 [.n a,.n b] [.s (Ea a b),.b (DE a b)]:=by
 refine qw I271 ?_;refine cB CN ?_
 cases e:A4 0 8 a;have o:DE a b=false:=by have:=I3.1 e;simp only[DE,decide_eq_false_iff_not];omega
 refine wW ?_;rw[LD o,o];have e:=Af.1 e;obtain⟨n,rfl⟩:=CZ e.1;have J:=UQ (n:=n) (by omega);have P:=Jt (u:=n) (d:=n) (by omega) (by omega);refine wW ?_;refine cB (AEH (n:=n) (by omega)) ?_;rw[<-J];refine wW ?_;refine cB CN ?_
 cases f:A4 0 ((bw n n:Int)-1) b;have o:DE n b=false:=by have:=I3.1 f;simp only[DE,decide_eq_false_iff_not,BM];omega
 refine wW ?_;rw[LD o,o];have f:=Af.1 f;obtain⟨i,rfl⟩:=CZ f.1;have H:i<bw n n:=by omega
 rw[Qg (by omega) H,OV (by omega) H];simp(disch:=try exact dV) only[AD,AJ7];refine Bd (λ(x:List Nat×Nat×Nat×Nat)=>x.2.1<=x.2.2.1/\x.2.2.1<=8/\x.2.2.2<bw x.2.1 x.2.2.1/\x.1++Cv (x.2.1+x.2.2.1) x.2.1 x.2.2.1 x.2.2.2=Cv (n+n) n n i/\x.1.length+x.2.1+x.2.2.1=2*n) (λx=>[.u,.n x.2.2.2,.u,.u,LB x.1,.n x.2.1,.n x.2.2.1,.u,.u,.u,.u,.u]) (λx=>x.2.1+x.2.2.1) ([],n,n,i) ⟨by simp,by simp only;omega,H,by simp,by simp;omega⟩ rfl ?_;rintro⟨w,u,d,k⟩ ⟨G,C,F,g,I⟩;simp only at G C F g I|-
 cases d with
 |zero=>
  have N:u=0:=by omega
  subst N
  simp only[Cv,List.append_nil]at g
  have l:=Vx (n+n) n n i
  rw[<-g]at l
  rw[<-g]
  simp(disch:=try exact dV) only[AD,QP l]
 |succ d=>
  have L:=Jt (u:=u) (d:=d+1) (by omega) (by omega)
  have M:=Mq G (by omega)
  simp only[Nat.add_sub_cancel]at M
  have c:¬u<=d->bw u d=0:=λh=>UN (by omega)
  cases u with
  |zero=>
   have j:EA 0 (d+1)=0:=rfl
   rw[QR (by omega),j]at g
   refine wW ?_
   exact⟨(w++[100],0,d,k-0),by simp only;omega,⟨by simp only;omega,by simp only;omega,by simp only;omega,by simp only;rw[<-g];simp,by simp;omega⟩,by simp⟩
  |succ u=>
   have j:EA (u+1) (d+1)=bw u (d+1):=rfl
   simp(disch:=try exact dV) only[AD,Bl]
   refine cB (AKB (u:=u) (d:=d+1) (by omega) (by omega)) ?_
   by_cases B:k<bw u (d+1)
   .rw[Yi B]at g
    simp(disch:=try exact dV) only[AD,Bl]
    exact⟨(w++[117],u,d+1,k),by simp only;omega,⟨by simp only;omega,by simp only;omega,B,by simp only;rw[<-g];simp,by simp;omega⟩,by simp⟩
   .rw[QR (by omega),j]at g
    refine wW ?_
    have O:u+1<=d:=by
     rcases B7 d (u+1)with q|q
     .have:=c (by omega);omega
     .exact q
    exact⟨(w++[100],u+1,d,k-bw u (d+1)),by simp only;omega,⟨by simp only;omega,by simp only;omega,by simp only;omega,by simp only;rw[<-g];simp,by simp;omega⟩,by simp only[Int.natCast_sub];simp;omega⟩
theorem Wi[HA K]{a b:Int}:K 272 [.n a,.n b] [.s (Ea a b),.b (DE a b)]:=by
 refine qw I272 ?_;refine cB Cl ?_
 cases e:A4 0 8 a;have o:DE a b=false:=by have:=I3.1 e;simp only[DE,decide_eq_false_iff_not];omega
 refine wW ?_;rw[LD o,o];have e:=Af.1 e;obtain⟨n,rfl⟩:=CZ e.1;have I:=UQ (n:=n) (by omega);have P:=Jt (u:=n) (d:=n) (by omega) (by omega);by_cases F:b<0;have o:DE n b=false:=by simp only[DE,decide_eq_false_iff_not];omega
 refine wW ?_;rw[LD o,o];refine wW ?_;refine cB (TE (n:=n) (by omega)) ?_;rw[<-I];by_cases O:(bw n n:Int)<=b;have o:DE n b=false:=by simp only[DE,decide_eq_false_iff_not,BM];omega
 refine wW ?_;rw[LD o,o];obtain⟨i,rfl⟩:=CZ (show 0<=b by omega);have H:i<bw n n:=by omega
 rw[Qg (by omega) H,OV (by omega) H];refine wW ?_;refine Bd (λ(x:List Nat×Nat×Nat×Nat)=>x.2.1<=x.2.2.1/\x.2.2.1<=8/\x.2.2.2<bw x.2.1 x.2.2.1/\x.1++Cv (x.2.1+x.2.2.1) x.2.1 x.2.2.1 x.2.2.2=Cv (n+n) n n i/\x.1.length+x.2.1+x.2.2.1=2*n) (λx=>[.u,.n x.2.2.2,.u,.u,.s x.1,.n x.2.1,.n x.2.2.1,.u,.u,.u,.u,.u]) (λx=>x.2.1+x.2.2.1) ([],n,n,i) ⟨by simp,by simp only;omega,H,by simp,by simp;omega⟩ rfl ?_;rintro⟨w,u,d,k⟩ ⟨G,l,B,g,C⟩;simp only at G l B g C|-
 cases d with
 |zero=>
  have M:u=0:=by omega
  subst M
  simp only[Cv,List.append_nil]at g
  rw[<-g]
  exact wZ
 |succ d=>
  have J:=Jt (u:=u) (d:=d+1) (by omega) (by omega)
  have L:=Mq G (by omega)
  simp only[Nat.add_sub_cancel]at L
  have c:¬u<=d->bw u d=0:=λh=>UN (by omega)
  cases u with
  |zero=>
   have f:EA 0 (d+1)=0:=rfl
   rw[QR (by omega),f]at g
   refine wW ?_
   exact⟨(w++[100],0,d,k-0),by simp only;omega,⟨by simp only;omega,by simp only;omega,by simp only;omega,by simp only;rw[<-g];simp,by simp;omega⟩,by simp⟩
  |succ u=>
   have f:EA (u+1) (d+1)=bw u (d+1):=rfl
   simp(disch:=try exact dV) only[AD,Bl]
   refine cB (AI8 (u:=u) (d:=d+1) (by omega) (by omega)) ?_
   by_cases j:k<bw u (d+1)
   .rw[Yi j]at g
    simp(disch:=try exact dV) only[AD,Bl]
    exact⟨(w++[117],u,d+1,k),by simp only;omega,⟨by simp only;omega,by simp only;omega,j,by simp only;rw[<-g];simp,by simp;omega⟩,by simp⟩
   .rw[QR (by omega),f]at g
    refine wW ?_
    have N:u+1<=d:=by
     rcases B7 d (u+1)with q|q
     .have:=c (by omega);omega
     .exact q
    exact⟨(w++[100],u+1,d,k-bw u (d+1)),by simp only;omega,⟨by simp only;omega,by simp only;omega,by simp only;omega,by simp only;rw[<-g];simp,by simp;omega⟩,by simp only[Int.natCast_sub];simp;omega⟩
end Go.Cat
