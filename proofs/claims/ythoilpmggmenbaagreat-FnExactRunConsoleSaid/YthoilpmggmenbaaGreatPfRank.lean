/-
 Paths and their ranks: the plain law, and the walks.
-/
import Derived.Test.YthoilpmggmenbaaGreatPfStat
set_option linter.unusedSimpArgs false
set_option linter.unusedVariables false
namespace Go.Cat
variable{K:Nat->List D->List D->Prop}
set_option maxRecDepth 100000
theorem AJJ{u d:Nat}:bw (u+1) (d+1)=if d<u then 0 else bw u (d+1)+bw (u+1) d:=rfl
theorem AB1{d:Nat}:bw 0 d=1:=rfl
theorem YV{u d:Nat}(h:d<u):bw u d=0:=by
 cases u with
 |zero=>omega
 |succ u=>
  cases d with
  |zero=>rfl
  |succ d=>rw[AJJ,if_pos (by omega)]
def EW(u d:Nat):Nat:=match u with
 |0=>0
 |u+1=>bw u d
theorem PC{u d:Nat}(h:u<=d)(hd:0<d):bw u d=EW u d+bw u (d-1):=by
 cases d with
 |zero=>omega
 |succ d=>
  cases u with
  |zero=>rfl
  |succ u=>rw[AJJ,if_neg (by omega)];rfl
def DM:Nat->Nat->Nat->Nat->List Nat
 |0,_,_,_=>[]
 |n+1,u,d,k=>if k<EW u d then 117::DM n (u-1) d k else 100::DM n u (d-1) (k-EW u d)
def Dm:List Nat->Nat->Nat->Nat
 |[],_,_=>0
 |c::w,u,d=>if c=117 then Dm w (u-1) d else EW u d+Dm w u (d-1)
def gw(u d:Nat)(w:List Nat):Prop:=u<=d/\w.length=u+d/\Bl w ((d:Int)-u)=some 0
theorem Tm:∀{w:List Nat}{h k:Int},Bl w h=some k->h<=k+w.length
 |[],h,k,e=>by simp only[Bl,AL]at e;subst e;simp
 |c::w,h,k,e=>by
  simp only[Bl]at e;simp only[AO];split at e;have:=Tm e;omega;split at e;split at e
  cases e;have:=Tm e;omega
  cases e
theorem XT{u d:Nat}{w:List Nat}(h:gw u d (117::w)):∃U,u=U+1/\gw U d w:=by
 obtain⟨b,a,H⟩:=h;simp only[Bl,if_true]at H;have:=Tm H;simp only[AO]at a
 cases u with
 |zero=>omega
 |succ u=>exact⟨u,rfl,by omega,by omega,by rw[<-H];congr 1;omega⟩
theorem X0{u d:Nat}{w:List Nat}{c:Nat}(h:gw u d (c::w))(e:c≠117):c=100/\u<d/\gw u (d-1) w:=by
 obtain⟨f,b,H⟩:=h;simp only[Bl,if_neg e]at H;split at H;rename_i a;split at H
 cases H;simp only[AO]at b;refine⟨a,by omega,by omega,by omega,?_⟩;rw[<-H];congr 1;omega
 cases H
theorem Wf:∀{w:List Nat}{h k:Int},Bl w h=some k->∃q:Int,k+w.length=h+2*q
 |[],h,k,e=>by simp only[Bl,AL]at e;subst e;exact⟨0,by simp⟩
 |c::w,h,k,e=>by
  simp only[Bl]at e;simp only[AO];split at e;obtain⟨q,H⟩:=Wf e;exact⟨q+1,by omega⟩;split at e;split at e
  cases e;obtain⟨q,H⟩:=Wf e;exact⟨q,by omega⟩
  cases e
theorem Nt{w:List Nat}(h:AK w=true):gw (w.length/2) (w.length/2) w/\w.length<=16:=by
 obtain⟨H,a⟩:Bl w 0=some 0/\w.length<=16:=by simpa[AK]using h
 obtain⟨q,b⟩:=Wf H;exact⟨⟨by omega,by omega,by rw[<-H];congr 1;omega⟩,a⟩
theorem AUB{u d:Nat}(h:u<=d):EW u d<=bw u d:=by
 cases d with
 |zero=>
  have:u=0:=by omega
  subst this;simp[EW]
 |succ d=>rw[PC h (by omega)];omega
theorem Wq:∀(n u d k:Nat),u<=d->u+d=n->k<bw u d->gw u d (DM n u d k)/\Dm (DM n u d k) u d=k
 |0,u,d,k=>λh e a=>by
  have f:u=0:=by omega
  have hd:d=0:=by omega
  subst f hd
  rw[AB1]at a
  exact⟨⟨by omega,rfl,rfl⟩,by simp[DM,Dm];omega⟩
 |n+1,u,d,k=>λh e a=>by
  unfold DM
  split
  rename_i H
  cases u with
  |zero=>simp[EW]at H
  |succ u=>
   obtain⟨⟨b,c,g⟩,G⟩:=Wq n u d k (by omega) (by omega) H
   simp only[Nat.add_sub_cancel]
   refine⟨⟨h,by simp only[AO];omega,?_⟩,?_⟩
   .simp only[Bl,if_true]
    rw[<-g];congr 1;omega
   .simp only[Dm,if_true,Nat.add_sub_cancel];exact G
  rename_i H
  have hd:0<d:=by omega
  have s:=PC h hd
  have i:u<d:=by
   rcases BS u d with q|q
   exact q
   have:bw u (d-1)=0:=YV (by omega)
   omega
  obtain⟨⟨b,c,g⟩,G⟩:=Wq n u (d-1) (k-EW u d) (by omega) (by omega) (by omega)
  refine⟨⟨h,by simp only[AO];omega,?_⟩,?_⟩
  simp only[Bl]
  rw[if_neg (by omega),if_pos trivial,if_neg (by omega),<-g];congr 1;omega
  simp only[Dm]
  rw[if_neg (by omega),G];omega
theorem Sy:∀(w:List Nat)(u d:Nat),gw u d w->Dm w u d<bw u d/\DM (u+d) u d (Dm w u d)=w
 |[],u,d=>λh=>by
  obtain⟨i,b,_⟩:=h;simp only[A6]at b;have f:u=0:=by omega
  have hd:d=0:=by omega
  subst f hd;exact⟨by simp[Dm,AB1],rfl⟩
 |c::w,u,d=>λh=>by by_cases a:c=117;subst a;obtain⟨U,rfl,H⟩:=XT h;obtain⟨Q,q⟩:=Sy w U d H;have j:EW (U+1) d=bw U d:=rfl;have e:=AUB h.1;simp only[Dm,if_true,Nat.add_sub_cancel];refine⟨by omega,?_⟩;rw[show U+1+d=(U+d)+1 by omega];unfold DM;rw[if_pos (by omega),Nat.add_sub_cancel,q];obtain⟨rfl,g,H⟩:=X0 h a;obtain⟨Q,q⟩:=Sy w u (d-1) H;have s:=PC h.1 (by omega);simp only[Dm,if_neg a];refine⟨by omega,?_⟩;rw[show u+d=(u+(d-1))+1 by omega];unfold DM;rw[if_neg (by omega),Nat.add_sub_cancel_left,q]
theorem bwM:BR 9 (λd=>BR (d+1) λu=>decide (bw u d<=1430))=true:=by kernel_rfl
theorem MK{u d:Nat}(h:u<=d)(hd:d<9):bw u d<=1430:=of_decide_eq_true (BY (BY bwM d hd) u (by omega))
theorem bwC:BR 16 (λn=>decide ((bw n n:Int)=JH.getD n 0))=true:=by kernel_rfl
theorem AEV{n:Nat}(h:n<16):(bw n n:Int)=JH.getD n 0:=of_decide_eq_true (BY bwC n h)
def CI(w:List Nat):Int:=if AK w=true then Dm w (w.length/2) (w.length/2)else -1
theorem ACG[HA K]{w:List Nat}(h:w.length<=1000000000):K 273 [.s w] [.n (CI w)]:=by
 refine qw I273 ?_;refine cB (Bv h) ?_
 cases hd:AK w;simp(disch:=omega) only[AD,hd];exact Dn (by simp[CI,hd]);obtain⟨o,B⟩:=Nt hd;simp(disch:=omega) only[AD,hd];refine Aj (λi (x:Nat×Nat×Nat)=>gw x.2.1 x.2.2 (w.drop i)/\x.2.2<=8/\x.1+Dm (w.drop i) x.2.1 x.2.2=Dm w (w.length/2) (w.length/2)/\x.1<=1430*i) (λi x=>[.s w,.u,.n x.1,.n x.2.1,.n x.2.2,.n i,.u,.u,.u,.u]) w.length (0,w.length/2,w.length/2) ⟨by simpa using o,by simp only;omega,by simp,by simp⟩ (by simp only[];rfl) (λi x hi P=>?_) (λx P=>?_);obtain⟨k,u,d⟩:=x;obtain⟨b,f,H,j⟩:=P;simp only at b f H j;rw[EF hi]at b H;by_cases e:AH w i=117;rw[e]at b H;obtain⟨U,rfl,g⟩:=XT b;simp only[Dm,if_true,Nat.add_sub_cancel]at H;have G:=g.1;simp(disch:=omega) only[AD,e];exact⟨(k,U,d),⟨g,f,H,by simp only;omega⟩,by simp⟩;obtain⟨c,q,g⟩:=X0 b e;obtain⟨a,rfl⟩:∃a,d=a+1:=⟨d-1,by omega⟩;simp only[Dm,if_neg e,Nat.add_sub_cancel]at H g
 cases u with
 |zero=>
  have l:EW 0 (a+1)=0:=rfl
  simp(disch:=omega) only[AD,c]
  exact⟨(k,0,a),⟨g,by simp only;omega,by simp only;omega,by simp only;omega⟩,by simp⟩
 |succ u=>
  have l:EW (u+1) (a+1)=bw u (a+1):=rfl
  have C:=MK (u:=u) (d:=a+1) (by omega) (by omega)
  simp(disch:=omega) only[AD,c,Bm]
  refine cW (Zz (u:=u) (d:=a+1) (by omega) (by omega)) ?_
  exact⟨(k+bw u (a+1),u+1,a),⟨g,by simp only;omega,by simp only;omega,by simp only;omega⟩,by simp⟩
 obtain⟨k,u,d⟩:=x;obtain⟨b,f,H,j⟩:=P;rw[List.drop_length]at H;simp only[Dm]at H;refine wW ?_;exact Dn (by simp only[CI,hd,if_true];omega)
theorem AQ3[HA K]{w:List Nat}(h:w.length<=1000000000):K 276 [.s w] [.n (CI w)]:=by
 refine qw I276 ?_;refine cB (Br h) ?_
 cases hd:AK w;simp(disch:=omega) only[AD,hd];exact Dn (by simp[CI,hd]);obtain⟨o,B⟩:=Nt hd;simp(disch:=omega) only[AD,hd];refine Aj (λi (x:Nat×Nat×Nat)=>gw x.2.1 x.2.2 (w.drop i)/\x.2.2<=8/\x.1+Dm (w.drop i) x.2.1 x.2.2=Dm w (w.length/2) (w.length/2)/\x.1<=1430*i) (λi x=>[.s w,.u,.n x.2.1,.n x.2.2,.n x.1,.n i,.u,.u,.u,.u]) w.length (0,w.length/2,w.length/2) ⟨by simpa using o,by simp only;omega,by simp,by simp⟩ (by simp only[];rfl) (λi x hi P=>?_) (λx P=>?_);obtain⟨k,u,d⟩:=x;obtain⟨b,f,H,j⟩:=P;simp only at b f H j;rw[EF hi]at b H;by_cases e:AH w i=117;rw[e]at b H;obtain⟨U,rfl,g⟩:=XT b;simp only[Dm,if_true,Nat.add_sub_cancel]at H;have G:=g.1;simp(disch:=omega) only[AD,e];exact⟨(k,U,d),⟨g,f,H,by simp only;omega⟩,by simp⟩;obtain⟨c,q,g⟩:=X0 b e;obtain⟨a,rfl⟩:∃a,d=a+1:=⟨d-1,by omega⟩;simp only[Dm,if_neg e,Nat.add_sub_cancel]at H g
 cases u with
 |zero=>
  have l:EW 0 (a+1)=0:=rfl
  simp(disch:=omega) only[AD,c]
  exact⟨(k,0,a),⟨g,by simp only;omega,by simp only;omega,by simp only;omega⟩,by simp⟩
 |succ u=>
  have l:EW (u+1) (a+1)=bw u (a+1):=rfl
  have C:=MK (u:=u) (d:=a+1) (by omega) (by omega)
  simp(disch:=omega) only[AD,c,Bm]
  refine cW (ADP (u:=u) (d:=a+1) (by omega) (by omega)) ?_
  exact⟨(k+bw u (a+1),u+1,a),⟨g,by simp only;omega,by simp only;omega,by simp only;omega⟩,by simp⟩
 obtain⟨k,u,d⟩:=x;obtain⟨b,f,H,j⟩:=P;rw[List.drop_length]at H;simp only[Dm]at H;refine wW ?_;exact Dn (by simp only[CI,hd,if_true];omega)
def Di(n k:Int):Bool:=decide (0<=n/\n<=8/\0<=k/\k<bw n.toNat n.toNat)
def FH(n k:Int):List Nat:=if Di n k=true then DM (2*n.toNat) n.toNat n.toNat k.toNat else []
end Go.Cat
namespace Go.Cat
variable{K:Nat->List D->List D->Prop}
set_option maxRecDepth 100000
theorem VP:∀(n u d k:Nat),∀c∈DM n u d k,c<256
 |0,_,_,_,c,h=>by simp[DM]at h
 |n+1,u,d,k,c,h=>by unfold DM at h;split at h;rcases A7.1 h with rfl|h;omega;exact VP n _ _ _ c h;rcases A7.1 h with rfl|h;omega;exact VP n _ _ _ c h
theorem APG{u d k:Nat}(h:k<bw u d):DM (u+1+d) (u+1) d k=117::DM (u+d) u d k:=by rw[show u+1+d=(u+d)+1 by omega];rw[DM,if_pos (show k<EW (u+1) d from h),Nat.add_sub_cancel]
theorem S4{u d k:Nat}(h:EW u (d+1)<=k):DM (u+(d+1)) u (d+1) k=100::DM (u+d) u d (k-EW u (d+1)):=by rw[show u+(d+1)=(u+d)+1 by omega];rw[DM,if_neg (by omega),Nat.add_sub_cancel]
theorem R1{n:Nat}{k:Nat}(h:n<=8)(H:k<bw n n):Di n k=true:=by simp only[Di,Aa,BM];omega
theorem T8{n:Nat}{k:Nat}(h:n<=8)(H:k<bw n n):FH n k=DM (n+n) n n k:=by simp only[FH,R1 h H,if_true,BM];rw[show 2*n=n+n by omega]
theorem Mm{n k:Int}(h:Di n k=false):FH n k=[]:=by simp[FH,h]
theorem un_i[HA K]{a b:Int}:K 271 [.n a,.n b] [.s (FH a b),.b (Di a b)]:=by
 refine qw I271 ?_;refine cB Bq ?_
 cases e:AR 0 8 a;have o:Di a b=false:=by have:=JB.1 e;simp only[Di,decide_eq_false_iff_not];omega
 refine wW ?_;rw[Mm o,o];have e:=A5.1 e;obtain⟨n,rfl⟩:=CE e.1;have J:=AEV (n:=n) (by omega);have P:=MK (u:=n) (d:=n) (by omega) (by omega);refine wW ?_;refine cB (AGY (n:=n) (by omega)) ?_;rw[<-J];refine wW ?_;refine cB Bq ?_
 cases f:AR 0 ((bw n n:Int)-1) b;have o:Di n b=false:=by have:=JB.1 f;simp only[Di,decide_eq_false_iff_not,BM];omega
 refine wW ?_;rw[Mm o,o];have f:=A5.1 f;obtain⟨i,rfl⟩:=CE f.1;have H:i<bw n n:=by omega
 rw[T8 (by omega) H,R1 (by omega) H];simp(disch:=try exact dV) only[AD,AA8];refine Bj (λ(x:List Nat×Nat×Nat×Nat)=>x.2.1<=x.2.2.1/\x.2.2.1<=8/\x.2.2.2<bw x.2.1 x.2.2.1/\x.1++DM (x.2.1+x.2.2.1) x.2.1 x.2.2.1 x.2.2.2=DM (n+n) n n i/\x.1.length+x.2.1+x.2.2.1=2*n) (λx=>[.u,.n x.2.2.2,.u,.u,LB x.1,.n x.2.1,.n x.2.2.1,.u,.u,.u,.u,.u]) (λx=>x.2.1+x.2.2.1) ([],n,n,i) ⟨by simp,by simp only;omega,H,by simp,by simp;omega⟩ rfl ?_;rintro⟨w,u,d,k⟩ ⟨G,C,F,g,I⟩;simp only at G C F g I|-
 cases d with
 |zero=>
  have N:u=0:=by omega
  subst N
  simp only[DM,List.append_nil]at g
  have l:=VP (n+n) n n i
  rw[<-g]at l
  rw[<-g]
  simp(disch:=try exact dV) only[AD,Py l]
 |succ d=>
  have L:=MK (u:=u) (d:=d+1) (by omega) (by omega)
  have M:=PC G (by omega)
  simp only[Nat.add_sub_cancel]at M
  have c:¬u<=d->bw u d=0:=λh=>YV (by omega)
  cases u with
  |zero=>
   have j:EW 0 (d+1)=0:=rfl
   rw[S4 (by omega),j]at g
   refine wW ?_
   exact⟨(w++[100],0,d,k-0),by simp only;omega,⟨by simp only;omega,by simp only;omega,by simp only;omega,by simp only;rw[<-g];simp,by simp;omega⟩,by simp⟩
  |succ u=>
   have j:EW (u+1) (d+1)=bw u (d+1):=rfl
   simp(disch:=try exact dV) only[AD,Bm]
   refine cB (Zz (u:=u) (d:=d+1) (by omega) (by omega)) ?_
   by_cases B:k<bw u (d+1)
   .rw[APG B]at g
    simp(disch:=try exact dV) only[AD,Bm]
    exact⟨(w++[117],u,d+1,k),by simp only;omega,⟨by simp only;omega,by simp only;omega,B,by simp only;rw[<-g];simp,by simp;omega⟩,by simp⟩
   .rw[S4 (by omega),j]at g
    refine wW ?_
    have O:u+1<=d:=by
     rcases BS d (u+1)with q|q
     .have:=c (by omega);omega
     .exact q
    exact⟨(w++[100],u+1,d,k-bw u (d+1)),by simp only;omega,⟨by simp only;omega,by simp only;omega,by simp only;omega,by simp only;rw[<-g];simp,by simp;omega⟩,by simp only[Int.natCast_sub];simp;omega⟩
theorem un_s[HA K]{a b:Int}:K 272 [.n a,.n b] [.s (FH a b),.b (Di a b)]:=by
 refine qw I272 ?_;refine cB Bt ?_
 cases e:AR 0 8 a;have o:Di a b=false:=by have:=JB.1 e;simp only[Di,decide_eq_false_iff_not];omega
 refine wW ?_;rw[Mm o,o];have e:=A5.1 e;obtain⟨n,rfl⟩:=CE e.1;have I:=AEV (n:=n) (by omega);have P:=MK (u:=n) (d:=n) (by omega) (by omega);by_cases F:b<0;have o:Di n b=false:=by simp only[Di,decide_eq_false_iff_not];omega
 refine wW ?_;rw[Mm o,o];refine wW ?_;refine cB (ABF (n:=n) (by omega)) ?_;rw[<-I];by_cases O:(bw n n:Int)<=b;have o:Di n b=false:=by simp only[Di,decide_eq_false_iff_not,BM];omega
 refine wW ?_;rw[Mm o,o];obtain⟨i,rfl⟩:=CE (show 0<=b by omega);have H:i<bw n n:=by omega
 rw[T8 (by omega) H,R1 (by omega) H];refine wW ?_;refine Bj (λ(x:List Nat×Nat×Nat×Nat)=>x.2.1<=x.2.2.1/\x.2.2.1<=8/\x.2.2.2<bw x.2.1 x.2.2.1/\x.1++DM (x.2.1+x.2.2.1) x.2.1 x.2.2.1 x.2.2.2=DM (n+n) n n i/\x.1.length+x.2.1+x.2.2.1=2*n) (λx=>[.u,.n x.2.2.2,.u,.u,.s x.1,.n x.2.1,.n x.2.2.1,.u,.u,.u,.u,.u]) (λx=>x.2.1+x.2.2.1) ([],n,n,i) ⟨by simp,by simp only;omega,H,by simp,by simp;omega⟩ rfl ?_;rintro⟨w,u,d,k⟩ ⟨G,l,B,g,C⟩;simp only at G l B g C|-
 cases d with
 |zero=>
  have M:u=0:=by omega
  subst M
  simp only[DM,List.append_nil]at g
  rw[<-g]
  exact wZ
 |succ d=>
  have J:=MK (u:=u) (d:=d+1) (by omega) (by omega)
  have L:=PC G (by omega)
  simp only[Nat.add_sub_cancel]at L
  have c:¬u<=d->bw u d=0:=λh=>YV (by omega)
  cases u with
  |zero=>
   have f:EW 0 (d+1)=0:=rfl
   rw[S4 (by omega),f]at g
   refine wW ?_
   exact⟨(w++[100],0,d,k-0),by simp only;omega,⟨by simp only;omega,by simp only;omega,by simp only;omega,by simp only;rw[<-g];simp,by simp;omega⟩,by simp⟩
  |succ u=>
   have f:EW (u+1) (d+1)=bw u (d+1):=rfl
   simp(disch:=try exact dV) only[AD,Bm]
   refine cB (ADP (u:=u) (d:=d+1) (by omega) (by omega)) ?_
   by_cases j:k<bw u (d+1)
   .rw[APG j]at g
    simp(disch:=try exact dV) only[AD,Bm]
    exact⟨(w++[117],u,d+1,k),by simp only;omega,⟨by simp only;omega,by simp only;omega,j,by simp only;rw[<-g];simp,by simp;omega⟩,by simp⟩
   .rw[S4 (by omega),f]at g
    refine wW ?_
    have N:u+1<=d:=by
     rcases BS d (u+1)with q|q
     .have:=c (by omega);omega
     .exact q
    exact⟨(w++[100],u+1,d,k-bw u (d+1)),by simp only;omega,⟨by simp only;omega,by simp only;omega,by simp only;omega,by simp only;rw[<-g];simp,by simp;omega⟩,by simp only[Int.natCast_sub];simp;omega⟩
end Go.Cat
