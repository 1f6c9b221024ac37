/-
 Catalan numbers by running.
-/
import Derived.Test.YthoilpmggmenbaaGreatPfRankB
import Derived.Test.YthoilpmggmenbaaGreatPfBT
set_option linter.unusedSimpArgs false
set_option linter.unusedVariables false
namespace Go.Cat
variable{K:Nat->List D->List D->Prop}
set_option maxRecDepth 100000
def JT:List Int:=[1,1,2,5,14,42,132,429,1430,4862,16796,58786,208012,742900,2674440,9694845]
abbrev tcs:List (Nat×IF):=[(79,I79.v),(84,I84.v),(22,MZ.v)]
abbrev ABI:List (Nat×IF):=[(28,I28.v),(27,I27.v),(23,LR.v)]
theorem AaK:BR 16 (λn=>HJ (Ec (E8 tcs) 60 8 79 [.n n]) (JT.getD n 0))=true:=by kernel_rfl
theorem AdJ:BR 16 (λn=>HJ (Ec (E8 ABI) 60 8 28 [.n n]) (JT.getD n 0))=true:=by kernel_rfl
theorem AGM[HA K]{n:Nat}(h:n<16):K 79 [.n n] [.n (JT.getD n 0)]:=run tcs 60 8 79 (IK (BY AaK n h))
theorem AN7[HA K]{n:Nat}(h:n<16):K 28 [.n n] [.n (JT.getD n 0)]:=run ABI 60 8 28 (IK (BY AdJ n h))
end Go.Cat
namespace Go.Cat
variable{K:Nat->List D->List D->Prop}
set_option maxRecDepth 100000
theorem AFE{u d:Nat}:bw (u+1) (d+1)=if d<u then 0 else bw u (d+1)+bw (u+1) d:=rfl
theorem ABM{d:Nat}:bw 0 d=1:=rfl
theorem Wr{u d:Nat}(h:d<u):bw u d=0:=by
 cases u with
 |zero=>omega
 |succ u=>
  cases d with
  |zero=>rfl
  |succ d=>rw[AFE,if_pos (by omega)]
def Ef(u d:Nat):Nat:=match u with
 |0=>0
 |u+1=>bw u d
theorem QS{u d:Nat}(h:u<=d)(hd:0<d):bw u d=Ef u d+bw u (d-1):=by
 cases d with
 |zero=>omega
 |succ d=>
  cases u with
  |zero=>rfl
  |succ u=>rw[AFE,if_neg (by omega)];rfl
def DQ:Nat->Nat->Nat->Nat->List Nat
 |0,_,_,_=>[]
 |n+1,u,d,k=>if k<Ef u d then 117::DQ n (u-1) d k else 100::DQ n u (d-1) (k-Ef u d)
def Dr:List Nat->Nat->Nat->Nat
 |[],_,_=>0
 |c::w,u,d=>if c=117 then Dr w (u-1) d else Ef u d+Dr w u (d-1)
def gw(u d:Nat)(w:List Nat):Prop:=u<=d/\w.length=u+d/\Bm w ((d:Int)-u)=some 0
theorem RX:∀{w:List Nat}{h k:Int},Bm w h=some k->h<=k+w.length
 |[],h,k,e=>by simp only[Bm,AL]at e;subst e;simp
 |c::w,h,k,e=>by
  simp only[Bm]at e;simp only[AP];split at e;have:=RX e;omega;split at e;split at e
  cases e;have:=RX e;omega
  cases e
theorem VE{u d:Nat}{w:List Nat}(h:gw u d (117::w)):∃U,u=U+1/\gw U d w:=by
 obtain⟨b,a,H⟩:=h;simp only[Bm,if_true]at H;have:=RX H;simp only[AP]at a
 cases u with
 |zero=>omega
 |succ u=>exact⟨u,rfl,by omega,by omega,by rw[<-H];congr 1;omega⟩
theorem Xj{u d:Nat}{w:List Nat}{c:Nat}(h:gw u d (c::w))(e:c≠117):c=100/\u<d/\gw u (d-1) w:=by
 obtain⟨f,b,H⟩:=h;simp only[Bm,if_neg e]at H;split at H;rename_i a;split at H
 cases H;simp only[AP]at b;refine⟨a,by omega,by omega,by omega,?_⟩;rw[<-H];congr 1;omega
 cases H
theorem Vc:∀{w:List Nat}{h k:Int},Bm w h=some k->∃q:Int,k+w.length=h+2*q
 |[],h,k,e=>by simp only[Bm,AL]at e;subst e;exact⟨0,by simp⟩
 |c::w,h,k,e=>by
  simp only[Bm]at e;simp only[AP];split at e;obtain⟨q,H⟩:=Vc e;exact⟨q+1,by omega⟩;split at e;split at e
  cases e;obtain⟨q,H⟩:=Vc e;exact⟨q,by omega⟩
  cases e
theorem NN{w:List Nat}(h:AK w=true):gw (w.length/2) (w.length/2) w/\w.length<=16:=by
 obtain⟨H,a⟩:Bm w 0=some 0/\w.length<=16:=by simpa[AK]using h
 obtain⟨q,b⟩:=Vc H;exact⟨⟨by omega,by omega,by rw[<-H];congr 1;omega⟩,a⟩
theorem AeE{u d:Nat}(h:u<=d):Ef u d<=bw u d:=by
 cases d with
 |zero=>
  have:u=0:=by omega
  subst this;simp[Ef]
 |succ d=>rw[QS h (by omega)];omega
theorem XS:∀(n u d k:Nat),u<=d->u+d=n->k<bw u d->gw u d (DQ n u d k)/\Dr (DQ n u d k) u d=k
 |0,u,d,k=>λh e a=>by
  have f:u=0:=by omega
  have hd:d=0:=by omega
  subst f hd
  rw[ABM]at a
  exact⟨⟨by omega,rfl,rfl⟩,by simp[DQ,Dr];omega⟩
 |n+1,u,d,k=>λh e a=>by
  unfold DQ
  split
  rename_i H
  cases u with
  |zero=>simp[Ef]at H
  |succ u=>
   obtain⟨⟨b,c,g⟩,G⟩:=XS n u d k (by omega) (by omega) H
   simp only[Nat.add_sub_cancel]
   refine⟨⟨h,by simp only[AP];omega,?_⟩,?_⟩
   .simp only[Bm,if_true]
    rw[<-g];congr 1;omega
   .simp only[Dr,if_true,Nat.add_sub_cancel];exact G
  rename_i H
  have hd:0<d:=by omega
  have s:=QS h hd
  have i:u<d:=by
   rcases BQ u d with q|q
   exact q
   have:bw u (d-1)=0:=Wr (by omega)
   omega
  obtain⟨⟨b,c,g⟩,G⟩:=XS n u (d-1) (k-Ef u d) (by omega) (by omega) (by omega)
  refine⟨⟨h,by simp only[AP];omega,?_⟩,?_⟩
  simp only[Bm]
  rw[if_neg (by omega),if_pos trivial,if_neg (by omega),<-g];congr 1;omega
  simp only[Dr]
  rw[if_neg (by omega),G];omega
theorem Se:∀(w:List Nat)(u d:Nat),gw u d w->Dr w u d<bw u d/\DQ (u+d) u d (Dr w u d)=w
 |[],u,d=>λh=>by
  obtain⟨i,b,_⟩:=h;simp only[A5]at b;have f:u=0:=by omega
  have hd:d=0:=by omega
  subst f hd;exact⟨by simp[Dr,ABM],rfl⟩
 |c::w,u,d=>λh=>by by_cases a:c=117;subst a;obtain⟨U,rfl,H⟩:=VE h;obtain⟨Q,q⟩:=Se w U d H;have j:Ef (U+1) d=bw U d:=rfl;have e:=AeE h.1;simp only[Dr,if_true,Nat.add_sub_cancel];refine⟨by omega,?_⟩;rw[show U+1+d=(U+d)+1 by omega];unfold DQ;rw[if_pos (by omega),Nat.add_sub_cancel,q];obtain⟨rfl,g,H⟩:=Xj h a;obtain⟨Q,q⟩:=Se w u (d-1) H;have s:=QS h.1 (by omega);simp only[Dr,if_neg a];refine⟨by omega,?_⟩;rw[show u+d=(u+(d-1))+1 by omega];unfold DQ;rw[if_neg (by omega),Nat.add_sub_cancel_left,q]
theorem bwM:BR 9 (λd=>BR (d+1) λu=>decide (bw u d<=1430))=true:=by kernel_rfl
theorem MR{u d:Nat}(h:u<=d)(hd:d<9):bw u d<=1430:=of_decide_eq_true (BY (BY bwM d hd) u (by omega))
theorem bwC:BR 16 (λn=>decide ((bw n n:Int)=JT.getD n 0))=true:=by kernel_rfl
theorem ADL{n:Nat}(h:n<16):(bw n n:Int)=JT.getD n 0:=of_decide_eq_true (BY bwC n h)
def CN(w:List Nat):Int:=if AK w=true then Dr w (w.length/2) (w.length/2)else -1
theorem AEG[HA K]{w:List Nat}(h:w.length<=1000000000):K 273 [.s w] [.n (CN w)]:=by
 refine qw I273 ?_;refine cB (Bz h) ?_
 cases hd:AK w;simp(disch:=omega) only[AD,hd];exact Dn (by simp[CN,hd]);obtain⟨o,B⟩:=NN hd;simp(disch:=omega) only[AD,hd];refine Ah (λi (x:Nat×Nat×Nat)=>gw x.2.1 x.2.2 (w.drop i)/\x.2.2<=8/\x.1+Dr (w.drop i) x.2.1 x.2.2=Dr w (w.length/2) (w.length/2)/\x.1<=1430*i) (λi x=>[.s w,.u,.n x.1,.n x.2.1,.n x.2.2,.n i,.u,.u,.u,.u]) w.length (0,w.length/2,w.length/2) ⟨by simpa using o,by simp only;omega,by simp,by simp⟩ (by simp only[];rfl) (λi x hi P=>?_) (λx P=>?_);obtain⟨k,u,d⟩:=x;obtain⟨b,f,H,j⟩:=P;simp only at b f H j;rw[EN hi]at b H;by_cases e:AH w i=117;rw[e]at b H;obtain⟨U,rfl,g⟩:=VE b;simp only[Dr,if_true,Nat.add_sub_cancel]at H;have G:=g.1;simp(disch:=omega) only[AD,e];exact⟨(k,U,d),⟨g,f,H,by simp only;omega⟩,by simp⟩;obtain⟨c,q,g⟩:=Xj b e;obtain⟨a,rfl⟩:∃a,d=a+1:=⟨d-1,by omega⟩;simp only[Dr,if_neg e,Nat.add_sub_cancel]at H g
 cases u with
 |zero=>
  have l:Ef 0 (a+1)=0:=rfl
  simp(disch:=omega) only[AD,c]
  exact⟨(k,0,a),⟨g,by simp only;omega,by simp only;omega,by simp only;omega⟩,by simp⟩
 |succ u=>
  have l:Ef (u+1) (a+1)=bw u (a+1):=rfl
  have C:=MR (u:=u) (d:=a+1) (by omega) (by omega)
  simp(disch:=omega) only[AD,c,Bq]
  refine cW (AI4 (u:=u) (d:=a+1) (by omega) (by omega)) ?_
  exact⟨(k+bw u (a+1),u+1,a),⟨g,by simp only;omega,by simp only;omega,by simp only;omega⟩,by simp⟩
 obtain⟨k,u,d⟩:=x;obtain⟨b,f,H,j⟩:=P;rw[List.drop_length]at H;simp only[Dr]at H;refine wW ?_;exact Dn (by simp only[CN,hd,if_true];omega)
theorem AT5[HA K]{w:List Nat}(h:w.length<=1000000000):K 276 [.s w] [.n (CN w)]:=by
 refine qw I276 ?_;refine cB (Bu h) ?_
 cases hd:AK w;simp(disch:=omega) only[AD,hd];exact Dn (by simp[CN,hd]);obtain⟨o,B⟩:=NN hd;simp(disch:=omega) only[AD,hd];refine Ah (λi (x:Nat×Nat×Nat)=>gw x.2.1 x.2.2 (w.drop i)/\x.2.2<=8/\x.1+Dr (w.drop i) x.2.1 x.2.2=Dr w (w.length/2) (w.length/2)/\x.1<=1430*i) (λi x=>[.s w,.u,.n x.2.1,.n x.2.2,.n x.1,.n i,.u,.u,.u,.u]) w.length (0,w.length/2,w.length/2) ⟨by simpa using o,by simp only;omega,by simp,by simp⟩ (by simp only[];rfl) (λi x hi P=>?_) (λx P=>?_);obtain⟨k,u,d⟩:=x;obtain⟨b,f,H,j⟩:=P;simp only at b f H j;rw[EN hi]at b H;by_cases e:AH w i=117;rw[e]at b H;obtain⟨U,rfl,g⟩:=VE b;simp only[Dr,if_true,Nat.add_sub_cancel]at H;have G:=g.1;simp(disch:=omega) only[AD,e];exact⟨(k,U,d),⟨g,f,H,by simp only;omega⟩,by simp⟩;obtain⟨c,q,g⟩:=Xj b e;obtain⟨a,rfl⟩:∃a,d=a+1:=⟨d-1,by omega⟩;simp only[Dr,if_neg e,Nat.add_sub_cancel]at H g
 cases u with
 |zero=>
  have l:Ef 0 (a+1)=0:=rfl
  simp(disch:=omega) only[AD,c]
  exact⟨(k,0,a),⟨g,by simp only;omega,by simp only;omega,by simp only;omega⟩,by simp⟩
 |succ u=>
  have l:Ef (u+1) (a+1)=bw u (a+1):=rfl
  have C:=MR (u:=u) (d:=a+1) (by omega) (by omega)
  simp(disch:=omega) only[AD,c,Bq]
  refine cW (AIX (u:=u) (d:=a+1) (by omega) (by omega)) ?_
  exact⟨(k+bw u (a+1),u+1,a),⟨g,by simp only;omega,by simp only;omega,by simp only;omega⟩,by simp⟩
 obtain⟨k,u,d⟩:=x;obtain⟨b,f,H,j⟩:=P;rw[List.drop_length]at H;simp only[Dr]at H;refine wW ?_;exact Dn (by simp only[CN,hd,if_true];omega)
def Dm(n k:Int):Bool:=decide (0<=n/\n<=8/\0<=k/\k<bw n.toNat n.toNat)
def F7(n k:Int):List Nat:=if Dm n k=true then DQ (2*n.toNat) n.toNat n.toNat k.toNat else []
end Go.Cat
namespace Go.Cat
variable{K:Nat->List D->List D->Prop}
set_option maxRecDepth 100000
theorem Yf:∀(n u d k:Nat),∀c∈DQ n u d k,c<256
 |0,_,_,_,c,h=>by simp[DQ]at h
 |n+1,u,d,k,c,h=>by unfold DQ at h;split at h;rcases A6.1 h with rfl|h;omega;exact Yf n _ _ _ c h;rcases A6.1 h with rfl|h;omega;exact Yf n _ _ _ c h
theorem AQD{u d k:Nat}(h:k<bw u d):DQ (u+1+d) (u+1) d k=117::DQ (u+d) u d k:=by rw[show u+1+d=(u+d)+1 by omega];rw[DQ,if_pos (show k<Ef (u+1) d from h),Nat.add_sub_cancel]
theorem Tb{u d k:Nat}(h:Ef u (d+1)<=k):DQ (u+(d+1)) u (d+1) k=100::DQ (u+d) u d (k-Ef u (d+1)):=by rw[show u+(d+1)=(u+d)+1 by omega];rw[DQ,if_neg (by omega),Nat.add_sub_cancel]
theorem Qe{n:Nat}{k:Nat}(h:n<=8)(H:k<bw n n):Dm n k=true:=by simp only[Dm,Ac,BM];omega
theorem UJ{n:Nat}{k:Nat}(h:n<=8)(H:k<bw n n):F7 n k=DQ (n+n) n n k:=by simp only[F7,Qe h H,if_true,BM];rw[show 2*n=n+n by omega]
theorem NP{n k:Int}(h:Dm n k=false):F7 n k=[]:=by simp[F7,h]
theorem un_i[HA K]{a b:Int}:K 271 [.n a,.n b] [.s (F7 a b),.b (Dm a b)]:=by
 refine qw I271 ?_;refine cB Br ?_
 cases e:AR 0 8 a;have o:Dm a b=false:=by have:=JS.1 e;simp only[Dm,decide_eq_false_iff_not];omega
 refine wW ?_;rw[NP o,o];have e:=A7.1 e;obtain⟨n,rfl⟩:=CJ e.1;have J:=ADL (n:=n) (by omega);have P:=MR (u:=n) (d:=n) (by omega) (by omega);refine wW ?_;refine cB (AN7 (n:=n) (by omega)) ?_;rw[<-J];refine wW ?_;refine cB Br ?_
 cases f:AR 0 ((bw n n:Int)-1) b;have o:Dm n b=false:=by have:=JS.1 f;simp only[Dm,decide_eq_false_iff_not,BM];omega
 refine wW ?_;rw[NP o,o];have f:=A7.1 f;obtain⟨i,rfl⟩:=CJ f.1;have H:i<bw n n:=by omega
 rw[UJ (by omega) H,Qe (by omega) H];simp(disch:=try exact dV) only[AD,Vx];refine Bd (λ(x:List Nat×Nat×Nat×Nat)=>x.2.1<=x.2.2.1/\x.2.2.1<=8/\x.2.2.2<bw x.2.1 x.2.2.1/\x.1++DQ (x.2.1+x.2.2.1) x.2.1 x.2.2.1 x.2.2.2=DQ (n+n) n n i/\x.1.length+x.2.1+x.2.2.1=2*n) (λx=>[.u,.n x.2.2.2,.u,.u,LB x.1,.n x.2.1,.n x.2.2.1,.u,.u,.u,.u,.u]) (λx=>x.2.1+x.2.2.1) ([],n,n,i) ⟨by simp,by simp only;omega,H,by simp,by simp;omega⟩ rfl ?_;rintro⟨w,u,d,k⟩ ⟨G,C,F,g,I⟩;simp only at G C F g I|-
 cases d with
 |zero=>
  have N:u=0:=by omega
  subst N
  simp only[DQ,List.append_nil]at g
  have l:=Yf (n+n) n n i
  rw[<-g]at l
  rw[<-g]
  simp(disch:=try exact dV) only[AD,NU l]
 |succ d=>
  have L:=MR (u:=u) (d:=d+1) (by omega) (by omega)
  have M:=QS G (by omega)
  simp only[Nat.add_sub_cancel]at M
  have c:¬u<=d->bw u d=0:=λh=>Wr (by omega)
  cases u with
  |zero=>
   have j:Ef 0 (d+1)=0:=rfl
   rw[Tb (by omega),j]at g
   refine wW ?_
   exact⟨(w++[100],0,d,k-0),by simp only;omega,⟨by simp only;omega,by simp only;omega,by simp only;omega,by simp only;rw[<-g];simp,by simp;omega⟩,by simp⟩
  |succ u=>
   have j:Ef (u+1) (d+1)=bw u (d+1):=rfl
   simp(disch:=try exact dV) only[AD,Bq]
   refine cB (AI4 (u:=u) (d:=d+1) (by omega) (by omega)) ?_
   by_cases B:k<bw u (d+1)
   .rw[AQD B]at g
    simp(disch:=try exact dV) only[AD,Bq]
    exact⟨(w++[117],u,d+1,k),by simp only;omega,⟨by simp only;omega,by simp only;omega,B,by simp only;rw[<-g];simp,by simp;omega⟩,by simp⟩
   .rw[Tb (by omega),j]at g
    refine wW ?_
    have O:u+1<=d:=by
     rcases BQ d (u+1)with q|q
     .have:=c (by omega);omega
     .exact q
    exact⟨(w++[100],u+1,d,k-bw u (d+1)),by simp only;omega,⟨by simp only;omega,by simp only;omega,by simp only;omega,by simp only;rw[<-g];simp,by simp;omega⟩,by simp only[Int.natCast_sub];simp;omega⟩
theorem un_s[HA K]{a b:Int}:K 272 [.n a,.n b] [.s (F7 a b),.b (Dm a b)]:=by
 refine qw I272 ?_;refine cB Bt ?_
 cases e:AR 0 8 a;have o:Dm a b=false:=by have:=JS.1 e;simp only[Dm,decide_eq_false_iff_not];omega
 refine wW ?_;rw[NP o,o];have e:=A7.1 e;obtain⟨n,rfl⟩:=CJ e.1;have I:=ADL (n:=n) (by omega);have P:=MR (u:=n) (d:=n) (by omega) (by omega);by_cases F:b<0;have o:Dm n b=false:=by simp only[Dm,decide_eq_false_iff_not];omega
 refine wW ?_;rw[NP o,o];refine wW ?_;refine cB (AGM (n:=n) (by omega)) ?_;rw[<-I];by_cases O:(bw n n:Int)<=b;have o:Dm n b=false:=by simp only[Dm,decide_eq_false_iff_not,BM];omega
 refine wW ?_;rw[NP o,o];obtain⟨i,rfl⟩:=CJ (show 0<=b by omega);have H:i<bw n n:=by omega
 rw[UJ (by omega) H,Qe (by omega) H];refine wW ?_;refine Bd (λ(x:List Nat×Nat×Nat×Nat)=>x.2.1<=x.2.2.1/\x.2.2.1<=8/\x.2.2.2<bw x.2.1 x.2.2.1/\x.1++DQ (x.2.1+x.2.2.1) x.2.1 x.2.2.1 x.2.2.2=DQ (n+n) n n i/\x.1.length+x.2.1+x.2.2.1=2*n) (λx=>[.u,.n x.2.2.2,.u,.u,.s x.1,.n x.2.1,.n x.2.2.1,.u,.u,.u,.u,.u]) (λx=>x.2.1+x.2.2.1) ([],n,n,i) ⟨by simp,by simp only;omega,H,by simp,by simp;omega⟩ rfl ?_;rintro⟨w,u,d,k⟩ ⟨G,l,B,g,C⟩;simp only at G l B g C|-
 cases d with
 |zero=>
  have M:u=0:=by omega
  subst M
  simp only[DQ,List.append_nil]at g
  rw[<-g]
  exact wZ
 |succ d=>
  have J:=MR (u:=u) (d:=d+1) (by omega) (by omega)
  have L:=QS G (by omega)
  simp only[Nat.add_sub_cancel]at L
  have c:¬u<=d->bw u d=0:=λh=>Wr (by omega)
  cases u with
  |zero=>
   have f:Ef 0 (d+1)=0:=rfl
   rw[Tb (by omega),f]at g
   refine wW ?_
   exact⟨(w++[100],0,d,k-0),by simp only;omega,⟨by simp only;omega,by simp only;omega,by simp only;omega,by simp only;rw[<-g];simp,by simp;omega⟩,by simp⟩
  |succ u=>
   have f:Ef (u+1) (d+1)=bw u (d+1):=rfl
   simp(disch:=try exact dV) only[AD,Bq]
   refine cB (AIX (u:=u) (d:=d+1) (by omega) (by omega)) ?_
   by_cases j:k<bw u (d+1)
   .rw[AQD j]at g
    simp(disch:=try exact dV) only[AD,Bq]
    exact⟨(w++[117],u,d+1,k),by simp only;omega,⟨by simp only;omega,by simp only;omega,j,by simp only;rw[<-g];simp,by simp;omega⟩,by simp⟩
   .rw[Tb (by omega),f]at g
    refine wW ?_
    have N:u+1<=d:=by
     rcases BQ d (u+1)with q|q
     .have:=c (by omega);omega
     .exact q
    exact⟨(w++[100],u+1,d,k-bw u (d+1)),by simp only;omega,⟨by simp only;omega,by simp only;omega,by simp only;omega,by simp only;rw[<-g];simp,by simp;omega⟩,by simp only[Int.natCast_sub];simp;omega⟩
end Go.Cat
namespace Go.Cat
variable{K:Nat->List D->List D->Prop}
def Ov(k:IntKind)(a b:Int):Int:=k.wrap (BitVec.ofInt k.bits a&&&BitVec.ofInt k.bits b).toNat
def APF(k:IntKind)(a b:Int):Int:=k.wrap (BitVec.ofInt k.bits a ^^^ BitVec.ofInt k.bits b).toNat
def AC5(a:Int)(b:Nat):Int:=a.fdiv (2^b)
theorem W3{k:IntKind}{a b:Int}:By .and (.i k a) (.i k b)=some (.i k (Ov k a b)):=by simp[By,Ei,Ov]
theorem Y2{k:IntKind}{a b:Int}:By .xor (.i k a) (.i k b)=some (.i k (APF k a b)):=by simp[By,Ei,APF]
theorem AKA{k c:IntKind}{a b:Int}(h:0<=b):By .shr (.i k a) (.i c b)=some (.i k (AC5 a (min b.toNat k.bits))):=by simp only[By,AC5];rw[if_neg (by omega)]
theorem APR(a:Int):0<=Ov .i64 a 255/\Ov .i64 a 255<=255:=by
 unfold Ov;have h:(BitVec.ofInt IntKind.i64.bits a&&&BitVec.ofInt IntKind.i64.bits 255).toNat<=255:=by rw[BitVec.toNat_and];exact Nat.le_trans Nat.and_le_right (by decide)
 rw[wrap_i64 (by omega)];omega
def ZF(a:D):D->Option D
 |.l s=>some (.l (a::s))
 |_=>none
theorem L0{a:List Nat}{b:D}{r:List D}:DK (.s a::b::r)=(DK (b::r)).bind (ZF (.s a)):=by
 by_cases h:(b::r).all D.one=true;have H:(D.s a::b::r).all D.one=true:=by rw[List.all_cons,h];rfl
 simp[DK,h,H,ZF];have H:¬(D.s a::b::r).all D.one=true:=λq=>h (by rw[List.all_cons,AV]at q;exact q.2);simp only[DK];rw[if_neg h,if_neg H];rfl
theorem LH{a:List Nat}{l:List (List Nat)}:ZF (.s a) (LS l)=some (LS (a::l)):=rfl
def cur(code:List Nat)(i h:Int):D:=.g [LB code,.n i,.n h]
def El(d:D):Prop:=∃code i h,d=cur code i h/\(0<=i/\i<=code.length)/\code.length<=1048576
theorem AOL{x:List Nat}:known (LB x)=some (LB x):=rfl
theorem Qz{x:List Nat}:(LB x).one=true:=rfl
theorem AeT[HA K]{code:List Nat}(h:code.length<=1048576):∃rs,(∃d,rs=[d]/\El d)/\K 288 [LB code] rs:=by refine qx I288 ?_;refine wW ?_;refine Ah (λi (s:Int)=>True) (λi s=>[LB code,.u,.n s,.n i,.u]) (min code.length 4000) (10101+code.length) trivial rfl (λi s hi P=>?_) (λs P=>?_);simp(disch:=omega) only[AD,W3];exact⟨_,rfl⟩;by_cases c:code.length<=4000;simp(disch:=omega) only[AD,Qz];exact⟨_,rfl,code,0,s,rfl,by omega,h⟩;simp(disch:=omega) only[AD,Qz];exact⟨_,rfl,code,0,s,rfl,by omega,h⟩
theorem M0[HA K]{d:D}(hd:El d):∃rs,(∃x a,rs=[.n x,a]/\(0<=x/\x<=255)/\El a)/\K 316 [d] rs:=by obtain⟨code,i,h,rfl,hi,l⟩:=hd;refine qx I316 ?_;simp only[cur];by_cases c:i<code.length;simp(disch:=omega) only[AD,W3,Y2,AKA,AOL,Qz];exact⟨_,_,rfl,APR _,code,_,_,rfl,by omega,l⟩;simp(disch:=omega) only[AD,W3,Y2,AKA,AOL,Qz];exact⟨_,_,rfl,APR _,code,_,_,rfl,by omega,l⟩
theorem Jl[HA K]{d:D}(hd:El d){n:Int}:∃rs,(∃x c,rs=[.n x,c]/\((n<=0->x=0)/\(0<n->0<=x/\x<n))/\El c)/\K 289 [d,.n n] rs:=by refine qx I289 ?_;by_cases h0:n<=0;refine wW ?_;exact⟨_,_,rfl,⟨λ_=>rfl,by omega⟩,hd⟩;by_cases F:n<=256;obtain⟨_,⟨x,e,rfl,G,h⟩,k⟩:=M0 (K:=K) hd;refine wW ?_;refine cW k ?_;exact⟨_,_,rfl,⟨by omega,λ_=>⟨Int.emod_nonneg _ (by omega),Int.emod_lt_of_pos _ (by omega)⟩⟩,h⟩;obtain⟨_,⟨I,e,rfl,f,h⟩,k⟩:=M0 (K:=K) hd;obtain⟨_,⟨J,s,rfl,g,H⟩,l⟩:=M0 (K:=K) h;obtain⟨_,⟨L,B,rfl,i,a⟩,o⟩:=M0 (K:=K) H;obtain⟨_,⟨M,C,rfl,j,b⟩,q⟩:=M0 (K:=K) a;refine wW ?_;refine cW k ?_;refine cW l ?_;refine cW o ?_;refine cW q ?_;exact⟨_,_,rfl,⟨by omega,λ_=>⟨Int.emod_nonneg _ (by omega),Int.emod_lt_of_pos _ (by omega)⟩⟩,b⟩
theorem AXD[HA K]{d:D}(hd:El d){n:Int}:∃rs,(∃x a,rs=[.b x,a]/\El a)/\K 307 [d,.n n] rs:=by refine qx I307 ?_;obtain⟨_,⟨e,c,rfl,H,h⟩,k⟩:=Jl (K:=K) hd (n:=n);refine wW ?_;refine cW k ?_;exact⟨_,_,rfl,h⟩
theorem AVX[HA K]{d:D}(hd:El d){l:List (List Nat)}(h0:0<l.length)(c:l.length<=1000000):∃rs,(∃x a,rs=[.s x,a]/\x∈l/\El a)/\K 318 [d,LS l] rs:=by refine qx I318 ?_;obtain⟨_,⟨e,b,rfl,H,h⟩,k⟩:=Jl (K:=K) hd (n:=l.length);have:=H.2 (by omega);refine wW ?_;refine cW k ?_;refine⟨_,_,rfl,?_,h⟩;simp only[AF,Ap];rw[Eg (by omega)];exact List.getElem_mem _
theorem u8r(x:Int):0<=IntKind.u8.wrap x/\IntKind.u8.wrap x<256:=by simp[IntKind.wrap,IntKind.bits,IntKind.signed];omega
theorem AO6{x:Int}:DK [.i .u8 (IntKind.u8.wrap x)]=some (LB [(IntKind.u8.wrap x).toNat]):=W5 (u8r x).1
theorem AK9{x:Int}:Jc (LB [(IntKind.u8.wrap x).toNat])=some (.s [(IntKind.u8.wrap x).toNat]):=XF (by have:=u8r x;omega)
end Go.Cat
namespace Go.Cat
variable{K:Nat->List D->List D->Prop}
end Go.Cat
namespace Go.Cat
variable{K:Nat->List D->List D->Prop}
set_option maxRecDepth 100000
def Fz(w:List Nat):Int:=if AK w=true then(w.length:Int)/2 else -1
theorem Ah6[HA K]{w:List Nat}(h:w.length<=1000000000):K 132 [.s w] [.n (Fz w)]:=by
 refine qw I132 ?_;refine cB (Bz h) ?_
 cases hd:AK w;simp(disch:=try exact dV) only[AD,hd];exact Dn (by simp[Fz,hd]);simp(disch:=try exact dV) only[AD,hd];exact Dn (by simp[Fz,hd])
def nvT:List (List Int):=[[1],[0,1],[0,1,1],[0,1,3,1],[0,1,6,6,1],[0,1,10,20,10,1],[0,1,15,50,50,15,1]]
def nv(m i:Nat):Int:=(nvT.getD m []).getD i 0
end Go.Cat
namespace Go.Cat
variable{K:Nat->List D->List D->Prop}
theorem RU:∀(f:Nat)(w:List Nat)(up down:Nat),(FU f w up down).length<=2^f
 |0,_,_,_=>by simp[FU]
 |f+1,w,up,down=>by
  have h:=RU f (w++[117]) (up-1) down;have H:=RU f (w++[100]) up (down-1);have a:1<=2^f:=Nat.one_le_two_pow;rw[FU,Nat.pow_succ];split;simp;omega;rw[AW];have:(if up > 0 then FU f (w++[117]) (up-1) down else []).length<=2^f:=by split<;>first|assumption|simp
  have:(if down > up then FU f (w++[100]) up (down-1)else []).length<=2^f:=by split<;>first|assumption|simp
  omega
theorem Sc[HA K]:∀(f:Nat)(w:List Nat)(up down:Nat)(out:List (List Nat)),up<=down->up+down<f->w.length+f<=1000->f<=20->out.length+2^f<=1073741824->
  K 326 [.s w,.n up,.n down,.g [LS out],.u] [.g [LS (out++FU f w up down)]]
 |0,_,_,_,_,_,h,_,_,_=>by omega
 |f+1,w,up,down,out,j,l,o,q,x=>by
  have C:2^(f+1)=2^f+2^f:=by rw[Nat.pow_succ];omega
  have i:1<=2^f:=Nat.one_le_two_pow;refine qb Vi ?_;by_cases hd:down=0;have H:up=0:=by omega
  subst hd;subst H;simp(disch:=try exact dV) only[AD,M6];simp[FU];have e:FU (f+1) w up down=(if up > 0 then FU f (w++[117]) (up-1) down else [])++(if down > up then FU f (w++[100]) up (down-1)else []):=by rw[FU,if_neg hd]
  by_cases H:up=0;subst H;have k:=Sc f (w++[100]) 0 (down-1) out (by omega) (by omega) (by simp;omega) (by omega) (by omega);have a:((down-1:Nat):Int)=(down:Int)-1:=by omega
  rw[a]at k;refine wW ?_;refine cW k ?_;rw[e,if_neg (by omega),if_pos (by omega),List.nil_append];have b:=Sc f (w++[117]) (up-1) down out (by omega) (by omega) (by simp;omega) (by omega) (by omega);have c:((up-1:Nat):Int)=(up:Int)-1:=by omega
  rw[c]at b;have B:=RU f (w++[117]) (up-1) down;by_cases F:up<down;have k:=Sc f (w++[100]) up (down-1) (out++FU f (w++[117]) (up-1) down) (by omega) (by omega) (by simp;omega) (by omega) (by rw[AW];omega);have a:((down-1:Nat):Int)=(down:Int)-1:=by omega
  rw[a]at k;refine wW ?_;refine cW b ?_;refine cW k ?_;rw[e,if_pos (by omega),if_pos (by omega),CT];refine wW ?_;refine cW b ?_;rw[e,if_pos (by omega),if_neg (by omega),List.append_nil]
theorem AZK[HA K]{n:Nat}(h:n<=8):K 314 [.n n] [LS (AI n)]:=by have k:=Sc (K:=K) (2*n+1) [] n n [] (Nat.le_refl _) (by omega) (by simp;omega) (by omega) (by have:2^(2*n+1)<=2^17:=Nat.pow_le_pow_right (by omega) (by omega);simp only[A5];omega);rw[List.nil_append]at k;refine qb U5 ?_;simp(disch:=omega) only[AD,Vj];exact cZ k
theorem Q2:∀(f up down:Nat)(pre w:List Nat),up<=down->up+down<f->(w∈FU f pre up down↔∃s,w=pre++s/\s.length=up+down/\Bm s ((down:Int)-up)=some 0)
 |0,_,_,_,_,_,h=>by omega
 |f+1,up,down,pre,w,j,k=>by
  rw[FU];by_cases hd:down=0;have e:up=0:=by omega
  subst hd;subst e;rw[if_pos rfl];constructor;intro h;simp only[List.mem_singleton]at h;exact⟨[],by simp[h],rfl,rfl⟩;rintro⟨s,rfl,b,_⟩;obtain rfl:s=[]:=Dy b;simp;rw[if_neg hd,A9];constructor;rintro(h|h);split at h;rename_i e;obtain⟨s,rfl,b,H⟩:=(Q2 f (up-1) down (pre++[117]) w (by omega) (by omega)).1 h;refine⟨117::s,by simp,by simp;omega,?_⟩;rw[Bm,if_pos rfl,<-H];congr 1;omega
  cases h;split at h;rename_i e;obtain⟨s,rfl,b,H⟩:=(Q2 f up (down-1) (pre++[100]) w (by omega) (by omega)).1 h;refine⟨100::s,by simp,by simp;omega,?_⟩;rw[Bm,if_neg (by omega),if_pos rfl,if_neg (by omega),<-H];congr 1;omega
  cases h;rintro⟨s,rfl,b,H⟩
  cases s with
  |nil=>simp at b;omega
  |cons c s=>
   simp only[AP]at b
   rw[Bm]at H
   by_cases g:c=117
   .rw[if_pos g]at H
    subst g
    have i:=RX H
    have e:up > 0:=by omega
    left
    rw[if_pos e]
    refine(Q2 f (up-1) down (pre++[117]) _ (by omega) (by omega)).2 ⟨s,by simp,by omega,?_⟩
    rw[<-H];congr 1;omega
   .rw[if_neg g]at H
    by_cases a:c=100
    .rw[if_pos a]at H
     split at H
     .cases H
     .subst a
      right
      rw[if_pos (by omega)]
      refine(Q2 f up (down-1) (pre++[100]) _ (by omega) (by omega)).2 ⟨s,by simp,by omega,?_⟩
      rw[<-H];congr 1;omega
    .rw[if_neg a]at H;cases H
theorem Y4{n:Nat}{w:List Nat}(h:n<=8):w∈AI n↔AK w=true/\w.length=2*n:=by
 have a:=Q2 (2*n+1) n n [] w (Nat.le_refl _) (by omega);rw[AI,a];constructor;rintro⟨s,rfl,b,H⟩;simp only[AK];have e:((n:Int)-n)=0:=by omega
 rw[e]at H;simp only[H,AV,Ac];exact⟨⟨trivial,by omega⟩,by omega⟩;rintro⟨hd,l⟩;refine⟨w,rfl,by omega,?_⟩;have e:((n:Int)-n)=0:=by omega
 rw[e];simp only[AK,AV,Ac]at hd;exact hd.1
theorem AgK{n:Nat}(h:n<=8):(AI n).length<=131072:=by have H:=RU (2*n+1) [] n n;have:2^(2*n+1)<=2^17:=Nat.pow_le_pow_right (by omega) (by omega);simp only[AI];omega
end Go.Cat
namespace Go.Cat
variable{K:Nat->List D->List D->Prop}
theorem AgG{s:List Nat}{f i:Nat}(H:f<=i)(h:i<s.length):(s.take (i+1)).drop f=(s.take i).drop f++[AH s i]:=by rw[FE h,List.drop_append_of_le_length (by simp;omega)]
theorem Yq{s:List Nat}{f i:Nat}:sub s (f:Int) (i:Int)=(s.take i).drop f:=by simp[sub]
theorem Mc[HA K]{s:List Nat}{b:Nat}(h:s.length<=1000000000):K 561 [.s s,.y b] [LS (AO b s)]:=by refine qb I561 ?_;simp(disch:=try exact dV) only[AD,Vj];refine Ah (λi (x:List (List Nat)×Nat)=>x.2<=i/\x.1.length<=i/\AO b s=x.1++C5 b ((s.take i).drop x.2) (s.drop i)) (λi x=>[.s s,.y b,.u,LS x.1,.n x.2,.n i,.u,.u]) s.length ([],0) ⟨by simp,by simp,by simp[AO]⟩ rfl (λi x hi P=>?_) (λx P=>?_);obtain⟨o,f⟩:=x;obtain⟨a,e,H⟩:=P;simp only at a e H;rw[S5 hi]at H;by_cases c:AH s i=b;rw[if_pos c]at H;simp(disch:=try exact dV) only[AD,c];refine⟨(o++[sub s f i],i+1),⟨by simp,by simp;omega,?_⟩,rfl⟩;simp only[Yq,CT,List.singleton_append];rw[H];have:(s.take (i+1)).drop (i+1)=[]:=List.drop_eq_nil_of_le (by simp;omega);rw[this];rw[if_neg c,<-AgG a hi]at H;simp(disch:=try exact dV) only[AD,c];exact⟨(o,f),⟨by simp;omega,by simp;omega,H⟩,rfl⟩;obtain⟨o,f⟩:=x;obtain⟨a,e,H⟩:=P;simp only at a e H;simp(disch:=try exact dV) only[AD,M6];rw[H,Yq,List.take_length,List.drop_length]<;>rfl
theorem AC7:D.l []=LI []:=rfl
theorem Tv{s:List Nat}{i:Nat}(h:i<s.length):sub s (i:Int) ((i:Int)+1)=[AH s i]:=by
 have e:((i:Int)+1)=((i+1:Nat):Int):=by omega
 rw[e,Yq,FE h,List.drop_append_of_le_length (by simp;omega)];simp
def Cm(ps:List (List Nat)):Bool:=ps.all C7
def Bp(ps:List (List Nat)):List Int:=if Cm ps=true then ps.map pV else []
theorem We{o t:List (List Nat)}{p:List Nat}(h:¬C7 p=true):Cm (o++p::t)=false:=by simp[Cm,h]
theorem ZH{o:List (List Nat)}(h:Cm o=false):Bp o=[]:=by simp[Bp,h]
theorem WT{p:List Nat}(h:C7 p=true):pR p=pV p:=by simp[pR,h]
theorem Ra[HA K]{s:List Nat}{b:Nat}(h:s.length<=1000000):K 575 [.s s,.y b] [LI (Bp (AO b s)),.b (Cm (AO b s))]:=by
 refine qb I575 ?_;simp(disch:=try exact dV) only[AD,AC7];refine Ah (λi (x:List (List Nat)×List Nat)=>x.1.length<=i/\x.2.length<=i/\x.1.all C7=true/\(i<=s.length->AO b s=x.1++C5 b x.2 (s.drop i))/\(s.length<i->AO b s=x.1)) (λi x=>[.s s,.y b,.u,.u,LI (x.1.map pV),.s x.2,.n i,.u,.u,.u,.u,.u]) (s.length+1) ([],[]) ⟨by simp,by simp,by simp,by simp[AO],by simp⟩ rfl (λi x hi P=>?_) (λx P=>?_);obtain⟨o,p⟩:=x;obtain⟨g,j,c,H,_⟩:=P;simp only at g j c H;have H:=H (by omega);have B:=Qo (K:=K) (s:=p) (by omega);by_cases l:i<s.length;rw[S5 l]at H;by_cases f:AH s i=b;rw[if_pos f]at H;simp(disch:=try exact dV) only[AD,f];refine cB B ?_;by_cases a:C7 p=true;simp(disch:=try exact dV) only[AD,a];exact⟨(o++[p],[]),⟨by simp;omega,by simp,by simp[c,a],λ_=>by simp[H],λq=>absurd q (by omega)⟩,by simp[WT a]⟩;simp(disch:=try exact dV) only[AD,a];have e:Cm (AO b s)=false:=by rw[H];exact We a
 rw[e,ZH e]<;>rfl;rw[if_neg f]at H;simp(disch:=try exact dV) only[AD,f];rw[Tv l];exact⟨(o,p++[AH s i]),⟨by simp;omega,by simp;omega,c,λ_=>H,λq=>absurd q (by omega)⟩,rfl⟩;have C:s.drop i=[]:=List.drop_eq_nil_of_le (by omega);rw[C]at H;refine wW ?_;refine cB B ?_;by_cases a:C7 p=true;simp(disch:=try exact dV) only[AD,a];exact⟨(o++[p],[]),⟨by simp;omega,by simp,by simp[c,a],λq=>absurd q (by omega),λ_=>by simp[H,C5]⟩,by simp[WT a]⟩;simp(disch:=try exact dV) only[AD,a];have e:Cm (AO b s)=false:=by rw[H];exact We a
 rw[e,ZH e]<;>rfl;obtain⟨o,p⟩:=x;obtain⟨g,j,c,H,k⟩:=P;simp only at g j c k;refine wW ?_;rw[k (by omega)];simp[Bp,Cm,c]
end Go.Cat
namespace Go.Cat
variable{K:Nat->List D->List D->Prop}
theorem ATG[HA K]{a b:List Int}(h:a.length<=1099511627776):K 72 [LI a,LI b] [.b (decide (a=b))]:=by
 refine qw I72 ?_;by_cases l:a.length=b.length;refine wW ?_;refine AN (λi=>∀j:Nat,j<i->AB a j=AB b j) (λi=>[LI a,LI b,.u,.u,.u,.n a.length,.n i,.u,.u]) a.length (by simp) rfl (λi hi P=>?_) (λP=>?_);by_cases he:AB a i=AB b i;refine wW ?_;exact Bg P he;refine wW ?_;have:a≠b:=by rintro rfl;exact he rfl
 simp[this];refine wW ?_;have:a=b:=HV l P;simp[this];have:a≠b:=by rintro rfl;exact l rfl
 refine wW ?_;simp[this]
theorem AbH[HA K]{a b:List Int}(h:a.length<=1099511627776):K 149 [LI a,LI b] [.b (decide (a=b))]:=by
 refine qw I149 ?_;by_cases l:a.length=b.length;refine wW ?_;refine AN (λi=>∀j:Nat,j<i->AB a j=AB b j) (λi=>[LI a,LI b,.u,.n i,.u,.u,.u]) a.length (by simp) rfl (λi hi P=>?_) (λP=>?_);by_cases he:AB a i=AB b i;refine wW ?_;exact Bg P he;refine wW ?_;have:a≠b:=by rintro rfl;exact he rfl
 simp[this];refine wW ?_;have:a=b:=HV l P;simp[this];have:a≠b:=by rintro rfl;exact l rfl
 refine wW ?_;simp[this]
theorem HR{m:List (List Int)}{i:Nat}(h:i<m.length):AG m i∈m:=by simp[AG,h]
abbrev CL(k:Int)(f s:List Nat)(t:List (List Nat))(n o:List Int)(r:List (List Int)):D:=.g [.n k,.s f,.s s,LS t,LI n,LI o,LL r]
theorem Dx{x:List (List Nat)}:known (LS x)=some (LS x):=rfl
theorem Dq{x:List Int}:known (LI x)=some (LI x):=rfl
theorem F2{x:List (List Int)}:known (LL x)=some (LL x):=rfl
theorem EJ{x:List (List Nat)}:(LS x).one=true:=rfl
theorem F3{x:List (List Int)}:(LL x).one=true:=rfl
theorem AWO{i:Nat}{xs:List D}{x:D}{j k:Nat}(h:CK k (x,j)=true):Qk (some [i]) (.g xs) x j k=xs[i]?.map λ_=>.g (xs.set i x):=by simp only[Qk,h,if_true,Option.bind_some,Wu]
theorem AeZ{i:Nat}{xs:List D}{s:List (List Nat)}:Qk (some [i]) (.g xs) (LS s) 1 3=xs[i]?.map λ_=>.g (xs.set i (LS s)):=AWO (by simp[CK,LS,D.one,C0,D.flat])
end Go.Cat
namespace Go.Cat
variable{K:Nat->List D->List D->Prop}
def BH(sep:List Nat)(ws:List (List Nat)):Nat->List Nat
 |0=>[]
 |i+1=>BH sep ws i++(if 0<i then sep else [])++AF ws i
def glue(sep:List Nat)(ws:List (List Nat)):List Nat:=BH sep ws ws.length
theorem KN{ws:List (List Nat)}{b i:Nat}(h:∀x∈ws,x.length<=b):(AF ws i).length<=b:=by
 rcases BQ i ws.length with q|q;exact h _ (by simp[AF,q])
 have:AF ws i=[]:=by simp[AF,q]
 rw[this];simp
theorem IN{sep:List Nat}{ws:List (List Nat)}{b:Nat}(h:∀x∈ws,x.length<=b):∀i,(BH sep ws i).length<=i*(b+sep.length)
 |0=>by simp[BH]
 |i+1=>by
  have H:=IN (sep:=sep) h i;have a:=KN (i:=i) h;simp only[BH,AW,Nat.succ_mul];have:(if 0<i then sep else []).length<=sep.length:=by split<;>simp
  omega
theorem JW[HA K]{ws:List (List Nat)}{sep:List Nat}(l:ws.length<=100000)(h:∀x∈ws,x.length<=100000)(c:sep.length<=100):K 184 [LS ws,.s sep] [.s (glue sep ws)]:=by refine qw I184 ?_;refine AN (λ_=>True) (λi=>[.u,.s sep,.u,.s (BH sep ws i),.u,.u,LS ws,.n ws.length,.n i,.u,.u]) ws.length trivial rfl (λi hi _=>?_) (λ_=>?_);have H:=IN (sep:=sep) h i;have a:=KN (i:=i) h;have b:i*(100000+sep.length)<=100000*(100000+100):=Nat.mul_le_mul (by omega) (by omega);by_cases h0:0<i;refine wW ?_;simp only[BH,if_pos h0];refine wW ?_;simp only[BH,if_neg h0,List.append_nil];exact wZ
def H8(x:Int):Int:=if x < -99 then -99 else if 99<x then 99 else x
theorem WH{x:Int}:-99<=H8 x/\H8 x<=99:=by unfold H8;split<;>(try split)<;>omega
def EX(l:List Int):List (List Nat):=l.map λx=>AQ (H8 x)
def D7(l:List Int):List Nat:=if l.length=0\/40<l.length then [110,111,110,101]else glue [44] (EX l)
theorem X2{l:List Int}:∀x∈EX l,x.length<=20:=by intro x h;obtain⟨y,_,rfl⟩:=List.mem_map.1 h;exact Aw (by have:=WH (x:=y);omega)
theorem Wg{l:List Int}{i:Nat}(h:i<l.length):AF (EX l) i=AQ (H8 (AB l i)):=by simp[AF,EX,AB,h]
theorem AdQ{l:List Int}{i:Nat}(h:i<l.length):(EX l).take (i+1)=(EX l).take i++[AQ (H8 (AB l i))]:=by rw[CQ (by simpa[EX]using h)];simp[EX,AB,h]
theorem W0{l:List Int}:(EX l).length=l.length:=by simp[EX]
theorem Ma:D.l []=LS []:=rfl
theorem S6[HA K]{l:List Int}(h:l.length<=9223372036854775807):K 353 [LI l] [.s (D7 l)]:=by
 refine qb I353 ?_;by_cases h0:l.length=0;simp only[D7,h0];refine wW ?_;simp;by_cases a:40<l.length;simp only[D7];rw[if_pos (by omega)];exact wZ;simp only[D7];rw[if_neg (by omega)];have f:=W0 (l:=l);refine wW ?_;rw[Ma];refine AN (λ_=>True) (λi=>[.u,.u,LS ((EX l).take i),.u,.u,LI l,.n l.length,.n i,.u]) l.length trivial (by simp) (λi hi _=>?_) (λ_=>?_);have c:=WH (x:=AB l i);have H:((EX l).take i).length=i:=by simp;omega
 have e:min (max (AB l i) (-99)) 99=H8 (AB l i):=by unfold H8;omega
 simp(disch:=try exact dV) only[AD,e];refine cB (C8 (by omega)) ?_;simp(disch:=try exact dV) only[AD,AdQ hi];have H:(EX l).take l.length=EX l:=List.take_of_length_le (by omega);simp(disch:=try exact dV) only[AD,H];have k:=JW (K:=K) (ws:=EX l) (sep:=[44]) (by omega) (λx b=>Nat.le_trans (X2 x b) (by omega)) (by simp);exact cZ k
theorem Sb[HA K]{l:List Int}(h:l.length<=9223372036854775807):K 351 [LI l] [.s (D7 l)]:=by
 refine qb I351 ?_;by_cases h0:l.length=0;simp only[D7];rw[if_pos (.inl h0)];refine wW ?_;refine Bd (λ(_:Unit)=>True) (λ_=>[LI l,.u,.s [],.n 0,.u,.u,.u]) (λ_=>0) () trivial rfl (λ_ _=>?_);exact wZ;by_cases a:40<l.length;simp only[D7];rw[if_pos (.inr a)];refine wW ?_;refine Bd (λ(_:Unit)=>True) (λ_=>[LI l,.u,.s [],.n 0,.u,.u,.u]) (λ_=>0) () trivial rfl (λ_ _=>?_);exact wZ;simp only[D7];rw[if_neg (by omega)];have f:=W0 (l:=l);refine wW ?_;refine AN (λi=>0<i->BH [44] (EX l) i≠[]) (λi=>[LI l,.u,.s (BH [44] (EX l) i),.n i,.u,.u,.u]) l.length (by simp) rfl (λi hi P=>?_) (λP=>?_);have k:=WH (x:=AB l i);have e:max (-99) (min 99 (AB l i))=H8 (AB l i):=by unfold H8;omega
 have c:=IN (sep:=[44]) (X2 (l:=l)) i;have g:=Aw (n:=H8 (AB l i)) (by omega);have j:=Tl (n:=H8 (AB l i));have b:BH [44] (EX l) (i+1)≠[]:=by simp only[BH,Wg hi];intro q;have:=congrArg List.length q;simp only[AW,A5]at this;omega
 simp only[AP,A5]at c;by_cases H:0<i;simp(disch:=try exact dV) only[AD,e];refine cW (CB (by omega)) ?_;exact⟨λ_=>b,by simp only[BH,if_pos H,Wg hi]⟩;simp(disch:=try exact dV) only[AD,e];refine cW (CB (by omega)) ?_;exact⟨λ_=>b,by simp only[BH,if_neg H,Wg hi,List.append_nil]⟩;have e:(BH [44] (EX l) l.length==[])=false:=beq_eq_false_iff_ne.2 (P (by omega));simp(disch:=try exact dV) only[AD,e];simp only[glue,f]
def Eo(r:List Int):Bool:=decide (r.length=2)&&(AR 0 9 (AB r 0)&&AR 0 9 (AB r 1))
def Cw(d:List (List Int)):List (List Nat):=d.map λr=>AQ (AB r 0)++AQ (AB r 1)
def Cc(d:List (List Int)):List Nat:=if d.length=0 then [110,111,110,101]else if 20<d.length then []else if d.all Eo=true then glue [32] (Cw d)else []
theorem Tk{d:List (List Int)}:(Cw d).length=d.length:=by simp[Cw]
theorem YF{d:List (List Int)}{i:Nat}(h:i<d.length):AF (Cw d) i=AQ (AB (AG d i) 0)++AQ (AB (AG d i) 1):=by simp[AF,Cw,AG,h]
theorem Al9{d:List (List Int)}{i:Nat}(h:i<d.length):(Cw d).take (i+1)=(Cw d).take i++[AQ (AB (AG d i) 0)++AQ (AB (AG d i) 1)]:=by rw[CQ (by simpa[Cw]using h)];simp[Cw,AG,h]
theorem Ut{d:List (List Int)}(h:∀j:Nat,j<d.length->Eo (AG d j)=true):d.all Eo=true:=by refine Ao.2 λx a=>?_;obtain⟨j,H,rfl⟩:=List.getElem_of_mem a;have:=h j H;simpa[AG,H]using this
theorem AKG{d:List (List Int)}{i:Nat}(hi:i<d.length)(h:Eo (AG d i)=false):d.all Eo=false:=by refine Bool.eq_false_iff.2 λq=>?_;have:=Ao.1 q (AG d i) (by simp[AG,hi]);rw[h]at this;cases this
theorem PF{r:List Int}(h:Eo r=true):r.length=2/\AR 0 9 (AB r 0)=true/\AR 0 9 (AB r 1)=true:=by simpa[Eo]using h
theorem RH[HA K]{d:List (List Int)}(h:d.length<=9223372036854775807)(f:∀r∈d,r.length<=9223372036854775807):K 354 [LL d] [.s (Cc d)]:=by
 refine qb I354 ?_;by_cases h0:d.length=0;simp only[Cc];rw[if_pos h0];exact wZ;by_cases a:20<d.length;simp only[Cc];rw[if_neg h0,if_pos a];exact wZ;simp only[Cc];rw[if_neg h0,if_neg a];have B:=Tk (d:=d);refine wW ?_;rw[Ma];refine AN (λi=>∀j:Nat,j<i->Eo (AG d j)=true) (λi=>[.u,.u,LS ((Cw d).take i),.u,.u,.u,LL d,.n d.length,.n i,.u,.u]) d.length (by simp) (by simp) (λi hi P=>?_) (λP=>?_);have e:((Cw d).take i).length=i:=by simp;omega
 have l:=f _ (HR (i:=i) (m:=d) hi)
 cases hd:Eo (AG d i);rw[AKG hi hd];by_cases H:(AG d i).length=2;simp(disch:=try exact dV) only[AD,H];refine cB Br ?_
 cases q:AR 0 9 (AB (AG d i) 0);refine wW ?_;simp;refine wW ?_;refine cB Br ?_;have Q:AR 0 9 (AB (AG d i) 1)=false:=by simpa[Eo,H,q]using hd
 simp(disch:=try exact dV) only[AD,Q];simp;refine wW ?_;simp;obtain⟨H,q,Q⟩:=PF hd;have b1:=A7.1 q;have b2:=A7.1 Q;have L:=Aw (n:=AB (AG d i) 0) (by omega);have o:=Aw (n:=AB (AG d i) 1) (by omega);simp(disch:=try exact dV) only[AD,H];refine cB Br ?_;simp(disch:=try exact dV) only[AD,q];refine cB Br ?_;simp(disch:=try exact dV) only[AD,Q];refine cW (C8 (by omega)) ?_;refine cB (C8 (by omega)) ?_;simp(disch:=try exact dV) only[AD,Al9 hi];exact Bg P hd;have e:(Cw d).take d.length=Cw d:=List.take_of_length_le (by omega);have b:∀x∈Cw d,x.length<=100000:=by intro x g;obtain⟨r,c,rfl⟩:=List.mem_map.1 g;obtain⟨H,q,Q⟩:=PF (Ao.1 (Ut P) r c);have b1:=A7.1 q;have b2:=A7.1 Q;have L:=Aw (n:=AB r 0) (by omega);have o:=Aw (n:=AB r 1) (by omega);simp only[AW];omega
 have k:=JW (K:=K) (ws:=Cw d) (sep:=[32]) (by omega) b (by simp);rw[Ut P];simp(disch:=try exact dV) only[AD,e];exact cZ k
theorem AIT{d:List (List Int)}(h0:d.length≠0)(h:20<d.length\/d.all Eo=false):Cc d=[]:=by unfold Cc;rw[if_neg h0];split;rfl;rcases h with h|h;omega;rw[h]<;>rfl
theorem ANN[HA K]{d:List (List Int)}(h:d.length<=9223372036854775807)(x:∀r∈d,r.length<=9223372036854775807):K 352 [LL d] [.s (Cc d)]:=by
 refine qb I352 ?_;have C:=Tk (d:=d);simp(disch:=first|omega|simp only[vl];omega) only[AD];refine AN (λi=>(i=0\/d.length<=20)/\(∀j:Nat,j<i->Eo (AG d j)=true)/\(BH [32] (Cw d) i).length<=i*100/\(0<i->BH [32] (Cw d) i≠[])) (λi=>[LL d,.u,.s (BH [32] (Cw d) i),.n i,.u,.u,.u,.u]) d.length (by simp[BH]) rfl (λi hi P=>?_) (λP=>?_);obtain⟨l,g,o,G⟩:=P;have B:=x _ (HR (i:=i) (m:=d) hi)
 cases hd:Eo (AG d i);rw[AIT (by omega) (.inr (AKG hi hd))];by_cases a:(AG d i).length=2;simp(disch:=first|omega|simp only[vl];omega) only[AD,a];refine DU (Bt (K:=K)) rfl ?_
 cases c:AR 0 9 (AB (AG d i) 0);simp(disch:=first|omega|simp only[vl];omega) only[AD];simp(disch:=first|omega|simp only[vl];omega) only[AD];refine DU (Bt (K:=K)) rfl ?_;have Q:AR 0 9 (AB (AG d i) 1)=false:=by simpa[Eo,a,c]using hd
 simp(disch:=first|omega|simp only[vl];omega) only[AD,Q];simp(disch:=first|omega|simp only[vl];omega) only[AD];obtain⟨a,c,Q⟩:=PF hd;have b1:=A7.1 c;have b2:=A7.1 Q;have L:=Aw (n:=AB (AG d i) 0) (by omega);have F:=Aw (n:=AB (AG d i) 1) (by omega);have I:=Tl (n:=AB (AG d i) 0);simp(disch:=first|omega|simp only[vl];omega) only[AD,a];refine DU (Bt (K:=K)) rfl ?_;simp(disch:=first|omega|simp only[vl];omega) only[AD,c];refine DU (Bt (K:=K)) rfl ?_;by_cases k:20<d.length;rw[AIT (by omega) (.inl k)];simp(disch:=first|omega|simp only[vl];omega) only[AD,Q];have b:(BH [32] (Cw d) (i+1)).length<=(i+1)*100/\(0<i+1->BH [32] (Cw d) (i+1)≠[]):=by
  simp only[BH,YF hi,AW];have:(if 0<i then [32]else([]:List Nat)).length<=1:=by split<;>simp
  refine⟨by omega,λ_ q=>?_⟩;have:=congrArg List.length q;simp only[AW,A5]at this;omega
 by_cases H:0<i;simp(disch:=first|omega|simp only[vl];omega) only[AD,Q];refine DU (CB (K:=K) (n:=AB (AG d i) 0) (by omega)) rfl ?_;simp(disch:=first|omega|simp only[vl];omega) only[AD];refine DU (CB (K:=K) (n:=AB (AG d i) 1) (by omega)) rfl ?_;simp(disch:=first|omega|simp only[vl];omega) only[AD];exact⟨⟨by omega,Bg g hd,b.1,λ_=>b.2 (by omega)⟩,by simp only[BH,if_pos H,YF hi,CT]⟩;simp(disch:=first|omega|simp only[vl];omega) only[AD,Q];refine DU (CB (K:=K) (n:=AB (AG d i) 0) (by omega)) rfl ?_;simp(disch:=first|omega|simp only[vl];omega) only[AD];refine DU (CB (K:=K) (n:=AB (AG d i) 1) (by omega)) rfl ?_;simp(disch:=first|omega|simp only[vl];omega) only[AD];exact⟨⟨by omega,Bg g hd,b.1,λ_=>b.2 (by omega)⟩,by simp only[BH,if_neg H,YF hi,CT,List.append_nil]⟩;obtain⟨l,g,o,G⟩:=P;by_cases h0:d.length=0;have e:Cc d=[110,111,110,101]:=by unfold Cc;rw[if_pos h0]
 have f:BH [32] (Cw d) d.length=[]:=by rw[h0];rfl
 rw[e,f];simp(disch:=first|omega|simp only[vl];omega) only[AD];have e:(BH [32] (Cw d) d.length==[])=false:=beq_eq_false_iff_ne.2 (G (by omega));have f:Cc d=glue [32] (Cw d):=by unfold Cc;rw[if_neg h0,if_neg (by omega),Ut g];rfl
 rw[f];simp(disch:=first|omega|simp only[vl];omega) only[AD,e];simp only[glue,C]
end Go.Cat
