/-
 Lines, plainly: what the first lines come to.
-/
import Derived.Test.YthoilpmggmenbaaGreatPfCkS
set_option linter.unusedSimpArgs false
set_option linter.unusedVariables false
namespace Go.Cat
set_option maxRecDepth 100000
def jn(s:List (List Nat)):List Nat:=s.flatMap λl=>l++[10]
def IS(s:List (List Nat)):Nat:=s.countP λl=>!l.isEmpty
theorem AUC{o:List (List Nat)}{f:List Nat}:jn (o++[f])=jn o++(f++[10]):=by simp[jn]
theorem AGR{b:Nat}:∀{s acc:List Nat},b∉s->C5 b acc s=[acc++s]
 |[],acc,_=>by simp[C5]
 |a::s,acc,h=>by simp only[A6,not_or]at h;simp only[C5];rw[if_neg λq=>h.1 q.symm,AGR h.2];simp
theorem AQQ{b:Nat}:∀{l acc r:List Nat},b∉l->C5 b acc (l++b::r)=(acc++l)::C5 b [] r
 |[],acc,r,_=>by simp[C5]
 |a::l,acc,r,h=>by simp only[A6,not_or]at h;simp only[List.cons_append,C5];rw[if_neg λq=>h.1 q.symm,AQQ h.2];simp
theorem ALR:∀{o:List (List Nat)}{r:List Nat},(∀l∈o,10∉l)->AO 10 (jn o++r)=o++AO 10 r
 |[],r,_=>rfl
 |l::o,r,h=>by
  have e:jn (l::o)++r=l++10::(jn o++r):=by simp[jn]
  rw[e,AO,AQQ (h l (by simp))];have:=ALR (o:=o) (r:=r) λx H=>h x (by simp[H]);simp only[AO]at this;rw[this];simp[AO]
theorem AaT{o:List (List Nat)}{f:List Nat}:Bw (o++[f])=if f=[]then o else o++[f]:=by
 have h:((o++[f]).length:Int)-1=(o.length:Nat):=by simp
 have H:AF (o++[f]) (o.length:Nat)=f:=by simp[AF]
 unfold Bw;rw[h,H];split;simp[sub];rfl
theorem AO8{o:List (List Nat)}{f s:List Nat}(a:∀l∈o,10∉l)(H:10∉f)(h:jn o++f=s):Bw (AO 10 s)=if f=[]then o else o++[f]:=by rw[<-h,ALR a,<-AaT];simp only[AO,AGR H,List.nil_append]
theorem AQ3{g:Nat->List Nat}{us:List (List Nat)}(a:∀i,i<us.length->10∉g i):∀i,i<=us.length->(oG g us i).count 10=IS (us.take i)
 |0,_=>by simp[oG,IS]
 |i+1,h=>by
  have H:=AQ3 a i (by omega)
  have b:=List.count_eq_zero.2 (a i (by omega))
  have e:us.take (i+1)=us.take i++[AF us i]:=by
   rw[CQ (by omega)]
   have hi:i<us.length:=by omega
   simp[AF,hi]
  rw[e]
  simp only[oG,IS,List.countP_append]at H|-
  split
  rename_i q
  rw[H,q];simp
  rename_i q
  have Q:(AF us i).isEmpty=false:=by simpa using q
  simp[H,b,Q,List.countP_cons]
theorem AIL{g:Nat->List Nat}{us:List (List Nat)}{m:Nat}:∀k,∃t,oG g us (m+k)=oG g us m++t
 |0=>⟨[],by simp⟩
 |k+1=>by obtain⟨t,h⟩:=AIL (g:=g) (us:=us) (m:=m) k;show ∃t,oG g us (m+k+1)=_;simp only[oG];split;exact⟨t,h⟩;exact⟨t++g (m+k)++[10],by rw[h];simp⟩
theorem AM5{g G:Nat->List Nat}{us vs:List (List Nat)}:∀{m:Nat},(∀i,i<m->AF us i=AF vs i/\g i=G i)->oG g us m=oG G vs m
 |0,_=>rfl
 |m+1,h=>by have H:=AM5 (m:=m) λi hi=>h i (by omega);obtain⟨a,b⟩:=h m (by omega);simp only[oG,H,a,b]
end Go.Cat
namespace Go.Cat
set_option maxRecDepth 100000
variable{K:Nat->List D->List D->Prop}
end Go.Cat
namespace Go.Cat
variable{K:Nat->List D->List D->Prop}
end Go.Cat
namespace Go.Cat
variable{K:Nat->List D->List D->Prop}
def cf(a b:List Int)(i m:Nat)(x:Int):Int:=iter (λk s=>IntKind.i64.wrap (s+IntKind.i64.wrap (AB a k*AB b ((i:Int)-k)))) m x
def pw(b:List Int)(n:Nat):Nat->List Int
 |0=>b
 |j+1=>AXF (pw b n j) b n
def AlN(n:Nat):List Int:=BE (rep (n:Int) 0) 0 1
end Go.Cat
namespace Go.Cat
variable{K:Nat->List D->List D->Prop}
end Go.Cat
namespace Go.Cat
variable{K:Nat->List D->List D->Prop}
end Go.Cat
namespace Go.Cat
variable{K:Nat->List D->List D->Prop}
end Go.Cat
namespace Go.Cat
variable{K:Nat->List D->List D->Prop}
set_option maxRecDepth 100000
def pws(b:List Int)(n:Nat):Nat->List Int
 |0=>AlN n
 |k+1=>pw b n k
def sm(f b:List Int)(n i:Nat)(k:Nat):Int:=iter (λk s=>IntKind.i64.wrap (s+IntKind.i64.wrap (AB f k*AB (pws b n k) i))) k 0
end Go.Cat
namespace Go.Cat
variable{K:Nat->List D->List D->Prop}
set_option maxRecDepth 100000
end Go.Cat
namespace Go.Cat
set_option maxRecDepth 100000
variable{K:Nat->List D->List D->Prop}
theorem AXX[HA K]{code:List Nat}{k:Nat}(h:code.length<=1048576)(b:∀c∈code,c<256)(H:k<=100):∃rs,(∃v:Int,rs=[.n v]/\0<=v/\v<=255)/\K 407 [LB code,.n k] rs:=by refine qx I407 ?_;refine wW ?_;by_cases q:k<code.length;have a:AH code k<256:=b _ (by simp[AH,q]);refine wW ?_;exact⟨_,rfl,by omega,by omega⟩;refine wW ?_;exact⟨_,rfl,by omega,by omega⟩
end Go.Cat
namespace Go.Cat
variable{K:Nat->List D->List D->Prop}
set_option maxRecDepth 100000
end Go.Cat
namespace Go.Cat
variable{K:Nat->List D->List D->Prop}
set_option maxRecDepth 100000
end Go.Cat
namespace Go.Cat
variable{K:Nat->List D->List D->Prop}
set_option maxRecDepth 100000
theorem AO9[HA K]{code:List Nat}:K 220 [LB code] [.b (decide (1048576<(code.length:Int)))]:=by refine qb I220 ?_;simp(disch:=try exact dV) only[vc]
end Go.Cat
namespace Go.Cat
variable{K:Nat->List D->List D->Prop}
set_option maxRecDepth 100000
theorem Al4[HA K]{a t:List Nat}:K 670 [.s a,.s (a++t)] [.b true]:=by
 have e:(sub (a++t) 0 (a.length:Int)==a)=true:=by simp[sub]
 refine qb I670 ?_;simp(disch:=try exact dV) only[AD,e]
def HI(s:List Nat)(i:Nat)(x:List (List Nat)×List Nat×Int×Int):Prop:=
 (∀l∈x.1,10∉l)/\x.1.length<=i/\(∃m,m<=x.1.length/\s.take x.2.2.2.toNat=jn (x.1.take m))/\(0<=x.2.2.2/\x.2.2.2<=s.length)/\
 ((i<=s.length/\10∉x.2.1/\jn x.1++x.2.1=s.take i/\x.2.2.1=i-x.2.1.length/\x.2.1.length<=i)\/(i=s.length+1/\x.1=Bw (AO 10 s)))
theorem HI.Re{s o f fr c} {i:Nat} (h:HI s i (o,f,fr,c)) (hi:i<=s.length):10∉f/\jn o++f=s.take i/\fr=i-f.length/\f.length<=i:=by rcases h.2.2.2.2 with q|q;exact q.2;have:=q.1;omega
theorem HI.go{s o f fr c} {i:Nat} (h:HI s i (o,f,fr,c)) (hi:i<s.length) (g:AH s i≠10):HI s (i+1) (o,f++[AH s i],fr,c):=by obtain⟨M,j,k,l⟩:=h.Re (by omega);obtain⟨H,a,b,e,_⟩:=h;refine⟨H,by simp only at a|-;omega,b,e,.inl ⟨by omega,?_,?_,?_,?_⟩⟩;simp only[A9,List.mem_singleton,not_or];exact⟨M,λq=>g q.symm⟩;simp only;rw[FE hi,<-j];simp;simp only[AW,AP,A5];omega;simp only[AW,AP,A5];omega
theorem AL8{o:List (List Nat)}{f:List Nat}{m:Nat}(h:m<=o.length):(o++[f]).take m=o.take m:=by rw[List.take_append,Nat.sub_eq_zero_of_le h];simp
theorem HI.nl{s o f fr c} {i:Nat} (h:HI s i (o,f,fr,c)) (hi:i<s.length) (k:AH s i=10) (p:Bool):HI s (i+1) (o++[f],[],(i:Int)+1,if p=true then(i:Int)+1 else c):=by
 obtain⟨M,B,C,F⟩:=h.Re (by omega);obtain⟨b,g,⟨m,H,a⟩,j,_⟩:=h;have e:jn (o++[f])=s.take (i+1):=by rw[AUC,FE hi,<-B,k];simp
 refine⟨λl x=>?_,by simp only[AW,AP,A5]at g|-;omega,?_,?_,.inl ⟨by omega,by simp,by simp only[e,List.append_nil],by simp,by simp⟩⟩;rcases A9.1 x with q|q;exact b l q;rw[List.mem_singleton.1 q];exact M
 cases p;exact⟨m,by simp only[AW]at H|-;omega,by simp only at H a|-;rw[AL8 H];simpa using a⟩;refine⟨(o++[f]).length,Nat.le_refl _,?_⟩;simp only[if_pos,List.take_length,e];rfl
 cases p;simpa using j;simp only[if_pos];omega
theorem HI.fin{s o f fr c} (h:HI s s.length (o,f,fr,c)):HI s (s.length+1) (if f=[]then o else o++[f],f,if f=[]then fr else(s.length:Int)+1,c):=by obtain⟨M,j,x,B⟩:=h.Re (Nat.le_refl _);obtain⟨a,g,⟨m,H,b⟩,i,_⟩:=h;rw[List.take_length]at j;have e:=AO8 a M j;by_cases q:f=[];rw[if_pos q]at e|-;exact⟨a,by simp only at g|-;omega,⟨m,H,b⟩,i,.inr ⟨rfl,e.symm⟩⟩;rw[if_neg q]at e|-;refine⟨λl k=>?_,by simp only[AW,AP,A5]at g|-;omega,⟨m,by simp only[AW]at H|-;omega,by simp only at H b|-;rw[AL8 H];exact b⟩,i,.inr ⟨rfl,e.symm⟩⟩;rcases A9.1 k with q|q;exact a l q;rw[List.mem_singleton.1 q];exact M
theorem ATI{o:List (List Nat)}{f:List Nat}:IS (o++[f])=IS o+if f=[]then 0 else 1:=by cases f<;>simp[IS,List.countP_append]
theorem AIO{f:List Nat->List Nat}{s:List Nat}(h:s.length<=2000)(H:(Bw (AO 10 s)).length<=20):J4 f s=oG (λi=>f (AF (Bw (AO 10 s)) i)) (Bw (AO 10 s)) (Bw (AO 10 s)).length:=by unfold J4 II;rw[if_neg (by omega),if_neg (by omega)]
theorem AcK{f:List Nat->List Nat}{s:List Nat}(h:20<(Bw (AO 10 s)).length):J4 f s=[]:=by unfold J4 II;rw[if_pos h];split<;>rfl
set_option maxHeartbeats 2000000 in
theorem AZC[HA K][Da K][Jz K][Hk K][OV K]{code:List Nat}(O:∀c∈code,c<256):K 659 [LB code] [.b true]:=by
 by_cases L:code.length<=1048576;obtain⟨f,F,hr⟩:=AjR (K:=K);obtain⟨s,⟨hs,Y⟩,kd⟩:=AcL (K:=K) L;obtain⟨ki,ks⟩:=hr s (by omega) Y;obtain⟨_,⟨a,rfl,ha⟩,ka⟩:=AXX (K:=K) (k:=0) L O (by omega);obtain⟨v,V⟩:∃v,v=J4 f s:=⟨_,rfl⟩;rw[<-V]at ki ks;have N:(v==v)=true:=by simp
 refine qw ABH ?_;refine cW AO9 ?_;refine cW kd ?_;refine cW ki ?_;refine cB ks ?_;simp(disch:=try exact dV) only[AD,N];refine cW ka ?_;refine Ah (HI s) (λi x=>[.u,.u,.s s,.s v,.n x.2.2.2,.n x.1.length,.n (IS x.1),.n (1+a%9),.n x.2.2.1,.n i,.u,.u,.u,.u,.u,.u,.u,.u,.u,.u,.u]) (s.length+1) ([],[],0,0) ⟨by simp,by simp,⟨0,by simp,by simp[jn]⟩,by simp,.inl ⟨by omega,by simp,by simp[jn],by simp,by simp⟩⟩ rfl (λi x hi C=>?_) (λx C=>?_);obtain⟨o,g,fr,c⟩:=x;obtain⟨m1,m2,m3,m4⟩:=C.Re (by omega);have T:=C.2.1;have hce:IS o<=o.length:=List.countP_le_length;simp only at T;rcases BQ i s.length with G|G;by_cases j:AH s i=10;have go:∀p:Bool,∀e:Env,e=[.u,.u,.s s,.s v,.n (if p=true then(i:Int)+1 else c),.n ((o.length:Int)+1),.n (IS (o++[g])),.n (1+a%9),.n ((i:Int)+1),.n ((i:Int)+1),.u,.u,.u,.u,.u,.u,.u,.u,.u,.u,.u]->∃J,HI s (i+1) J/\e=[.u,.u,.s s,.s v,.n J.2.2.2,.n J.1.length,.n (IS J.1),.n (1+a%9),.n J.2.2.1,.n ((i+1:Nat):Int),.u,.u,.u,.u,.u,.u,.u,.u,.u,.u,.u]:=λp e he=>⟨_,C.nl G j p,by rw[he];simp⟩;have H:=ATI (o:=o) (f:=g);by_cases B:g=[];subst B;rw[if_pos rfl]at H;simp only[A5]at m3;by_cases hk:(o.length:Int)+1=1+a%9;simp(disch:=try exact dV) only[AD,j];exact go true _ (by rw[H];simp);simp(disch:=try exact dV) only[AD,j];exact go false _ (by rw[H];simp);rw[if_neg B]at H;have:=List.length_pos_iff.2 B;by_cases hk:(o.length:Int)+1=1+a%9;simp(disch:=try exact dV) only[AD,j];exact go true _ (by rw[H];simp);simp(disch:=try exact dV) only[AD,j];exact go false _ (by rw[H];simp);refine wW ?_;exact⟨_,C.go G j,rfl⟩;obtain rfl:i=s.length:=by omega
 have F:=C.fin;by_cases B:g=[];subst B;simp only[A5]at m3;rw[if_pos rfl,if_pos rfl]at F;refine wW ?_;exact⟨_,F,by simp⟩;rw[if_neg B,if_neg B]at F;have:=List.length_pos_iff.2 B;have H:=ATI (o:=o) (f:=g);rw[if_neg B]at H;by_cases hk:(o.length:Int)+1=1+a%9;refine wW ?_;exact⟨_,F,by simp[H]⟩;refine wW ?_;exact⟨_,F,by simp[H]⟩;obtain⟨o,g,fr,c⟩:=x;obtain⟨h1,h2,⟨m,h3,h5⟩,h4,h6⟩:=C;have M:o=Bw (AO 10 s):=by rcases h6 with q|q;omega;exact q.2
 simp only at h1 h2 h3 h4 h5;by_cases O:20<o.length;have e:v=[]:=by rw[V];exact AcK (by rw[<-M];exact O)
 subst e;exact wZ;have e:=AIO (f:=f) (s:=s) (by omega) (by rw[<-M];omega);rw[<-V,<-M]at e;have hq:∀i,i<o.length->10∉f (AF o i)/\(f (AF o i)).length<=100000:=λi hi=>by rw[M]at hi|-;have:=(R9 (s:=s)).2.2 i hi;have q:=F (AF (Bw (AO 10 s)) i) (by omega) (OQ (P:=λc=>c<256) (by simp) Y (WB hi));exact⟨q.2,q.1⟩
 have H:=AQ3 (g:=λi=>f (AF o i)) (us:=o) (λi hi=>(hq i hi).1) o.length (Nat.le_refl _);have W:=Ta (g:=λi=>f (AF o i)) (us:=o) (λi hi=>(hq i hi).2) o.length (Nat.le_refl _);rw[<-e,List.take_length]at H;rw[<-e]at W;have I:(o.take m).length=m:=by rw[List.length_take];omega
 have es:sub s 0 c=jn (o.take m):=by simpa[sub]using h5
 have Z:Bw (AO 10 (jn (o.take m)))=o.take m:=by have:=AO8 (o:=o.take m) (f:=[]) (s:=jn (o.take m)) (λl L=>h1 l (List.mem_of_mem_take L)) (by simp) (by simp);rwa [if_pos rfl]at this
 have esl:(sub s 0 c).length<=1000:=by rw[J6];omega
 have kw:=(hr (sub s 0 c) (by omega) (KC Y)).1;have ew:J4 f (sub s 0 c)=oG (λi=>f (AF o i)) o m:=by
  rw[AIO (by omega) (by rw[es,Z,I];omega),es,Z,I];refine AM5 λi hi=>?_;have:AF (o.take m) i=AF o i:=by simp[AF,hi]
  rw[this];exact⟨rfl,rfl⟩
 obtain⟨t,U⟩:=AIL (g:=λi=>f (AF o i)) (us:=o) (m:=m) (o.length-m);rw[show m+(o.length-m)=o.length by omega,<-e,<-ew]at U;generalize J4 f (sub s 0 c)=w at kw U;have kb:K 670 [.s w,.s v] [.b true]:=by rw[U];exact Al4
 have R:∀i,i<v.length->(v.take (i+1)).count 10=(v.take i).count 10+if AH v i=10 then 1 else 0:=λi hi=>by rw[FE hi,List.count_append];split<;>simp_all
 refine wW ?_;refine AN (λ_=>True) (λi=>[.u,.u,.s s,.s v,.n c,.u,.n (IS o),.u,.u,.u,.n ((v.take i).count 10),.n i,.u,.u,.u,.u,.u,.u,.u,.u,.u]) v.length trivial (by simp) (λi hi _=>?_) (λ_=>?_);have Q:(v.take i).count 10<=(v.take i).length:=List.count_le_length;rw[List.length_take]at Q;have h:=R i hi;by_cases j:AH v i=10;rw[if_pos j]at h;simp(disch:=try exact dV) only[AD,j];rw[h];simp;rw[if_neg j]at h;refine wW ?_;rw[h];simp;rw[List.take_length,H];refine wW ?_;refine cW kw ?_;exact cZ kb;refine qw ABH ?_;exact cZ AO9
end Go.Cat
