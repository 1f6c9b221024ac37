/-
 What the laws' own helpers do.
-/
import Derived.Test.YthoilpmggmenbaaGreatQd0RunConsole
import Derived.Test.YthoilpmggmenbaaGreatQd1RunConsole
import Derived.Test.YthoilpmggmenbaaGreatQd2RunConsole
import Derived.Test.YthoilpmggmenbaaGreatQd3RunConsole
set_option linter.unusedSimpArgs false
set_option linter.unusedVariables false
namespace Go.Cat
variable{K:Nat->List D->List D->Prop}
def C9:Nat->List Nat
 |0=>[]
 |n+1=>C9 ((n+1)/10)++[48+(n+1)%10]
decreasing_by omega
end Go.Cat
namespace Go.Cat
variable{K:Nat->List D->List D->Prop}
def AR(lo hi x:Int):Bool:=decide (lo<=x)&&decide (x<=hi)
theorem A5{lo hi x:Int}:AR lo hi x=true↔lo<=x/\x<=hi:=by simp[AR]
theorem JB{lo hi x:Int}:AR lo hi x=false↔¬(lo<=x/\x<=hi):=by simp[AR]
theorem Bq[HA K]{x a b:Int}:K 23 [.n x,.n a,.n b] [.b (AR a b x)]:=by refine qb L8 ?_;simp(disch:=omega) only[vc];by_cases h:a<=x<;>simp(disch:=omega) only[vc,h,AR]
theorem Bt[HA K]{x a b:Int}:K 22 [.n x,.n a,.n b] [.b (AR a b x)]:=by refine qb Lq ?_;simp(disch:=omega) only[vc];by_cases h:a<=x<;>simp(disch:=omega) only[vc,h,AR]
end Go.Cat
namespace Go.Cat
variable{K:Nat->List D->List D->Prop}
def AQ(n:Int):List Nat:=if n=0 then [48]else if n<0 then 45::C9 n.natAbs else C9 n.natAbs
theorem HR{n:Nat}(h:n≠0):C9 n=C9 (n/10)++[48+n%10]:=by
 cases n with
 |zero=>exact absurd rfl h
 |succ n=>rw[C9]
theorem NO:∀{k n:Nat},n<10^k->(C9 n).length<=k
 |0,n,h=>by
  obtain rfl:n=0:=by omega
  simp[C9]
 |k+1,n,h=>by by_cases h0:n=0;subst h0;simp[C9];rw[HR h0];have:=NO (k:=k) (n:=n/10) (by rw[Nat.pow_succ]at h;omega);simp only[A4,AO,A6];omega
theorem Vj{x:Int}:(x.tdiv 10).natAbs=x.natAbs/10:=by rw[Int.natAbs_tdiv];rfl
theorem We{x:Int}:(x.tmod 10).natAbs=x.natAbs%10:=by rw[Int.natAbs_tmod];rfl
theorem AB2{x:Int}(h:-9223372036854775808<=x/\x<=9223372036854775807):-9223372036854775808<=x.tdiv 10/\x.tdiv 10<=9223372036854775807:=by have:=Vj (x:=x);omega
theorem ABL{x:Int}:-9<=x.tmod 10/\x.tmod 10<=9:=by have:=We (x:=x);omega
theorem By[HA K]{n:Int}(h:-9223372036854775808<=n/\n<=9223372036854775807):K 138 [.n n] [.s (AQ n)]:=by
 refine qb I138 ?_;by_cases h0:n=0;subst h0;exact wZ;have B:=NO (k:=19) (n:=n.natAbs) (by omega);refine wW ?_;refine Bj (λ(x:Int×List Nat)=>C9 x.1.natAbs++x.2=C9 n.natAbs/\(-9223372036854775808<=x.1/\x.1<=9223372036854775807)) (λx=>[.n x.1,.u,.s x.2,.b (decide (n<0)),.u,.u,.u,.u,.u]) (λx=>x.1.natAbs) (n,[]) ⟨by simp,h⟩ rfl ?_;rintro⟨x,s⟩ ⟨H,f⟩;simp only at H f|-;have l:=congrArg List.length H;rw[A4]at l;have g:=AB2 f;have C:=ABL (x:=x);have c:=Vj (x:=x);have o:=We (x:=x);by_cases j:x=0;subst j;have H:s=C9 n.natAbs:=by simpa[C9]using H
 by_cases i:n<0;refine wW ?_;simp only[AQ,if_neg h0,if_pos i,H,List.cons_append,List.nil_append];refine wW ?_;simp only[AQ,if_neg h0,if_neg i,H];have a:x.natAbs≠0:=by omega
 rw[HR a]at H;have q:48+x.natAbs%10<256:=by omega
 by_cases F:x.tmod 10<0;have e:(48+(0-x.tmod 10)).toNat=48+x.natAbs%10:=by omega
 simp(disch:=try exact dV) only[AD,e];exact⟨(x.tdiv 10,(48+x.natAbs%10)::s),by show(x.tdiv 10).natAbs<x.natAbs;omega,⟨by rw[c,<-H];simp,g⟩,rfl⟩;have e:(48+x.tmod 10).toNat=48+x.natAbs%10:=by omega
 simp(disch:=try exact dV) only[AD,e];exact⟨(x.tdiv 10,(48+x.natAbs%10)::s),by show(x.tdiv 10).natAbs<x.natAbs;omega,⟨by rw[c,<-H];simp,g⟩,rfl⟩
def Gq(b:List Nat)(i:Int)(c:Nat):List Nat:=b.set i.toNat c
theorem OA{b:List Nat}{i:Int}{c:Nat}:(Gq b i c).length=b.length:=by simp[Gq]
theorem ZF{b:List Nat}{i j:Nat}{c:Nat}(hi:i<b.length):AH (Gq b i c) j=if i=j then c else AH b j:=by simp only[AH,Gq,BM,Ap,List.getElem?_set];by_cases q:i=j;subst q;simp[hi];simp[q]
theorem extB{a b:List Nat}(l:a.length=b.length)(h:∀j:Nat,j<a.length->AH a j=AH b j):a=b:=by refine List.ext_getElem l λi H c=>?_;have:=h i H;simpa[AH,H,c]using this
theorem AH1{b:List Nat}{i:Int}{c:Nat}(h:0<=i/\i<b.length):Aw [i.toNat] (LB b) (.y c)=some (LB (Gq b i c)):=NZ D.y (by omega)
theorem AS0{is:List Nat}{d:D}{c:Nat}:JW (some is) d (.y c)=Aw is d (.y c):=rfl
def Nn(a o:List Nat)(i:Nat):Prop:=o.length=a.length/\∀j:Nat,j<a.length->AH o j=if j<i\/a.length<=j+i then AH a (a.length-1-j:Nat)else AH a j
theorem AA5{a:List Nat}:Nn a a 0:=⟨rfl,λj h=>by rw[if_neg (by omega)]⟩
theorem Z8{a o:List Nat}{i:Nat}(h:Nn a o i)(f:2*i+1<a.length):Nn a (Gq (Gq o i (AH o ((a.length-1-i:Nat):Int))) ((a.length-1-i:Nat):Int) (AH o i)) (i+1):=by obtain⟨c,H⟩:=h;refine⟨by rw[OA,OA,c],λj e=>?_⟩;rw[ZF (by rw[OA];omega),ZF (by omega)];have b:=H i (by omega);have a2:=H (a.length-1-i) (by omega);rw[if_neg (by omega)]at b a2;by_cases j1:a.length-1-i=j;rw[if_pos j1,if_pos (by omega),b];congr 2;omega;rw[if_neg j1];by_cases j2:i=j;rw[if_pos j2,if_pos (by omega),a2];congr 2;omega;rw[if_neg j2,H j e];by_cases j3:j<i\/a.length<=j+i;rw[if_pos j3,if_pos (by omega)];rw[if_neg j3,if_neg (by omega)]
theorem AIR{a o:List Nat}{i:Nat}(h:Nn a o i)(f:¬2*i+1<a.length):o=a.reverse:=by
 obtain⟨b,c⟩:=h;refine extB (by simp[b]) λj H=>?_;rw[b]at H;rw[c j H];have e:AH a.reverse j=AH a (a.length-1-j:Nat):=by simp only[AH,BM,Ap,List.getElem?_reverse H]
 rw[e];split;rfl;congr 2;omega
theorem AC3:∀{n:Nat},∀c∈C9 n,c<256:=by
 intro n;induction n using Nat.strongRecOn with
 |_ n i=>
  intro c h
  by_cases h0:n=0
  .subst h0;simp[C9]at h
  .rw[HR h0]at h
   rcases Ac.1 h with q|q
   .exact i (n/10) (by omega) c q
   .obtain rfl:=List.mem_singleton.1 q;omega
theorem AH7{n:Int}:∀c∈AQ n,c<256:=by intro c h;unfold AQ at h;split at h;obtain rfl:=List.mem_singleton.1 h;omega;split at h;rcases A7.1 h with rfl|q;omega;exact AC3 c q;exact AC3 c h
theorem Ax{n:Int}(h:-9223372036854775808<=n/\n<=9223372036854775807):(AQ n).length<=20:=by have H:=NO (k:=19) (n:=n.natAbs) (by omega);unfold AQ;split;simp;split;simp only[AO];omega;omega
theorem Sd{n:Int}:0<(AQ n).length:=by unfold AQ;split;simp;rename_i h0;split;simp;rw[HR (by omega)];simp
theorem C4[HA K]{n:Int}(h:-9223372036854775808<=n/\n<=9223372036854775807):K 143 [.n n] [.s (AQ n)]:=by
 refine qb I143 ?_;by_cases h0:n=0;subst h0;exact wZ;have R:=NO (k:=19) (n:=n.natAbs) (by omega);have M:=Ax h;have N:=Sd (n:=n);refine wW ?_;rw[show D.l []=LB []from rfl];refine Bj (λ(x:Int×List Nat)=>C9 x.1.natAbs++x.2.reverse=C9 n.natAbs/\(-9223372036854775808<=x.1/\x.1<=9223372036854775807)) (λx=>[.n n,.u,LB x.2,.n x.1,.u,.u,.u,.u,.u,.u,.u,.u]) (λx=>x.1.natAbs) (n,[]) ⟨by simp,h⟩ rfl ?_;rintro⟨x,s⟩ ⟨H,F⟩;simp only at H F|-;have q:=congrArg List.length H;rw[A4,List.length_reverse]at q;have I:=AB2 F;have T:=ABL (x:=x);have C:=Vj (x:=x);have P:=We (x:=x);by_cases O:x=0;subst O;have H:s.reverse=C9 n.natAbs:=by simpa[C9]using H
 by_cases J:n<0;have f:(s++[45]).reverse=AQ n:=by simp only[AQ,if_neg h0,if_pos J,List.reverse_append,H];rfl
 have a:=congrArg List.length f;rw[List.length_reverse]at a;refine wW ?_;show wpS K (.loop _) _ [.u,.u,LB (s++[45]),.u,.u,.n 0,.n (((s++[45]).length:Int)-1),.u,.u,.u,.u,.u];refine Bj (λ(x:Nat×List Nat)=>2*x.1<=(s++[45]).length+1/\Nn (s++[45]) x.2 x.1) (λx=>[.u,.u,LB x.2,.u,.u,.n x.1,.n (((s++[45]).length:Int)-1-x.1),.u,.u,.u,.u,.u]) (λx=>(s++[45]).length-x.1) (0,s++[45]) ⟨by simp,AA5⟩ (by simp) ?_;rintro⟨i,o⟩ ⟨G,g⟩;simp only at G g;have L:=g.1;have j:(Gq o i (AH o (((s++[45]).length:Int)-1-i))).length=o.length:=OA;by_cases c:2*i+1<(s++[45]).length;simp(disch:=try exact dV) only[AD,AH1,AS0];have e:(((s++[45]).length-1-i:Nat):Int)=((s++[45]).length:Int)-1-i:=by omega
 rw[<-e];refine⟨(i+1,Gq (Gq o i (AH o (((s++[45]).length-1-i:Nat):Int))) (((s++[45]).length-1-i:Nat):Int) (AH o i)),by show(s++[45]).length-(i+1)<(s++[45]).length-i;omega,⟨by show 2*(i+1)<=(s++[45]).length+1;omega,Z8 g c⟩,?_⟩;have:(((s++[45]).length-1-i:Nat):Int)-1=((s++[45]).length:Int)-1-((i+1:Nat):Int):=by omega
 rw[this]<;>rfl;have:=AIR g c;rw[f]at this;subst this;simp(disch:=try exact dV) only[AD,Py (AH7 (n:=n))];have f:s.reverse=AQ n:=by simp only[AQ,if_neg h0,if_neg J,H]
 have a:=congrArg List.length f;rw[List.length_reverse]at a;refine wW ?_;show wpS K (.loop _) _ [.u,.u,LB s,.u,.u,.n 0,.n (((s).length:Int)-1),.u,.u,.u,.u,.u];refine Bj (λ(x:Nat×List Nat)=>2*x.1<=(s).length+1/\Nn (s) x.2 x.1) (λx=>[.u,.u,LB x.2,.u,.u,.n x.1,.n (((s).length:Int)-1-x.1),.u,.u,.u,.u,.u]) (λx=>(s).length-x.1) (0,s) ⟨by simp,AA5⟩ (by simp) ?_;rintro⟨i,o⟩ ⟨G,g⟩;simp only at G g;have L:=g.1;have j:(Gq o i (AH o (((s).length:Int)-1-i))).length=o.length:=OA;by_cases c:2*i+1<(s).length;simp(disch:=try exact dV) only[AD,AH1,AS0];have e:(((s).length-1-i:Nat):Int)=((s).length:Int)-1-i:=by omega
 rw[<-e];refine⟨(i+1,Gq (Gq o i (AH o (((s).length-1-i:Nat):Int))) (((s).length-1-i:Nat):Int) (AH o i)),by show(s).length-(i+1)<(s).length-i;omega,⟨by show 2*(i+1)<=(s).length+1;omega,Z8 g c⟩,?_⟩;have:(((s).length-1-i:Nat):Int)-1=((s).length:Int)-1-((i+1:Nat):Int):=by omega
 rw[this]<;>rfl;have:=AIR g c;rw[f]at this;subst this;simp(disch:=try exact dV) only[AD,Py (AH7 (n:=n))];have B:x.natAbs≠0:=by omega
 rw[HR B]at H;have Q:48+x.natAbs%10<256:=by omega
 by_cases U:x.tmod 10<0;have b:(48+(0-x.tmod 10)).toNat=48+x.natAbs%10:=by omega
 simp(disch:=try exact dV) only[AD,b];exact⟨(x.tdiv 10,s++[48+x.natAbs%10]),by show(x.tdiv 10).natAbs<x.natAbs;omega,⟨by rw[C,<-H];simp,I⟩,rfl⟩;have b:(48+x.tmod 10).toNat=48+x.natAbs%10:=by omega
 simp(disch:=try exact dV) only[AD,b];exact⟨(x.tdiv 10,s++[48+x.natAbs%10]),by show(x.tdiv 10).natAbs<x.natAbs;omega,⟨by rw[C,<-H];simp,I⟩,rfl⟩
end Go.Cat
namespace Go.Cat
variable{K:Nat->List D->List D->Prop}
def AA(w:List Nat)(c:Nat):Nat:=w.count c
theorem Mq{a c:Nat}{w:List Nat}:AA (a::w) c=AA w c+(if a=c then 1 else 0):=by simp only[AA,List.count_cons];congr 1;by_cases h:a=c<;>simp[h]
theorem PD{w:List Nat}{c:Nat}:AA w c<=w.length:=List.count_le_length
theorem Tw[HA K]{w:List Nat}{c:Nat}(h:w.length<=1000000000):K 66 [.s w,.y c] [.n (AA w c)]:=by refine qw I66 ?_;refine Aj (λi (n:Int)=>0<=n/\n<=i/\n+AA (w.drop i) c=AA w c) (λi n=>[.s w,.y c,.u,.n n,.n i,.u,.u]) w.length 0 ⟨by omega,by omega,by simp⟩ rfl (λi n hi P=>?_) (λn P=>?_);obtain⟨b,e,H⟩:=P;rw[EF hi,Mq]at H;by_cases a:AH w i=c;rw[if_pos a]at H;refine wW ?_;exact⟨_,⟨by omega,by omega,by omega⟩,rfl⟩;rw[if_neg a]at H;refine wW ?_;exact⟨_,⟨by omega,by omega,by omega⟩,rfl⟩;obtain⟨b,e,H⟩:=P;refine wW ?_;rw[List.drop_length]at H;simp only[AA,List.count_nil]at H;exact Dn (by simp only[AA];omega)
def steps(w:List Nat):Bool:=decide (AA w 117+AA w 100=w.length)
def Bl:List Nat->Int->Option Int
 |[],h=>some h
 |c::w,h=>if c=117 then Bl w (h+1)else if c=100 then(if h-1<0 then none else Bl w (h-1))else none
def FY:List Nat->Int->List Int
 |[],_=>[]
 |c::w,h=>if c=117 then(h+1)::FY w (h+1)else(h-1)::FY w (h-1)
def AK(w:List Nat):Bool:=decide (Bl w 0=some 0)&&decide (w.length<=16)
def Mr(w:List Nat):List Int:=match Bl w 0 with
 |some _=>0::FY w 0
 |none=>[]
def L5(w:List Nat):Bool:=decide (Bl w 0=some 0)
theorem AO6[HA K]{w:List Nat}(h:w.length<=1000000000):K 82 [.s w] [LI (Mr w),.b (L5 w)]:=by refine qw I82 ?_;refine Aj (λi (x:Int×List Int)=>0<=x.1/\x.1<=i/\x.2.length=i+1/\Bl w 0=Bl (w.drop i) x.1/\(0::FY w 0:List Int)=x.2++FY (w.drop i) x.1) (λi x=>[.s w,.u,.u,LI x.2,.n x.1,.n i,.u,.u,.u,.u,.u]) w.length (0,[0]) ⟨by simp,by simp,by simp,by simp,by simp⟩ rfl (λi x hi P=>?_) (λx P=>?_);obtain⟨c,l⟩:=x;obtain⟨e,f,g,H,a⟩:=P;simp only at e f g H a;rw[EF hi]at H a;simp only[Bl,FY]at H a;by_cases k:AH w i=117;rw[if_pos k]at H a;refine wW ?_;exact⟨(c+1,l++[c+1]),⟨by simp;omega,by simp;omega,by simp;omega,H,by simp[a]⟩,rfl⟩;rw[if_neg k]at H a;by_cases hd:AH w i=100;rw[if_pos hd]at H;by_cases j:c-1<0;rw[if_pos j]at H;refine wW ?_;simp only[Mr,L5,H];rfl;rw[if_neg j]at H;refine wW ?_;exact⟨(c-1,l++[c-1]),⟨by simp;omega,by simp;omega,by simp;omega,H,by simp[a]⟩,rfl⟩;rw[if_neg hd]at H;refine wW ?_;simp only[Mr,L5,H];rfl;obtain⟨c,l⟩:=x;obtain⟨e,f,g,H,a⟩:=P;simp only at e f g H a;rw[List.drop_length]at H a;simp only[Bl,FY,List.append_nil]at H a;refine wW ?_;simp only[Mr,L5,H,a,AL]
theorem Bv[HA K]{w:List Nat}(h:w.length<=1000000000):K 67 [.s w] [.b (AK w)]:=by
 refine qb I67 ?_;by_cases l:w.length<=16
 .refine wW ?_;repeat refine cW (AO6 h) ?_
  simp[AK,L5,l]
 refine wW ?_;simp[AK,l]
theorem Br[HA K]{w:List Nat}(h:w.length<=1000000000):K 64 [.s w] [.b (AK w)]:=by refine qw I64 ?_;refine Aj (λi (x:Int)=>0<=x/\x<=i/\Bl w 0=Bl (w.drop i) x) (λi x=>[.s w,.u,.n x,.n i,.u,.u,.u,.u,.u]) w.length 0 ⟨by simp,by simp,by simp⟩ rfl (λi a hi P=>?_) (λa P=>?_);obtain⟨f,g,H⟩:=P;rw[EF hi]at H;simp only[Bl]at H;by_cases e:AH w i=117;rw[if_pos e]at H;refine wW ?_;exact⟨a+1,⟨by omega,by omega,H⟩,rfl⟩;rw[if_neg e]at H;by_cases hd:AH w i=100;rw[if_pos hd]at H;by_cases c:a-1<0;rw[if_pos c]at H;refine wW ?_;simp[AK,H];rw[if_neg c]at H;refine wW ?_;exact⟨a-1,⟨by omega,by omega,H⟩,rfl⟩;rw[if_neg hd]at H;refine wW ?_;simp[AK,H];obtain⟨f,g,H⟩:=P;rw[List.drop_length]at H;simp only[Bl]at H;by_cases h0:a=0;refine wW ?_;simp only[AK,H,h0];simp;omega;refine wW ?_;simp[AK,H,h0]
end Go.Cat
namespace Go.Cat
variable{K:Nat->List D->List D->Prop}
set_option maxRecDepth 100000
def Gy(o:Option (List D))(v:Int):Bool:=match o with
 |some [.i .i64 n]=>decide (n=v)
 |_=>false
theorem IP{o:Option (List D)}{v:Int}(h:Gy o v=true):o=some [.n v]:=by
 unfold Gy at h;split at h;simp at h;rw[h]
 cases h
end Go.Cat
namespace Go.Cat
variable{K:Nat->List D->List D->Prop}
set_option maxRecDepth 100000
def FF(fuel:Nat)(w:List Nat)(up down:Nat):List (List Nat):=match fuel with
 |0=>[]
 |f+1=>if down=0 then [w]else(if up > 0 then FF f (w++[117]) (up-1) down else [])++(if down > up then FF f (w++[100]) up (down-1)else [])
def AI(n:Nat):List (List Nat):=FF (2*n+1) [] n n
def F2(o:Option (List D))(l:List (List Nat)):Bool:=match o with
 |some [.l xs]=>go xs l
 |_=>false
where
 go:List D->List (List Nat)->Bool
  |[],[]=>true
  |.s x::xs,y::l=>decide (x=y)&&go xs l
  |_,_=>false
theorem ASJ:∀{xs:List D}{l:List (List Nat)},F2.go xs l=true->xs=l.map D.s
 |[],[],_=>rfl
 |.s x::xs,y::l,h=>by simp only[F2.go,AV,Aa]at h;rw[ASJ h.2,h.1]<;>rfl
 |[],_::_,h=>by simp[F2.go]at h
 |.s _::_,[],h=>by simp[F2.go]at h
 |.u::_,_,h=>by simp[F2.go]at h
 |.i _ _::_,_,h=>by simp[F2.go]at h
 |.b _::_,_,h=>by simp[F2.go]at h
 |.l _::_,_,h=>by simp[F2.go]at h
 |.g _::_,_,h=>by simp[F2.go]at h
 |.z::_,_,h=>by simp[F2.go]at h
 |.p _::_,_,h=>by simp[F2.go]at h
 |.f _ _::_,_,h=>by simp[F2.go]at h
theorem Uz{o:Option (List D)}{l:List (List Nat)}(h:F2 o l=true):o=some [LS l]:=by
 unfold F2 at h;split at h;rw[ASJ h]<;>rfl
 cases h
abbrev AI8:List (Nat×IF):=[(234,I234.v),(292,I292.v),(22,Lq.v)]
abbrev AJT:List (Nat×IF):=[(279,I279.v),(314,W5.v),(326,Vs.v),(23,L8.v)]
theorem prs0:BR 7 (λn=>F2 (E2 (EU AI8) 60 20 234 [.n n]) (AI n))=true:=by kernel_rfl
theorem pri0:BR 7 (λn=>F2 (E2 (EU AJT) 60 20 279 [.n n]) (AI n))=true:=by kernel_rfl
theorem Q7[HA K]{n:Nat}(h:n<7):K 234 [.n n] [LS (AI n)]:=run AI8 60 20 234 (Uz (BY prs0 n h))
theorem pl_i[HA K]{n:Nat}(h:n<7):K 279 [.n n] [LS (AI n)]:=run AJT 60 20 279 (Uz (BY pri0 n h))
abbrev AJ9:List (Nat×IF):=[(314,W5.v),(326,Vs.v)]
theorem ap0:BR 7 (λn=>F2 (E2 (EU AJ9) 60 20 314 [.n n]) (AI n))=true:=by kernel_rfl
theorem AHB[HA K]{n:Nat}(h:n<7):K 314 [.n n] [LS (AI n)]:=run AJ9 60 20 314 (Uz (BY ap0 n h))
theorem YA:BR 7 (λm=>((AI m).all λw=>AK w&&decide (w.length=2*m))&&decide ((AI m).length<=132))=true:=by kernel_rfl
theorem apd{n:Nat}(h:n<7){w:List Nat}(H:w∈AI n):AK w=true/\w.length=2*n:=by have:=BY YA n h;simp only[AV]at this;have:=Ao.1 this.1 w H;simpa using this
theorem apl{n:Nat}(h:n<7):(AI n).length<=132:=by have:=BY YA n h;simp only[AV,Aa]at this;exact this.2
end Go.Cat
