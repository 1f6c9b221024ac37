/-
 What the laws' own helpers do.
-/
import Derived.Test.YthoilpmggmenbaaGreatQd0LawConsolePrefix
import Derived.Test.YthoilpmggmenbaaGreatQd1LawConsolePrefix
import Derived.Test.YthoilpmggmenbaaGreatQd2LawConsolePrefix
import Derived.Test.YthoilpmggmenbaaGreatQd3LawConsolePrefix
set_option linter.unusedSimpArgs false
set_option linter.unusedVariables false
namespace Go.Cat
variable{K:Nat->List D->List D->Prop}
def Cd:Nat->List Nat
 |0=>[]
 |n+1=>Cd ((n+1)/10)++[48+(n+1)%10]
decreasing_by omega
end Go.Cat
namespace Go.Cat
variable{K:Nat->List D->List D->Prop}
def AR(lo hi x:Int):Bool:=decide (lo<=x)&&decide (x<=hi)
theorem A7{lo hi x:Int}:AR lo hi x=true↔lo<=x/\x<=hi:=by simp[AR]
theorem JS{lo hi x:Int}:AR lo hi x=false↔¬(lo<=x/\x<=hi):=by simp[AR]
theorem Br[HA K]{x a b:Int}:K 23 [.n x,.n a,.n b] [.b (AR a b x)]:=by refine qb LR ?_;simp(disch:=omega) only[vc];by_cases h:a<=x<;>simp(disch:=omega) only[vc,h,AR]
theorem Bt[HA K]{x a b:Int}:K 22 [.n x,.n a,.n b] [.b (AR a b x)]:=by refine qb MZ ?_;simp(disch:=omega) only[vc];by_cases h:a<=x<;>simp(disch:=omega) only[vc,h,AR]
end Go.Cat
namespace Go.Cat
variable{K:Nat->List D->List D->Prop}
def AQ(n:Int):List Nat:=if n=0 then [48]else if n<0 then 45::Cd n.natAbs else Cd n.natAbs
theorem Hf{n:Nat}(h:n≠0):Cd n=Cd (n/10)++[48+n%10]:=by
 cases n with
 |zero=>exact absurd rfl h
 |succ n=>rw[Cd]
theorem N1:∀{k n:Nat},n<10^k->(Cd n).length<=k
 |0,n,h=>by
  obtain rfl:n=0:=by omega
  simp[Cd]
 |k+1,n,h=>by by_cases h0:n=0;subst h0;simp[Cd];rw[Hf h0];have:=N1 (k:=k) (n:=n/10) (by rw[Nat.pow_succ]at h;omega);simp only[AW,AP,A5];omega
theorem YP{x:Int}:(x.tdiv 10).natAbs=x.natAbs/10:=by rw[Int.natAbs_tdiv];rfl
theorem Vp{x:Int}:(x.tmod 10).natAbs=x.natAbs%10:=by rw[Int.natAbs_tmod];rfl
theorem AF1{x:Int}(h:-9223372036854775808<=x/\x<=9223372036854775807):-9223372036854775808<=x.tdiv 10/\x.tdiv 10<=9223372036854775807:=by have:=YP (x:=x);omega
theorem AP6{x:Int}:-9<=x.tmod 10/\x.tmod 10<=9:=by have:=Vp (x:=x);omega
theorem CB[HA K]{n:Int}(h:-9223372036854775808<=n/\n<=9223372036854775807):K 138 [.n n] [.s (AQ n)]:=by
 refine qb I138 ?_;by_cases h0:n=0;subst h0;exact wZ;have B:=N1 (k:=19) (n:=n.natAbs) (by omega);refine wW ?_;refine Bd (λ(x:Int×List Nat)=>Cd x.1.natAbs++x.2=Cd n.natAbs/\(-9223372036854775808<=x.1/\x.1<=9223372036854775807)) (λx=>[.n x.1,.u,.s x.2,.b (decide (n<0)),.u,.u,.u,.u,.u]) (λx=>x.1.natAbs) (n,[]) ⟨by simp,h⟩ rfl ?_;rintro⟨x,s⟩ ⟨H,f⟩;simp only at H f|-;have l:=congrArg List.length H;rw[AW]at l;have g:=AF1 f;have C:=AP6 (x:=x);have c:=YP (x:=x);have o:=Vp (x:=x);by_cases j:x=0;subst j;have H:s=Cd n.natAbs:=by simpa[Cd]using H
 by_cases i:n<0;refine wW ?_;simp only[AQ,if_neg h0,if_pos i,H,List.cons_append,List.nil_append];refine wW ?_;simp only[AQ,if_neg h0,if_neg i,H];have a:x.natAbs≠0:=by omega
 rw[Hf a]at H;have q:48+x.natAbs%10<256:=by omega
 by_cases F:x.tmod 10<0;have e:(48+(0-x.tmod 10)).toNat=48+x.natAbs%10:=by omega
 simp(disch:=try exact dV) only[AD,e];exact⟨(x.tdiv 10,(48+x.natAbs%10)::s),by show(x.tdiv 10).natAbs<x.natAbs;omega,⟨by rw[c,<-H];simp,g⟩,rfl⟩;have e:(48+x.tmod 10).toNat=48+x.natAbs%10:=by omega
 simp(disch:=try exact dV) only[AD,e];exact⟨(x.tdiv 10,(48+x.natAbs%10)::s),by show(x.tdiv 10).natAbs<x.natAbs;omega,⟨by rw[c,<-H];simp,g⟩,rfl⟩
def Gl(b:List Nat)(i:Int)(c:Nat):List Nat:=b.set i.toNat c
theorem QP{b:List Nat}{i:Int}{c:Nat}:(Gl b i c).length=b.length:=by simp[Gl]
theorem AEQ{b:List Nat}{i j:Nat}{c:Nat}(hi:i<b.length):AH (Gl b i c) j=if i=j then c else AH b j:=by simp only[AH,Gl,BM,Ap,List.getElem?_set];by_cases q:i=j;subst q;simp[hi];simp[q]
theorem extB{a b:List Nat}(l:a.length=b.length)(h:∀j:Nat,j<a.length->AH a j=AH b j):a=b:=by refine List.ext_getElem l λi H c=>?_;have:=h i H;simpa[AH,H,c]using this
theorem AI8{b:List Nat}{i:Int}{c:Nat}(h:0<=i/\i<b.length):Ax [i.toNat] (LB b) (.y c)=some (LB (Gl b i c)):=NX D.y (by omega)
theorem AJ7{is:List Nat}{d:D}{c:Nat}:Jh (some is) d (.y c)=Ax is d (.y c):=rfl
def Mw(a o:List Nat)(i:Nat):Prop:=o.length=a.length/\∀j:Nat,j<a.length->AH o j=if j<i\/a.length<=j+i then AH a (a.length-1-j:Nat)else AH a j
theorem AR2{a:List Nat}:Mw a a 0:=⟨rfl,λj h=>by rw[if_neg (by omega)]⟩
theorem AL9{a o:List Nat}{i:Nat}(h:Mw a o i)(f:2*i+1<a.length):Mw a (Gl (Gl o i (AH o ((a.length-1-i:Nat):Int))) ((a.length-1-i:Nat):Int) (AH o i)) (i+1):=by obtain⟨c,H⟩:=h;refine⟨by rw[QP,QP,c],λj e=>?_⟩;rw[AEQ (by rw[QP];omega),AEQ (by omega)];have b:=H i (by omega);have a2:=H (a.length-1-i) (by omega);rw[if_neg (by omega)]at b a2;by_cases j1:a.length-1-i=j;rw[if_pos j1,if_pos (by omega),b];congr 2;omega;rw[if_neg j1];by_cases j2:i=j;rw[if_pos j2,if_pos (by omega),a2];congr 2;omega;rw[if_neg j2,H j e];by_cases j3:j<i\/a.length<=j+i;rw[if_pos j3,if_pos (by omega)];rw[if_neg j3,if_neg (by omega)]
theorem AIN{a o:List Nat}{i:Nat}(h:Mw a o i)(f:¬2*i+1<a.length):o=a.reverse:=by
 obtain⟨b,c⟩:=h;refine extB (by simp[b]) λj H=>?_;rw[b]at H;rw[c j H];have e:AH a.reverse j=AH a (a.length-1-j:Nat):=by simp only[AH,BM,Ap,List.getElem?_reverse H]
 rw[e];split;rfl;congr 2;omega
theorem AFO:∀{n:Nat},∀c∈Cd n,c<256:=by
 intro n;induction n using Nat.strongRecOn with
 |_ n i=>
  intro c h
  by_cases h0:n=0
  .subst h0;simp[Cd]at h
  .rw[Hf h0]at h
   rcases A9.1 h with q|q
   .exact i (n/10) (by omega) c q
   .obtain rfl:=List.mem_singleton.1 q;omega
theorem ABO{n:Int}:∀c∈AQ n,c<256:=by intro c h;unfold AQ at h;split at h;obtain rfl:=List.mem_singleton.1 h;omega;split at h;rcases A6.1 h with rfl|q;omega;exact AFO c q;exact AFO c h
theorem Aw{n:Int}(h:-9223372036854775808<=n/\n<=9223372036854775807):(AQ n).length<=20:=by have H:=N1 (k:=19) (n:=n.natAbs) (by omega);unfold AQ;split;simp;split;simp only[AP];omega;omega
theorem Tl{n:Int}:0<(AQ n).length:=by unfold AQ;split;simp;rename_i h0;split;simp;rw[Hf (by omega)];simp
theorem C8[HA K]{n:Int}(h:-9223372036854775808<=n/\n<=9223372036854775807):K 143 [.n n] [.s (AQ n)]:=by
 refine qb I143 ?_;by_cases h0:n=0;subst h0;exact wZ;have R:=N1 (k:=19) (n:=n.natAbs) (by omega);have M:=Aw h;have N:=Tl (n:=n);refine wW ?_;rw[show D.l []=LB []from rfl];refine Bd (λ(x:Int×List Nat)=>Cd x.1.natAbs++x.2.reverse=Cd n.natAbs/\(-9223372036854775808<=x.1/\x.1<=9223372036854775807)) (λx=>[.n n,.u,LB x.2,.n x.1,.u,.u,.u,.u,.u,.u,.u,.u]) (λx=>x.1.natAbs) (n,[]) ⟨by simp,h⟩ rfl ?_;rintro⟨x,s⟩ ⟨H,F⟩;simp only at H F|-;have q:=congrArg List.length H;rw[AW,List.length_reverse]at q;have I:=AF1 F;have T:=AP6 (x:=x);have C:=YP (x:=x);have P:=Vp (x:=x);by_cases O:x=0;subst O;have H:s.reverse=Cd n.natAbs:=by simpa[Cd]using H
 by_cases J:n<0;have f:(s++[45]).reverse=AQ n:=by simp only[AQ,if_neg h0,if_pos J,List.reverse_append,H];rfl
 have a:=congrArg List.length f;rw[List.length_reverse]at a;refine wW ?_;show wpS K (.loop _) _ [.u,.u,LB (s++[45]),.u,.u,.n 0,.n (((s++[45]).length:Int)-1),.u,.u,.u,.u,.u];refine Bd (λ(x:Nat×List Nat)=>2*x.1<=(s++[45]).length+1/\Mw (s++[45]) x.2 x.1) (λx=>[.u,.u,LB x.2,.u,.u,.n x.1,.n (((s++[45]).length:Int)-1-x.1),.u,.u,.u,.u,.u]) (λx=>(s++[45]).length-x.1) (0,s++[45]) ⟨by simp,AR2⟩ (by simp) ?_;rintro⟨i,o⟩ ⟨G,g⟩;simp only at G g;have L:=g.1;have j:(Gl o i (AH o (((s++[45]).length:Int)-1-i))).length=o.length:=QP;by_cases c:2*i+1<(s++[45]).length;simp(disch:=try exact dV) only[AD,AI8,AJ7];have e:(((s++[45]).length-1-i:Nat):Int)=((s++[45]).length:Int)-1-i:=by omega
 rw[<-e];refine⟨(i+1,Gl (Gl o i (AH o (((s++[45]).length-1-i:Nat):Int))) (((s++[45]).length-1-i:Nat):Int) (AH o i)),by show(s++[45]).length-(i+1)<(s++[45]).length-i;omega,⟨by show 2*(i+1)<=(s++[45]).length+1;omega,AL9 g c⟩,?_⟩;have:(((s++[45]).length-1-i:Nat):Int)-1=((s++[45]).length:Int)-1-((i+1:Nat):Int):=by omega
 rw[this]<;>rfl;have:=AIN g c;rw[f]at this;subst this;simp(disch:=try exact dV) only[AD,NU (ABO (n:=n))];have f:s.reverse=AQ n:=by simp only[AQ,if_neg h0,if_neg J,H]
 have a:=congrArg List.length f;rw[List.length_reverse]at a;refine wW ?_;show wpS K (.loop _) _ [.u,.u,LB s,.u,.u,.n 0,.n (((s).length:Int)-1),.u,.u,.u,.u,.u];refine Bd (λ(x:Nat×List Nat)=>2*x.1<=(s).length+1/\Mw (s) x.2 x.1) (λx=>[.u,.u,LB x.2,.u,.u,.n x.1,.n (((s).length:Int)-1-x.1),.u,.u,.u,.u,.u]) (λx=>(s).length-x.1) (0,s) ⟨by simp,AR2⟩ (by simp) ?_;rintro⟨i,o⟩ ⟨G,g⟩;simp only at G g;have L:=g.1;have j:(Gl o i (AH o (((s).length:Int)-1-i))).length=o.length:=QP;by_cases c:2*i+1<(s).length;simp(disch:=try exact dV) only[AD,AI8,AJ7];have e:(((s).length-1-i:Nat):Int)=((s).length:Int)-1-i:=by omega
 rw[<-e];refine⟨(i+1,Gl (Gl o i (AH o (((s).length-1-i:Nat):Int))) (((s).length-1-i:Nat):Int) (AH o i)),by show(s).length-(i+1)<(s).length-i;omega,⟨by show 2*(i+1)<=(s).length+1;omega,AL9 g c⟩,?_⟩;have:(((s).length-1-i:Nat):Int)-1=((s).length:Int)-1-((i+1:Nat):Int):=by omega
 rw[this]<;>rfl;have:=AIN g c;rw[f]at this;subst this;simp(disch:=try exact dV) only[AD,NU (ABO (n:=n))];have B:x.natAbs≠0:=by omega
 rw[Hf B]at H;have Q:48+x.natAbs%10<256:=by omega
 by_cases U:x.tmod 10<0;have b:(48+(0-x.tmod 10)).toNat=48+x.natAbs%10:=by omega
 simp(disch:=try exact dV) only[AD,b];exact⟨(x.tdiv 10,s++[48+x.natAbs%10]),by show(x.tdiv 10).natAbs<x.natAbs;omega,⟨by rw[C,<-H];simp,I⟩,rfl⟩;have b:(48+x.tmod 10).toNat=48+x.natAbs%10:=by omega
 simp(disch:=try exact dV) only[AD,b];exact⟨(x.tdiv 10,s++[48+x.natAbs%10]),by show(x.tdiv 10).natAbs<x.natAbs;omega,⟨by rw[C,<-H];simp,I⟩,rfl⟩
end Go.Cat
namespace Go.Cat
variable{K:Nat->List D->List D->Prop}
def AA(w:List Nat)(c:Nat):Nat:=w.count c
theorem Mf{a c:Nat}{w:List Nat}:AA (a::w) c=AA w c+(if a=c then 1 else 0):=by simp only[AA,List.count_cons];congr 1;by_cases h:a=c<;>simp[h]
theorem Od{w:List Nat}{c:Nat}:AA w c<=w.length:=List.count_le_length
theorem Uz[HA K]{w:List Nat}{c:Nat}(h:w.length<=1000000000):K 66 [.s w,.y c] [.n (AA w c)]:=by refine qw I66 ?_;refine Ah (λi (n:Int)=>0<=n/\n<=i/\n+AA (w.drop i) c=AA w c) (λi n=>[.s w,.y c,.u,.n n,.n i,.u,.u]) w.length 0 ⟨by omega,by omega,by simp⟩ rfl (λi n hi P=>?_) (λn P=>?_);obtain⟨b,e,H⟩:=P;rw[EN hi,Mf]at H;by_cases a:AH w i=c;rw[if_pos a]at H;refine wW ?_;exact⟨_,⟨by omega,by omega,by omega⟩,rfl⟩;rw[if_neg a]at H;refine wW ?_;exact⟨_,⟨by omega,by omega,by omega⟩,rfl⟩;obtain⟨b,e,H⟩:=P;refine wW ?_;rw[List.drop_length]at H;simp only[AA,List.count_nil]at H;exact Dn (by simp only[AA];omega)
def steps(w:List Nat):Bool:=decide (AA w 117+AA w 100=w.length)
def Bm:List Nat->Int->Option Int
 |[],h=>some h
 |c::w,h=>if c=117 then Bm w (h+1)else if c=100 then(if h-1<0 then none else Bm w (h-1))else none
def FN:List Nat->Int->List Int
 |[],_=>[]
 |c::w,h=>if c=117 then(h+1)::FN w (h+1)else(h-1)::FN w (h-1)
def AK(w:List Nat):Bool:=decide (Bm w 0=some 0)&&decide (w.length<=16)
def Mb(w:List Nat):List Int:=match Bm w 0 with
 |some _=>0::FN w 0
 |none=>[]
def Lk(w:List Nat):Bool:=decide (Bm w 0=some 0)
theorem ASV[HA K]{w:List Nat}(h:w.length<=1000000000):K 82 [.s w] [LI (Mb w),.b (Lk w)]:=by refine qw I82 ?_;refine Ah (λi (x:Int×List Int)=>0<=x.1/\x.1<=i/\x.2.length=i+1/\Bm w 0=Bm (w.drop i) x.1/\(0::FN w 0:List Int)=x.2++FN (w.drop i) x.1) (λi x=>[.s w,.u,.u,LI x.2,.n x.1,.n i,.u,.u,.u,.u,.u]) w.length (0,[0]) ⟨by simp,by simp,by simp,by simp,by simp⟩ rfl (λi x hi P=>?_) (λx P=>?_);obtain⟨c,l⟩:=x;obtain⟨e,f,g,H,a⟩:=P;simp only at e f g H a;rw[EN hi]at H a;simp only[Bm,FN]at H a;by_cases k:AH w i=117;rw[if_pos k]at H a;refine wW ?_;exact⟨(c+1,l++[c+1]),⟨by simp;omega,by simp;omega,by simp;omega,H,by simp[a]⟩,rfl⟩;rw[if_neg k]at H a;by_cases hd:AH w i=100;rw[if_pos hd]at H;by_cases j:c-1<0;rw[if_pos j]at H;refine wW ?_;simp only[Mb,Lk,H];rfl;rw[if_neg j]at H;refine wW ?_;exact⟨(c-1,l++[c-1]),⟨by simp;omega,by simp;omega,by simp;omega,H,by simp[a]⟩,rfl⟩;rw[if_neg hd]at H;refine wW ?_;simp only[Mb,Lk,H];rfl;obtain⟨c,l⟩:=x;obtain⟨e,f,g,H,a⟩:=P;simp only at e f g H a;rw[List.drop_length]at H a;simp only[Bm,FN,List.append_nil]at H a;refine wW ?_;simp only[Mb,Lk,H,a,AL]
theorem Bz[HA K]{w:List Nat}(h:w.length<=1000000000):K 67 [.s w] [.b (AK w)]:=by
 refine qb I67 ?_;by_cases l:w.length<=16
 .refine wW ?_;repeat refine cW (ASV h) ?_
  simp[AK,Lk,l]
 refine wW ?_;simp[AK,l]
theorem Bu[HA K]{w:List Nat}(h:w.length<=1000000000):K 64 [.s w] [.b (AK w)]:=by refine qw I64 ?_;refine Ah (λi (x:Int)=>0<=x/\x<=i/\Bm w 0=Bm (w.drop i) x) (λi x=>[.s w,.u,.n x,.n i,.u,.u,.u,.u,.u]) w.length 0 ⟨by simp,by simp,by simp⟩ rfl (λi a hi P=>?_) (λa P=>?_);obtain⟨f,g,H⟩:=P;rw[EN hi]at H;simp only[Bm]at H;by_cases e:AH w i=117;rw[if_pos e]at H;refine wW ?_;exact⟨a+1,⟨by omega,by omega,H⟩,rfl⟩;rw[if_neg e]at H;by_cases hd:AH w i=100;rw[if_pos hd]at H;by_cases c:a-1<0;rw[if_pos c]at H;refine wW ?_;simp[AK,H];rw[if_neg c]at H;refine wW ?_;exact⟨a-1,⟨by omega,by omega,H⟩,rfl⟩;rw[if_neg hd]at H;refine wW ?_;simp[AK,H];obtain⟨f,g,H⟩:=P;rw[List.drop_length]at H;simp only[Bm]at H;by_cases h0:a=0;refine wW ?_;simp only[AK,H,h0];simp;omega;refine wW ?_;simp[AK,H,h0]
end Go.Cat
namespace Go.Cat
variable{K:Nat->List D->List D->Prop}
set_option maxRecDepth 100000
def HJ(o:Option (List D))(v:Int):Bool:=match o with
 |some [.i .i64 n]=>decide (n=v)
 |_=>false
theorem IK{o:Option (List D)}{v:Int}(h:HJ o v=true):o=some [.n v]:=by
 unfold HJ at h;split at h;simp at h;rw[h]
 cases h
end Go.Cat
namespace Go.Cat
variable{K:Nat->List D->List D->Prop}
set_option maxRecDepth 100000
def FU(fuel:Nat)(w:List Nat)(up down:Nat):List (List Nat):=match fuel with
 |0=>[]
 |f+1=>if down=0 then [w]else(if up > 0 then FU f (w++[117]) (up-1) down else [])++(if down > up then FU f (w++[100]) up (down-1)else [])
def AI(n:Nat):List (List Nat):=FU (2*n+1) [] n n
def F9(o:Option (List D))(l:List (List Nat)):Bool:=match o with
 |some [.l xs]=>go xs l
 |_=>false
where
 go:List D->List (List Nat)->Bool
  |[],[]=>true
  |.s x::xs,y::l=>decide (x=y)&&go xs l
  |_,_=>false
theorem APC:∀{xs:List D}{l:List (List Nat)},F9.go xs l=true->xs=l.map D.s
 |[],[],_=>rfl
 |.s x::xs,y::l,h=>by simp only[F9.go,AV,Ac]at h;rw[APC h.2,h.1]<;>rfl
 |[],_::_,h=>by simp[F9.go]at h
 |.s _::_,[],h=>by simp[F9.go]at h
 |.u::_,_,h=>by simp[F9.go]at h
 |.i _ _::_,_,h=>by simp[F9.go]at h
 |.b _::_,_,h=>by simp[F9.go]at h
 |.l _::_,_,h=>by simp[F9.go]at h
 |.g _::_,_,h=>by simp[F9.go]at h
 |.z::_,_,h=>by simp[F9.go]at h
 |.p _::_,_,h=>by simp[F9.go]at h
 |.f _ _::_,_,h=>by simp[F9.go]at h
theorem Ws{o:Option (List D)}{l:List (List Nat)}(h:F9 o l=true):o=some [LS l]:=by
 unfold F9 at h;split at h;rw[APC h]<;>rfl
 cases h
abbrev AFT:List (Nat×IF):=[(234,I234.v),(292,I292.v),(22,MZ.v)]
abbrev ALP:List (Nat×IF):=[(279,I279.v),(314,U5.v),(326,Vi.v),(23,LR.v)]
theorem prs0:BR 7 (λn=>F9 (Ec (E8 AFT) 60 20 234 [.n n]) (AI n))=true:=by kernel_rfl
theorem pri0:BR 7 (λn=>F9 (Ec (E8 ALP) 60 20 279 [.n n]) (AI n))=true:=by kernel_rfl
theorem Sy[HA K]{n:Nat}(h:n<7):K 234 [.n n] [LS (AI n)]:=run AFT 60 20 234 (Ws (BY prs0 n h))
theorem pl_i[HA K]{n:Nat}(h:n<7):K 279 [.n n] [LS (AI n)]:=run ALP 60 20 279 (Ws (BY pri0 n h))
abbrev ADM:List (Nat×IF):=[(314,U5.v),(326,Vi.v)]
theorem ap0:BR 7 (λn=>F9 (Ec (E8 ADM) 60 20 314 [.n n]) (AI n))=true:=by kernel_rfl
theorem ANV[HA K]{n:Nat}(h:n<7):K 314 [.n n] [LS (AI n)]:=run ADM 60 20 314 (Ws (BY ap0 n h))
theorem Yl:BR 7 (λm=>((AI m).all λw=>AK w&&decide (w.length=2*m))&&decide ((AI m).length<=132))=true:=by kernel_rfl
theorem apd{n:Nat}(h:n<7){w:List Nat}(H:w∈AI n):AK w=true/\w.length=2*n:=by have:=BY Yl n h;simp only[AV]at this;have:=Ao.1 this.1 w H;simpa using this
theorem apl{n:Nat}(h:n<7):(AI n).length<=132:=by have:=BY Yl n h;simp only[AV,Ac]at this;exact this.2
end Go.Cat
namespace Go.Cat
variable{K:Nat->List D->List D->Prop}
def DV(c:Nat):Bool:=decide (48<=c)&&decide (c<=57)
def vL(s:List Nat):Nat:=s.foldl (λa c=>if DV c=true then a*10+(c-48)else a) 0
def kL(s:List Nat):Nat:=s.countP DV
theorem OT{s:List Nat}{c:Nat}:vL (s++[c])=if DV c=true then vL s*10+(c-48)else vL s:=by simp[vL,List.foldl_append]
theorem Va{s:List Nat}{c:Nat}:kL (s++[c])=kL s+if DV c=true then 1 else 0:=by simp only[kL,List.countP_append,List.countP_cons,List.countP_nil];omega
theorem AYD{P:List Nat->Prop}(h0:P [])(h:∀a c,P a->P (a++[c])):∀s,P s:=by
 intro s;rw[<-List.reverse_reverse s];induction s.reverse with
 |nil=>exact h0
 |cons c t i=>rw[List.reverse_cons];exact h _ _ i
theorem KV{c:Nat}:DV c=true↔48<=c/\c<=57:=by simp[DV]
theorem NY:∀s,vL s<10^kL s:=by refine AYD (by simp[vL,kL]) λa c h=>?_;rw[OT,Va];split;rename_i H;have:=KV.1 H;rw[Nat.pow_succ];omega;simpa using h
theorem ALN{s:List Nat}:kL s<=s.length:=List.countP_le_length
theorem Sr:∀{n:Nat},∀c∈Cd n,DV c=true:=by
 intro n;induction n using Nat.strongRecOn with
 |_ n i=>
  intro c h
  by_cases h0:n=0
  .subst h0;simp[Cd]at h
  .rw[Hf h0]at h
   rcases A9.1 h with q|q
   .exact i (n/10) (by omega) c q
   .obtain rfl:=List.mem_singleton.1 q
    exact KV.2 ⟨by omega,by omega⟩
theorem ALH:∀{n:Nat},vL (Cd n)=n:=by
 intro n;induction n using Nat.strongRecOn with
 |_ n i=>
  by_cases h0:n=0
  .subst h0;simp[Cd,vL]
  .rw[Hf h0,OT,if_pos (KV.2 ⟨by omega,by omega⟩),i (n/10) (by omega)]
   omega
theorem AQ5{n:Nat}(h:n≠0):0<(Cd n).length:=by rw[Hf h];simp
def pV(s:List Nat):Int:=if AH s 0=45/\0<s.length then -(vL s:Int)else vL s
def C7(s:List Nat):Bool:=decide (-999999999<=pV s/\pV s<=999999999)&&decide (AQ (pV s)=s)
def pR(s:List Nat):Int:=if C7 s=true then pV s else 0
theorem Ab5{s:List Nat}:vL (45::s)=vL s:=rfl
theorem AHR{s:List Nat}:kL (45::s)=kL s:=rfl
theorem Ai5{s:List Nat}(h:∀c∈s,DV c=true):kL s=s.length:=List.countP_eq_length.2 h
theorem AUG{c:Nat}{s:List Nat}:AH (c::s) 0=c:=rfl
theorem PT{s:List Nat}:AH s ((0:Nat):Int)=AH s 0:=rfl
theorem Pb{s:List Nat}{i:Nat}(h:i<s.length):AH s i∈s:=by simp[AH,h]
theorem P8{n:Int}:pV (AQ n)=n:=by unfold AQ;split;subst n;rfl;rename_i h0;split;rename_i H;unfold pV;rw[if_pos ⟨rfl,by simp⟩,Ab5,ALH];omega;rename_i H;have l:=AQ5 (n:=n.natAbs) (by omega);have h:=Sr (n:=n.natAbs) _ (Pb (s:=Cd n.natAbs) l);have h:=KV.1 h;rw[PT]at h;unfold pV;rw[if_neg (by omega),ALH];omega
theorem LC{n:Int}(h:-999999999<=n/\n<=999999999):C7 (AQ n)=true:=by simp[C7,P8,h]
theorem St{n:Int}(h:-999999999<=n/\n<=999999999):pR (AQ n)=n:=by simp[pR,LC h,P8]
theorem Rx{s:List Nat}(h:C7 s=true):(0<kL s/\kL s<=9)/\((AH s 0=45/\s.length=kL s+1)\/(AH s 0≠45/\s.length=kL s))/\∀i:Nat,(if AH s 0=45 then 1 else 0)<=i->i<s.length->DV (AH s i)=true:=by
 simp only[C7,AV,Ac]at h;obtain⟨e,he⟩:=h;generalize f:pV s=n at e he;subst s;clear f;unfold AQ;split;exact⟨by decide,by decide,λi b H=>by
  obtain rfl:i=0:=by simp only[AP,A5]at H;omega
  rfl⟩
 rename_i h0;have hd:=Sr (n:=n.natAbs);have l:=AQ5 (n:=n.natAbs) (by omega);have g:=N1 (k:=9) (n:=n.natAbs) (by omega);have c:=Ai5 hd;split;refine⟨by rw[AHR];omega,.inl ⟨rfl,by rw[AHR,c,AP]⟩,λi b H=>?_⟩;rw[if_pos AUG]at b;obtain⟨k,rfl⟩:∃k,i=k+1:=⟨i-1,by omega⟩;have:AH (45::Cd n.natAbs) ((k+1:Nat):Int)=AH (Cd n.natAbs) k:=by simp[AH]
 rw[this];exact hd _ (Pb (by simpa using H));have a:=KV.1 (hd _ (Pb (i:=0) l));rw[PT]at a;exact⟨by omega,.inr ⟨by omega,c.symm⟩,λi _ H=>hd _ (Pb H)⟩
theorem FE{s:List Nat}{i:Nat}(h:i<s.length):s.take (i+1)=s.take i++[AH s i]:=by rw[CQ h];simp[AH,h]
theorem APO{s:List Nat}(h:¬(AH s 0=45/\0<s.length)):pV s=vL s:=if_neg h
theorem AGH{s:List Nat}(h:AH s 0=45/\0<s.length):pV s=-(vL s:Int):=if_pos h
theorem Xm{s:List Nat}:C7 s=(decide (kL s<=9)&&decide (AQ (pV s)=s)):=by
 by_cases h:kL s<=9;have a:=NY s;have H:10^kL s<=10^9:=Nat.pow_le_pow_right (by omega) h;have b:-999999999<=pV s/\pV s<=999999999:=by unfold pV;split<;>omega
 simp[C7,b,h];have:C7 s=false:=by cases c:C7 s;rfl;have:=(Rx c).1;omega
 simp[this,h]
theorem Qo[HA K]{s:List Nat}(O:s.length<=1000000000):K 590 [.s s] [.n (pR s),.b (C7 s)]:=by
 refine qw I590 ?_;refine AN (λi=>i<=s.length/\i<=11) (λi=>[.s s,.u,.u,.n (vL (s.take i)),.n (kL (s.take i)),.n i,.u,.u,.u,.u]) (min s.length 11) (by simp) (by simp[vL,kL]) (λi hi P=>?_) (λP=>?_);have N:=NY (s.take i);have k:=ALN (s:=s.take i);have M:10^kL (s.take i)<=10^11:=Nat.pow_le_pow_right (by omega) (by simp only[List.length_take]at k;omega);have g:i<s.length/\i<11:=by omega
 have F:=FE g.1;have J:kL (s.take i)<=i:=by simp only[List.length_take]at k;omega
 have j:IntKind.i64.wrap ((kL (s.take i):Int)+1)=(kL (s.take i):Int)+1:=wrap_i64 ⟨by omega,by omega⟩;rw[F,OT,Va];by_cases o:48<=AH s i;by_cases x:AH s i<=57;have hd:DV (AH s i)=true:=KV.2 ⟨o,x⟩;simp(disch:=omega) only[AD,hd,j];refine⟨⟨by omega,by omega⟩,?_⟩;have B:((vL (s.take i)*10+(AH s i-48):Nat):Int)=(vL (s.take i):Int)*10+((AH s i:Int)-48):=by omega
 rw[B]<;>rfl;have hd:DV (AH s i)=false:=by simp[DV,x]
 simp(disch:=omega) only[AD,hd];exact⟨⟨by omega,by omega⟩,rfl⟩;have hd:DV (AH s i)=false:=by simp[DV,o]
 simp(disch:=omega) only[AD,hd];exact⟨⟨by omega,by omega⟩,rfl⟩;obtain⟨m,C⟩:∃m,m=min s.length 11:=⟨_,rfl⟩;rw[<-C];rcases BQ s.length 11 with c|c;obtain rfl:m=s.length:=by omega
 rw[List.take_length];have N:=NY s;have k:=ALN (s:=s);have M:10^kL s<=10^11:=Nat.pow_le_pow_right (by omega) (by omega);have e:=Xm (s:=s);have G:-9223372036854775808<=pV s/\pV s<=9223372036854775807:=by unfold pV;split<;>omega
 have l:=CB (K:=K) (n:=pV s) G;by_cases h:AH s 0=45/\0<s.length;have V:(0:Int)-(vL s:Int)=pV s:=by rw[AGH h];omega
 by_cases H:kL s<=9;simp(disch:=omega) only[AD,h.1,V];refine cB l ?_;by_cases f:AQ (pV s)=s;simp(disch:=omega) only[AD,f];simp[pR,e,H,f];simp(disch:=omega) only[AD,beq_eq_false_iff_ne.2 f];simp[pR,e,H,f];simp(disch:=omega) only[AD,h.1,V];simp[pR,e,H];have V:(vL s:Int)=pV s:=by rw[APO h]
 by_cases H:kL s<=9;by_cases h0:s.length=0;simp(disch:=omega) only[AD,V];refine cB l ?_;by_cases f:AQ (pV s)=s;simp(disch:=omega) only[AD,f];simp[pR,e,H,f];simp(disch:=omega) only[AD,beq_eq_false_iff_ne.2 f];simp[pR,e,H,f];have a:AH s 0≠45:=λq=>h ⟨q,by omega⟩;simp(disch:=omega) only[AD,a,V];refine cB l ?_;by_cases f:AQ (pV s)=s;simp(disch:=omega) only[AD,f];simp[pR,e,H,f];simp(disch:=omega) only[AD,beq_eq_false_iff_ne.2 f];simp[pR,e,H,f];by_cases h0:s.length=0;omega;have a:AH s 0≠45:=λq=>h ⟨q,by omega⟩;simp(disch:=omega) only[AD,a,V];simp[pR,e,H];have Q:m=11:=by omega
 have e:C7 s=false:=by cases I:C7 s;rfl;have:=Rx I;omega
 by_cases L:m<s.length;by_cases h:AH s 0=45;by_cases H:kL (s.take m)<=9;simp(disch:=omega) only[AD,h];simp[pR,e];simp(disch:=omega) only[AD,h];simp[pR,e];by_cases H:kL (s.take m)<=9;simp(disch:=omega) only[AD,h];simp[pR,e];simp(disch:=omega) only[AD,h];simp[pR,e];by_cases h:AH s 0=45;by_cases H:kL (s.take m)<=9;simp(disch:=omega) only[AD,h];simp[pR,e];simp(disch:=omega) only[AD,h];simp[pR,e];by_cases H:kL (s.take m)<=9;simp(disch:=omega) only[AD,h];simp[pR,e];simp(disch:=omega) only[AD,h];simp[pR,e]
theorem Sz{s:List Nat}{a:Nat}:∀{i:Nat},a<=i->i<=s.length->(∀j:Nat,a<=j->j<i->DV (AH s j)=true)->kL (s.take i)=kL (s.take a)+(i-a):=by
 intro i;induction i with
 |zero=>
  intro H _ _
  obtain rfl:a=0:=by omega
  rfl
 |succ i I=>
  intro H c h
  rcases BQ i a with q|q
  .obtain rfl:a=i+1:=by omega
   omega
  .rw[FE (by omega),Va,I q (by omega) (λj b e=>h j b (by omega)),if_pos (h i q (by omega))];omega
theorem ANO{s:List Nat}{a i:Nat}(e:a=if AH s 0=45 then 1 else 0)(b:a<=i)(H:i<s.length)(h:DV (AH s i)=false):C7 s=false:=by cases c:C7 s;rfl;have:=(Rx c).2.2 i (by omega) H;rw[h]at this;cases this
theorem AeH{s:List Nat}{a:Nat}(H:a=if AH s 0=45 then 1 else 0)(h:¬(a+1<=s.length/\s.length<=a+9)):C7 s=false:=by cases hc:C7 s;rfl;have b:=Rx hc;split at H<;>omega
theorem AX6[HA K]{s:List Nat}{a:Nat}(T:s.length<=1000000000)(l:a=if AH s 0=45 then 1 else 0)(R:a+1<=s.length/\s.length<=a+9):K 562 [.s s] [.n (pR s),.b (C7 s)]:=by
 have h0:0<s.length:=by omega
 have U:kL (s.take a)=0:=by split at l;subst a;rw[FE h0,PT];rename_i h;rw[h]<;>rfl;subst a;rfl
 have M:=Br (K:=K) (x:=(s.length:Int)-a) (a:=1) (b:=9);have Q:AR 1 9 ((s.length:Int)-a)=true:=A7.2 (by omega);rw[Q]at M;have N:∀i:Nat,i<=s.length->vL (s.take i)<10^kL (s.take i):=λi _=>NY _;refine qb AAR ?_;by_cases h:AH s 0=45;obtain rfl:a=1:=by rw[l,if_pos h]
 simp(disch:=omega) only[AD,h];refine cW M ?_;refine AN (λi=>∀j:Nat,1<=j->j<(i+1)->DV (AH s j)=true) (λi=>[.s s,.u,.u,.n 1,.n (vL (s.take (i+1))),.n ((i:Int)+1),.u,.u,.u,.u,.u,.u]) (s.length-1) (by omega) (by simp[vL,FE,h0,h,PT,DV]) (λi hi P=>?_) (λP=>?_);have H:=Sz (s:=s) (a:=1) (i:=(i+1)) (by omega) (by omega) P;have J:=N (i+1) (by omega);have I:10^kL (s.take (i+1))<=10^9:=Nat.pow_le_pow_right (by omega) (by omega);by_cases hd:DV (AH s ((i:Int)+1))=true;have G:=KV.1 hd;have C:=FE (s:=s) (i:=(i+1)) (by omega);refine wW ?_;refine⟨λj c F=>?_,?_⟩;rcases BQ j (i+1)with q|q;exact P j c q;obtain rfl:j=(i+1):=by omega
 exact hd;rw[C,OT,if_pos (by exact hd)];have B:((vL (s.take (i+1))*10+(AH s ((i+1):Nat)-48):Nat):Int)=10*(vL (s.take (i+1)):Int)+((AH s ((i:Int)+1):Int)-48):=by have:AH s (((i+1):Nat):Int)=AH s ((i:Int)+1):=rfl;omega
 rw[B]<;>rfl;have k:=ANO (i:=(i+1)) l (by omega) (by omega) (by simpa using hd);simp only[DV,AV,Ac]at hd;by_cases c:AH s ((i:Int)+1)<48;refine wW ?_;simp[pR,k];refine wW ?_;simp[pR,k];have H:=Sz (s:=s) (a:=1) (i:=s.length) (by omega) (by omega) (λj c F=>P j c (by omega));have o:s.take ((s.length-1)+1)=s:=by rw[Nat.sub_add_cancel h0,List.take_length]
 rw[List.take_length]at H;have J:=NY s;have I:10^kL s<=10^9:=Nat.pow_le_pow_right (by omega) (by omega);have O:=Xm (s:=s);have g:kL s<=9:=by omega
 have e:-9223372036854775808<=pV s/\pV s<=9223372036854775807:=by unfold pV;split<;>omega
 have L:=C8 (K:=K) (n:=pV s) e;have V:(0:Int)-(vL s:Int)=pV s:=by rw[AGH ⟨h,h0⟩];omega
 rw[o];simp(disch:=omega) only[AD,V];refine cB L ?_;by_cases f:AQ (pV s)=s;simp(disch:=omega) only[AD,f];simp[pR,O,g,f];simp(disch:=omega) only[AD,beq_eq_false_iff_ne.2 f];simp[pR,O,g,f];obtain rfl:a=0:=by rw[l,if_neg h]
 simp(disch:=omega) only[AD,h];refine cW M ?_;refine AN (λi=>∀j:Nat,0<=j->j<i->DV (AH s j)=true) (λi=>[.s s,.u,.u,.n 0,.n (vL (s.take i)),.n (i:Int),.u,.u,.u,.u,.u,.u]) s.length (by omega) (by simp[vL,FE,h0,h,PT,DV]) (λi hi P=>?_) (λP=>?_);have H:=Sz (s:=s) (a:=0) (i:=i) (by omega) (by omega) P;have J:=N i (by omega);have I:10^kL (s.take i)<=10^9:=Nat.pow_le_pow_right (by omega) (by omega);by_cases hd:DV (AH s (i:Int))=true;have G:=KV.1 hd;have C:=FE (s:=s) (i:=i) (by omega);refine wW ?_;refine⟨λj c F=>?_,?_⟩;rcases BQ j i with q|q;exact P j c q;obtain rfl:j=i:=by omega
 exact hd;rw[C,OT,if_pos (by exact hd)];have B:((vL (s.take i)*10+(AH s (i:Nat)-48):Nat):Int)=10*(vL (s.take i):Int)+((AH s (i:Int):Int)-48):=by have:AH s ((i:Nat):Int)=AH s (i:Int):=rfl;omega
 rw[B]<;>rfl;have k:=ANO (i:=i) l (by omega) (by omega) (by simpa using hd);simp only[DV,AV,Ac]at hd;by_cases c:AH s (i:Int)<48;refine wW ?_;simp[pR,k];refine wW ?_;simp[pR,k];have H:=Sz (s:=s) (a:=0) (i:=s.length) (by omega) (by omega) (λj c F=>P j c (by omega));have o:s.take (s.length)=s:=by rw[List.take_length]
 rw[List.take_length]at H;have J:=NY s;have I:10^kL s<=10^9:=Nat.pow_le_pow_right (by omega) (by omega);have O:=Xm (s:=s);have g:kL s<=9:=by omega
 have e:-9223372036854775808<=pV s/\pV s<=9223372036854775807:=by unfold pV;split<;>omega
 have L:=C8 (K:=K) (n:=pV s) e;have V:(vL s:Int)=pV s:=by rw[APO (λq=>h q.1)]
 rw[o];simp(disch:=omega) only[AD,V];refine cB L ?_;by_cases f:AQ (pV s)=s;simp(disch:=omega) only[AD,f];simp[pR,O,g,f];simp(disch:=omega) only[AD,beq_eq_false_iff_ne.2 f];simp[pR,O,g,f]
theorem Ng[HA K]{s:List Nat}(l:s.length<=1000000000):K 562 [.s s] [.n (pR s),.b (C7 s)]:=by
 obtain⟨a,H⟩:∃a:Nat,a=if AH s 0=45 then 1 else 0:=⟨_,rfl⟩;by_cases c:a+1<=s.length/\s.length<=a+9;exact AX6 l H c;have O:=AeH H c;have R:pR s=0:=by simp[pR,O]
 have k:=Br (K:=K) (x:=(s.length:Int)-a) (a:=1) (b:=9);have e:AR 1 9 ((s.length:Int)-a)=false:=by cases f:AR 1 9 ((s.length:Int)-a);rfl;have:=A7.1 f;omega
 rw[e]at k;rw[O,R];refine qb AAR ?_;by_cases h0:s.length=0;obtain rfl:s=[]:=List.length_eq_zero_iff.1 h0;obtain rfl:a=0:=by rw[H];rfl
 refine wW ?_;exact cZ k;by_cases h:AH s 0=45;obtain rfl:a=1:=by rw[H,if_pos h]
 simp(disch:=omega) only[AD,h];exact cZ k;obtain rfl:a=0:=by rw[H,if_neg h]
 simp(disch:=omega) only[AD,h];exact cZ k
def C5(b:Nat):List Nat->List Nat->List (List Nat)
 |acc,[]=>[acc]
 |acc,c::t=>if c=b then acc::C5 b [] t else C5 b (acc++[c]) t
def AO(b:Nat)(s:List Nat):List (List Nat):=C5 b [] s
theorem MA{b:Nat}:∀{s acc:List Nat}{p:List Nat},p∈C5 b acc s->p.length<=acc.length+s.length
 |[],acc,p,h=>by obtain rfl:=List.mem_singleton.1 h;simp
 |c::t,acc,p,h=>by unfold C5 at h;split at h;rcases A6.1 h with rfl|q;simp;have:=MA q;simp only[A5,AP]at *;omega;have:=MA h;simp only[AW,AP,A5]at *;omega
theorem Gn{b:Nat}:∀{s acc:List Nat},0<(C5 b acc s).length/\(C5 b acc s).length<=s.length+1
 |[],acc=>by simp[C5]
 |c::t,acc=>by unfold C5;split;have:=Gn (b:=b) (s:=t) (acc:=[]);simp only[AP];omega;have:=Gn (b:=b) (s:=t) (acc:=acc++[c]);simp only[AP];omega
theorem S5{b:Nat}{s acc:List Nat}{i:Nat}(h:i<s.length):C5 b acc (s.drop i)=if AH s i=b then acc::C5 b [] (s.drop (i+1))else C5 b (acc++[AH s i]) (s.drop (i+1)):=by rw[EN h]<;>rfl
def sep(b:Nat):List (List Nat)->List Nat
 |[]=>[]
 |[p]=>p
 |p::q::t=>p++b::sep b (q::t)
theorem Ql{b:Nat}:∀{p acc r:List Nat},b∉p->C5 b acc (p++r)=C5 b (acc++p) r
 |[],acc,r,_=>by simp
 |c::t,acc,r,h=>by simp only[A6,not_or]at h;rw[List.cons_append,C5,if_neg (λq=>h.1 q.symm),Ql h.2];simp
theorem Ru{b:Nat}:∀{ps:List (List Nat)},ps≠[]->(∀p∈ps,b∉p)->AO b (sep b ps)=ps
 |[],h,_=>absurd rfl h
 |[p],_,h=>by have:=Ql (b:=b) (p:=p) (acc:=[]) (r:=[]) (h p (by simp));simpa[AO,sep,C5]using this
 |p::q::t,_,h=>by have a:=Ql (b:=b) (p:=p) (acc:=[]) (r:=b::sep b (q::t)) (h p (by simp));have H:=Ru (b:=b) (ps:=q::t) (by simp) (λx c=>h x (by simp[c]));unfold AO at H;rw[AO,sep,a,C5,if_pos rfl,H];simp
end Go.Cat
