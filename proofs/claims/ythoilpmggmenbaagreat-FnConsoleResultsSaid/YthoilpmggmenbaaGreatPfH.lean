/-
 What the laws' own helpers do.
-/
import Derived.Test.YthoilpmggmenbaaGreatQd0LawConsoleResults
import Derived.Test.YthoilpmggmenbaaGreatQd1LawConsoleResults
import Derived.Test.YthoilpmggmenbaaGreatQd2LawConsoleResults
import Derived.Test.YthoilpmggmenbaaGreatQd3LawConsoleResults
set_option linter.unusedSimpArgs false
set_option linter.unusedVariables false
namespace Go.Cat
variable{K:Nat->List D->List D->Prop}
def CQ:Nat->List Nat
 |0=>[]
 |n+1=>CQ ((n+1)/10)++[48+(n+1)%10]
decreasing_by omega
end Go.Cat
namespace Go.Cat
variable{K:Nat->List D->List D->Prop}
def A4(lo hi x:Int):Bool:=decide (lo<=x)&&decide (x<=hi)
theorem Af{lo hi x:Int}:A4 lo hi x=true↔lo<=x/\x<=hi:=by simp[A4]
theorem I3{lo hi x:Int}:A4 lo hi x=false↔¬(lo<=x/\x<=hi):=by simp[A4]
theorem CN[HA K]{x a b:Int}:K 23 [.n x,.n a,.n b] [.b (A4 a b x)]:=by refine qb Jz ?_;simp(disch:=omega) only[vc];by_cases h:a<=x<;>simp(disch:=omega) only[vc,h,A4]
theorem Cl[HA K]{x a b:Int}:K 22 [.n x,.n a,.n b] [.b (A4 a b x)]:=by refine qb K6 ?_;simp(disch:=omega) only[vc];by_cases h:a<=x<;>simp(disch:=omega) only[vc,h,A4]
end Go.Cat
namespace Go.Cat
variable{K:Nat->List D->List D->Prop}
def AN(n:Int):List Nat:=if n=0 then [48]else if n<0 then 45::CQ n.natAbs else CQ n.natAbs
theorem GW{n:Nat}(h:n≠0):CQ n=CQ (n/10)++[48+n%10]:=by
 cases n with
 |zero=>exact absurd rfl h
 |succ n=>rw[CQ]
theorem Ld:∀{k n:Nat},n<10^k->(CQ n).length<=k
 |0,n,h=>by
  obtain rfl:n=0:=by omega
  simp[CQ]
 |k+1,n,h=>by by_cases h0:n=0;subst h0;simp[CQ];rw[GW h0];have:=Ld (k:=k) (n:=n/10) (by rw[Nat.pow_succ]at h;omega);simp only[AZ,AO,Aa];omega
theorem UR{x:Int}:(x.tdiv 10).natAbs=x.natAbs/10:=by rw[Int.natAbs_tdiv];rfl
theorem T6{x:Int}:(x.tmod 10).natAbs=x.natAbs%10:=by rw[Int.natAbs_tmod];rfl
theorem AGC{x:Int}(h:-9223372036854775808<=x/\x<=9223372036854775807):-9223372036854775808<=x.tdiv 10/\x.tdiv 10<=9223372036854775807:=by have:=UR (x:=x);omega
theorem ZN{x:Int}:-9<=x.tmod 10/\x.tmod 10<=9:=by have:=T6 (x:=x);omega
theorem Bk[HA K]{n:Int}(h:-9223372036854775808<=n/\n<=9223372036854775807):K 138 [.n n] [.s (AN n)]:=by
 refine qb I138 ?_;by_cases h0:n=0;subst h0;exact wZ;have B:=Ld (k:=19) (n:=n.natAbs) (by omega);refine wW ?_;refine Bd (λ(x:Int×List Nat)=>CQ x.1.natAbs++x.2=CQ n.natAbs/\(-9223372036854775808<=x.1/\x.1<=9223372036854775807)) (λx=>[.n x.1,.u,.s x.2,.b (decide (n<0)),.u,.u,.u,.u,.u]) (λx=>x.1.natAbs) (n,[]) ⟨by simp,h⟩ rfl ?_;rintro⟨x,s⟩ ⟨H,f⟩;simp only at H f|-;have l:=congrArg List.length H;rw[AZ]at l;have g:=AGC f;have C:=ZN (x:=x);have c:=UR (x:=x);have o:=T6 (x:=x);by_cases j:x=0;subst j;have H:s=CQ n.natAbs:=by simpa[CQ]using H
 by_cases i:n<0;refine wW ?_;simp only[AN,if_neg h0,if_pos i,H,List.cons_append,List.nil_append];refine wW ?_;simp only[AN,if_neg h0,if_neg i,H];have a:x.natAbs≠0:=by omega
 rw[GW a]at H;have q:48+x.natAbs%10<256:=by omega
 by_cases F:x.tmod 10<0;have e:(48+(0-x.tmod 10)).toNat=48+x.natAbs%10:=by omega
 simp(disch:=try exact dV) only[AD,e];exact⟨(x.tdiv 10,(48+x.natAbs%10)::s),by show(x.tdiv 10).natAbs<x.natAbs;omega,⟨by rw[c,<-H];simp,g⟩,rfl⟩;have e:(48+x.tmod 10).toNat=48+x.natAbs%10:=by omega
 simp(disch:=try exact dV) only[AD,e];exact⟨(x.tdiv 10,(48+x.natAbs%10)::s),by show(x.tdiv 10).natAbs<x.natAbs;omega,⟨by rw[c,<-H];simp,g⟩,rfl⟩
def GC(b:List Nat)(i:Int)(c:Nat):List Nat:=b.set i.toNat c
theorem M4{b:List Nat}{i:Int}{c:Nat}:(GC b i c).length=b.length:=by simp[GC]
theorem AB3{b:List Nat}{i j:Nat}{c:Nat}(hi:i<b.length):AI (GC b i c) j=if i=j then c else AI b j:=by simp only[AI,GC,BM,Ap,List.getElem?_set];by_cases q:i=j;subst q;simp[hi];simp[q]
theorem extB{a b:List Nat}(l:a.length=b.length)(h:∀j:Nat,j<a.length->AI a j=AI b j):a=b:=by refine List.ext_getElem l λi H c=>?_;have:=h i H;simpa[AI,H,c]using this
theorem AF0{b:List Nat}{i:Int}{c:Nat}(h:0<=i/\i<b.length):An [i.toNat] (LB b) (.y c)=some (LB (GC b i c)):=Li D.y (by omega)
theorem ZW{is:List Nat}{d:D}{c:Nat}:IE (some is) d (.y c)=An is d (.y c):=rfl
def MO(a o:List Nat)(i:Nat):Prop:=o.length=a.length/\∀j:Nat,j<a.length->AI o j=if j<i\/a.length<=j+i then AI a (a.length-1-j:Nat)else AI a j
theorem Y1{a:List Nat}:MO a a 0:=⟨rfl,λj h=>by rw[if_neg (by omega)]⟩
theorem XM{a o:List Nat}{i:Nat}(h:MO a o i)(f:2*i+1<a.length):MO a (GC (GC o i (AI o ((a.length-1-i:Nat):Int))) ((a.length-1-i:Nat):Int) (AI o i)) (i+1):=by obtain⟨c,H⟩:=h;refine⟨by rw[M4,M4,c],λj e=>?_⟩;rw[AB3 (by rw[M4];omega),AB3 (by omega)];have b:=H i (by omega);have a2:=H (a.length-1-i) (by omega);rw[if_neg (by omega)]at b a2;by_cases j1:a.length-1-i=j;rw[if_pos j1,if_pos (by omega),b];congr 2;omega;rw[if_neg j1];by_cases j2:i=j;rw[if_pos j2,if_pos (by omega),a2];congr 2;omega;rw[if_neg j2,H j e];by_cases j3:j<i\/a.length<=j+i;rw[if_pos j3,if_pos (by omega)];rw[if_neg j3,if_neg (by omega)]
theorem Xq{a o:List Nat}{i:Nat}(h:MO a o i)(f:¬2*i+1<a.length):o=a.reverse:=by
 obtain⟨b,c⟩:=h;refine extB (by simp[b]) λj H=>?_;rw[b]at H;rw[c j H];have e:AI a.reverse j=AI a (a.length-1-j:Nat):=by simp only[AI,BM,Ap,List.getElem?_reverse H]
 rw[e];split;rfl;congr 2;omega
theorem AL8:∀{n:Nat},∀c∈CQ n,c<256:=by
 intro n;induction n using Nat.strongRecOn with
 |_ n i=>
  intro c h
  by_cases h0:n=0
  .subst h0;simp[CQ]at h
  .rw[GW h0]at h
   rcases Ac.1 h with q|q
   .exact i (n/10) (by omega) c q
   .obtain rfl:=List.mem_singleton.1 q;omega
theorem YR{n:Int}:∀c∈AN n,c<256:=by intro c h;unfold AN at h;split at h;obtain rfl:=List.mem_singleton.1 h;omega;split at h;rcases AY.1 h with rfl|q;omega;exact AL8 c q;exact AL8 c h
theorem Ar{n:Int}(h:-9223372036854775808<=n/\n<=9223372036854775807):(AN n).length<=20:=by have H:=Ld (k:=19) (n:=n.natAbs) (by omega);unfold AN;split;simp;split;simp only[AO];omega;omega
theorem Ph{n:Int}:0<(AN n).length:=by unfold AN;split;simp;rename_i h0;split;simp;rw[GW (by omega)];simp
theorem C4[HA K]{n:Int}(h:-9223372036854775808<=n/\n<=9223372036854775807):K 143 [.n n] [.s (AN n)]:=by
 refine qb I143 ?_;by_cases h0:n=0;subst h0;exact wZ;have R:=Ld (k:=19) (n:=n.natAbs) (by omega);have M:=Ar h;have N:=Ph (n:=n);refine wW ?_;rw[show D.l []=LB []from rfl];refine Bd (λ(x:Int×List Nat)=>CQ x.1.natAbs++x.2.reverse=CQ n.natAbs/\(-9223372036854775808<=x.1/\x.1<=9223372036854775807)) (λx=>[.n n,.u,LB x.2,.n x.1,.u,.u,.u,.u,.u,.u,.u,.u]) (λx=>x.1.natAbs) (n,[]) ⟨by simp,h⟩ rfl ?_;rintro⟨x,s⟩ ⟨H,F⟩;simp only at H F|-;have q:=congrArg List.length H;rw[AZ,List.length_reverse]at q;have I:=AGC F;have T:=ZN (x:=x);have C:=UR (x:=x);have P:=T6 (x:=x);by_cases O:x=0;subst O;have H:s.reverse=CQ n.natAbs:=by simpa[CQ]using H
 by_cases J:n<0;have f:(s++[45]).reverse=AN n:=by simp only[AN,if_neg h0,if_pos J,List.reverse_append,H];rfl
 have a:=congrArg List.length f;rw[List.length_reverse]at a;refine wW ?_;show wpS K (.loop _) _ [.u,.u,LB (s++[45]),.u,.u,.n 0,.n (((s++[45]).length:Int)-1),.u,.u,.u,.u,.u];refine Bd (λ(x:Nat×List Nat)=>2*x.1<=(s++[45]).length+1/\MO (s++[45]) x.2 x.1) (λx=>[.u,.u,LB x.2,.u,.u,.n x.1,.n (((s++[45]).length:Int)-1-x.1),.u,.u,.u,.u,.u]) (λx=>(s++[45]).length-x.1) (0,s++[45]) ⟨by simp,Y1⟩ (by simp) ?_;rintro⟨i,o⟩ ⟨G,g⟩;simp only at G g;have L:=g.1;have j:(GC o i (AI o (((s++[45]).length:Int)-1-i))).length=o.length:=M4;by_cases c:2*i+1<(s++[45]).length;simp(disch:=try exact dV) only[AD,AF0,ZW];have e:(((s++[45]).length-1-i:Nat):Int)=((s++[45]).length:Int)-1-i:=by omega
 rw[<-e];refine⟨(i+1,GC (GC o i (AI o (((s++[45]).length-1-i:Nat):Int))) (((s++[45]).length-1-i:Nat):Int) (AI o i)),by show(s++[45]).length-(i+1)<(s++[45]).length-i;omega,⟨by show 2*(i+1)<=(s++[45]).length+1;omega,XM g c⟩,?_⟩;have:(((s++[45]).length-1-i:Nat):Int)-1=((s++[45]).length:Int)-1-((i+1:Nat):Int):=by omega
 rw[this]<;>rfl;have:=Xq g c;rw[f]at this;subst this;simp(disch:=try exact dV) only[AD,QP (YR (n:=n))];have f:s.reverse=AN n:=by simp only[AN,if_neg h0,if_neg J,H]
 have a:=congrArg List.length f;rw[List.length_reverse]at a;refine wW ?_;show wpS K (.loop _) _ [.u,.u,LB s,.u,.u,.n 0,.n (((s).length:Int)-1),.u,.u,.u,.u,.u];refine Bd (λ(x:Nat×List Nat)=>2*x.1<=(s).length+1/\MO (s) x.2 x.1) (λx=>[.u,.u,LB x.2,.u,.u,.n x.1,.n (((s).length:Int)-1-x.1),.u,.u,.u,.u,.u]) (λx=>(s).length-x.1) (0,s) ⟨by simp,Y1⟩ (by simp) ?_;rintro⟨i,o⟩ ⟨G,g⟩;simp only at G g;have L:=g.1;have j:(GC o i (AI o (((s).length:Int)-1-i))).length=o.length:=M4;by_cases c:2*i+1<(s).length;simp(disch:=try exact dV) only[AD,AF0,ZW];have e:(((s).length-1-i:Nat):Int)=((s).length:Int)-1-i:=by omega
 rw[<-e];refine⟨(i+1,GC (GC o i (AI o (((s).length-1-i:Nat):Int))) (((s).length-1-i:Nat):Int) (AI o i)),by show(s).length-(i+1)<(s).length-i;omega,⟨by show 2*(i+1)<=(s).length+1;omega,XM g c⟩,?_⟩;have:(((s).length-1-i:Nat):Int)-1=((s).length:Int)-1-((i+1:Nat):Int):=by omega
 rw[this]<;>rfl;have:=Xq g c;rw[f]at this;subst this;simp(disch:=try exact dV) only[AD,QP (YR (n:=n))];have B:x.natAbs≠0:=by omega
 rw[GW B]at H;have Q:48+x.natAbs%10<256:=by omega
 by_cases U:x.tmod 10<0;have b:(48+(0-x.tmod 10)).toNat=48+x.natAbs%10:=by omega
 simp(disch:=try exact dV) only[AD,b];exact⟨(x.tdiv 10,s++[48+x.natAbs%10]),by show(x.tdiv 10).natAbs<x.natAbs;omega,⟨by rw[C,<-H];simp,I⟩,rfl⟩;have b:(48+x.tmod 10).toNat=48+x.natAbs%10:=by omega
 simp(disch:=try exact dV) only[AD,b];exact⟨(x.tdiv 10,s++[48+x.natAbs%10]),by show(x.tdiv 10).natAbs<x.natAbs;omega,⟨by rw[C,<-H];simp,I⟩,rfl⟩
end Go.Cat
namespace Go.Cat
variable{K:Nat->List D->List D->Prop}
def AA(w:List Nat)(c:Nat):Nat:=w.count c
theorem MC{a c:Nat}{w:List Nat}:AA (a::w) c=AA w c+(if a=c then 1 else 0):=by simp only[AA,List.count_cons];congr 1;by_cases h:a=c<;>simp[h]
theorem Nt{w:List Nat}{c:Nat}:AA w c<=w.length:=List.count_le_length
theorem TN[HA K]{w:List Nat}{c:Nat}(h:w.length<=1000000000):K 66 [.s w,.y c] [.n (AA w c)]:=by refine qw I66 ?_;refine BE (λi (n:Int)=>0<=n/\n<=i/\n+AA (w.drop i) c=AA w c) (λi n=>[.s w,.y c,.u,.n n,.n i,.u,.u]) w.length 0 ⟨by omega,by omega,by simp⟩ rfl (λi n hi P=>?_) (λn P=>?_);obtain⟨b,e,H⟩:=P;rw[EJ hi,MC]at H;by_cases a:AI w i=c;rw[if_pos a]at H;refine wW ?_;exact⟨_,⟨by omega,by omega,by omega⟩,rfl⟩;rw[if_neg a]at H;refine wW ?_;exact⟨_,⟨by omega,by omega,by omega⟩,rfl⟩;obtain⟨b,e,H⟩:=P;refine wW ?_;rw[List.drop_length]at H;simp only[AA,List.count_nil]at H;exact Dn (by simp only[AA];omega)
def steps(w:List Nat):Bool:=decide (AA w 117+AA w 100=w.length)
def Bb:List Nat->Int->Option Int
 |[],h=>some h
 |c::w,h=>if c=117 then Bb w (h+1)else if c=100 then(if h-1<0 then none else Bb w (h-1))else none
def Em:List Nat->Int->List Int
 |[],_=>[]
 |c::w,h=>if c=117 then(h+1)::Em w (h+1)else(h-1)::Em w (h-1)
def AK(w:List Nat):Bool:=decide (Bb w 0=some 0)&&decide (w.length<=16)
def Ky(w:List Nat):List Int:=match Bb w 0 with
 |some _=>0::Em w 0
 |none=>[]
def J2(w:List Nat):Bool:=decide (Bb w 0=some 0)
theorem ABM[HA K]{w:List Nat}(h:w.length<=1000000000):K 82 [.s w] [LI (Ky w),.b (J2 w)]:=by refine qw I82 ?_;refine BE (λi (x:Int×List Int)=>0<=x.1/\x.1<=i/\x.2.length=i+1/\Bb w 0=Bb (w.drop i) x.1/\(0::Em w 0:List Int)=x.2++Em (w.drop i) x.1) (λi x=>[.s w,.u,.u,LI x.2,.n x.1,.n i,.u,.u,.u,.u,.u]) w.length (0,[0]) ⟨by simp,by simp,by simp,by simp,by simp⟩ rfl (λi x hi P=>?_) (λx P=>?_);obtain⟨c,l⟩:=x;obtain⟨e,f,g,H,a⟩:=P;simp only at e f g H a;rw[EJ hi]at H a;simp only[Bb,Em]at H a;by_cases k:AI w i=117;rw[if_pos k]at H a;refine wW ?_;exact⟨(c+1,l++[c+1]),⟨by simp;omega,by simp;omega,by simp;omega,H,by simp[a]⟩,rfl⟩;rw[if_neg k]at H a;by_cases hd:AI w i=100;rw[if_pos hd]at H;by_cases j:c-1<0;rw[if_pos j]at H;refine wW ?_;simp only[Ky,J2,H];rfl;rw[if_neg j]at H;refine wW ?_;exact⟨(c-1,l++[c-1]),⟨by simp;omega,by simp;omega,by simp;omega,H,by simp[a]⟩,rfl⟩;rw[if_neg hd]at H;refine wW ?_;simp only[Ky,J2,H];rfl;obtain⟨c,l⟩:=x;obtain⟨e,f,g,H,a⟩:=P;simp only at e f g H a;rw[List.drop_length]at H a;simp only[Bb,Em,List.append_nil]at H a;refine wW ?_;simp only[Ky,J2,H,a,AL]
theorem Bf[HA K]{w:List Nat}(h:w.length<=1000000000):K 67 [.s w] [.b (AK w)]:=by
 refine qb I67 ?_;by_cases l:w.length<=16
 .refine wW ?_;repeat refine cW (ABM h) ?_
  simp[AK,J2,l]
 refine wW ?_;simp[AK,l]
theorem By[HA K]{w:List Nat}(h:w.length<=1000000000):K 64 [.s w] [.b (AK w)]:=by refine qw I64 ?_;refine BE (λi (x:Int)=>0<=x/\x<=i/\Bb w 0=Bb (w.drop i) x) (λi x=>[.s w,.u,.n x,.n i,.u,.u,.u,.u,.u]) w.length 0 ⟨by simp,by simp,by simp⟩ rfl (λi a hi P=>?_) (λa P=>?_);obtain⟨f,g,H⟩:=P;rw[EJ hi]at H;simp only[Bb]at H;by_cases e:AI w i=117;rw[if_pos e]at H;refine wW ?_;exact⟨a+1,⟨by omega,by omega,H⟩,rfl⟩;rw[if_neg e]at H;by_cases hd:AI w i=100;rw[if_pos hd]at H;by_cases c:a-1<0;rw[if_pos c]at H;refine wW ?_;simp[AK,H];rw[if_neg c]at H;refine wW ?_;exact⟨a-1,⟨by omega,by omega,H⟩,rfl⟩;rw[if_neg hd]at H;refine wW ?_;simp[AK,H];obtain⟨f,g,H⟩:=P;rw[List.drop_length]at H;simp only[Bb]at H;by_cases h0:a=0;refine wW ?_;simp only[AK,H,h0];simp;omega;refine wW ?_;simp[AK,H,h0]
end Go.Cat
namespace Go.Cat
variable{K:Nat->List D->List D->Prop}
set_option maxRecDepth 100000
def Fv(o:Option (List D))(v:Int):Bool:=match o with
 |some [.i .i64 n]=>decide (n=v)
 |_=>false
theorem Gt{o:Option (List D)}{v:Int}(h:Fv o v=true):o=some [.n v]:=by
 unfold Fv at h;split at h;simp at h;rw[h]
 cases h
end Go.Cat
namespace Go.Cat
variable{K:Nat->List D->List D->Prop}
set_option maxRecDepth 100000
def Eu(fuel:Nat)(w:List Nat)(up down:Nat):List (List Nat):=match fuel with
 |0=>[]
 |f+1=>if down=0 then [w]else(if up > 0 then Eu f (w++[117]) (up-1) down else [])++(if down > up then Eu f (w++[100]) up (down-1)else [])
def AG(n:Nat):List (List Nat):=Eu (2*n+1) [] n n
def FA(o:Option (List D))(l:List (List Nat)):Bool:=match o with
 |some [.l xs]=>go xs l
 |_=>false
where
 go:List D->List (List Nat)->Bool
  |[],[]=>true
  |.s x::xs,y::l=>decide (x=y)&&go xs l
  |_,_=>false
theorem ABT:∀{xs:List D}{l:List (List Nat)},FA.go xs l=true->xs=l.map D.s
 |[],[],_=>rfl
 |.s x::xs,y::l,h=>by simp only[FA.go,AU,Ad]at h;rw[ABT h.2,h.1]<;>rfl
 |[],_::_,h=>by simp[FA.go]at h
 |.s _::_,[],h=>by simp[FA.go]at h
 |.u::_,_,h=>by simp[FA.go]at h
 |.i _ _::_,_,h=>by simp[FA.go]at h
 |.b _::_,_,h=>by simp[FA.go]at h
 |.l _::_,_,h=>by simp[FA.go]at h
 |.g _::_,_,h=>by simp[FA.go]at h
 |.z::_,_,h=>by simp[FA.go]at h
 |.p _::_,_,h=>by simp[FA.go]at h
 |.f _ _::_,_,h=>by simp[FA.go]at h
theorem W0{o:Option (List D)}{l:List (List Nat)}(h:FA o l=true):o=some [LS l]:=by
 unfold FA at h;split at h;rw[ABT h]<;>rfl
 cases h
abbrev AFH:List (Nat×IF):=[(234,I234.v),(292,I292.v),(22,K6.v)]
abbrev AGF:List (Nat×IF):=[(279,I279.v),(314,Tm.v),(326,Ta.v),(23,Jz.v)]
theorem prs0:BH 7 (λn=>FA (EC (Dx AFH) 60 20 234 [.n n]) (AG n))=true:=by kernel_rfl
theorem pri0:BH 7 (λn=>FA (EC (Dx AGF) 60 20 279 [.n n]) (AG n))=true:=by kernel_rfl
theorem OQ[HA K]{n:Nat}(h:n<7):K 234 [.n n] [LS (AG n)]:=run AFH 60 20 234 (W0 (BQ prs0 n h))
theorem pl_i[HA K]{n:Nat}(h:n<7):K 279 [.n n] [LS (AG n)]:=run AGF 60 20 279 (W0 (BQ pri0 n h))
abbrev AHB:List (Nat×IF):=[(314,Tm.v),(326,Ta.v)]
theorem ap0:BH 7 (λn=>FA (EC (Dx AHB) 60 20 314 [.n n]) (AG n))=true:=by kernel_rfl
theorem AKO[HA K]{n:Nat}(h:n<7):K 314 [.n n] [LS (AG n)]:=run AHB 60 20 314 (W0 (BQ ap0 n h))
theorem Rq:BH 7 (λm=>((AG m).all λw=>AK w&&decide (w.length=2*m))&&decide ((AG m).length<=132))=true:=by kernel_rfl
theorem apd{n:Nat}(h:n<7){w:List Nat}(H:w∈AG n):AK w=true/\w.length=2*n:=by have:=BQ Rq n h;simp only[AU]at this;have:=Aj.1 this.1 w H;simpa using this
theorem apl{n:Nat}(h:n<7):(AG n).length<=132:=by have:=BQ Rq n h;simp only[AU,Ad]at this;exact this.2
end Go.Cat
