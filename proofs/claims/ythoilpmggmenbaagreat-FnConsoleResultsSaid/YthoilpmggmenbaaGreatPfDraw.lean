/-
 The source of drawn arguments: a cursor over the given bytes.
-/
import Derived.Test.YthoilpmggmenbaaGreatPfCat
import Derived.Test.YthoilpmggmenbaaGreatPfBT
set_option linter.unusedSimpArgs false
set_option linter.unusedVariables false
namespace Go.Cat
variable{K:Nat->List D->List D->Prop}
end Go.Cat
namespace Go.Cat
variable{K:Nat->List D->List D->Prop}
end Go.Cat
namespace Go.Cat
variable{K:Nat->List D->List D->Prop}
set_option maxRecDepth 100000
def FQ(w:List Nat):Int:=if AK w=true then(w.length:Int)/2 else -1
theorem Ab2[HA K]{w:List Nat}(h:w.length<=1000000000):K 132 [.s w] [.n (FQ w)]:=by
 refine qw I132 ?_;refine cB (Bf h) ?_
 cases hd:AK w;simp(disch:=try exact dV) only[AD,hd];exact Dn (by simp[FQ,hd]);simp(disch:=try exact dV) only[AD,hd];exact Dn (by simp[FQ,hd])
def nvT:List (List Int):=[[1],[0,1],[0,1,1],[0,1,3,1],[0,1,6,6,1],[0,1,10,20,10,1],[0,1,15,50,50,15,1]]
def nv(m i:Nat):Int:=(nvT.getD m []).getD i 0
end Go.Cat
namespace Go.Cat
variable{K:Nat->List D->List D->Prop}
theorem OU:∀(f:Nat)(w:List Nat)(up down:Nat),(Eu f w up down).length<=2^f
 |0,_,_,_=>by simp[Eu]
 |f+1,w,up,down=>by
  have h:=OU f (w++[117]) (up-1) down;have H:=OU f (w++[100]) up (down-1);have a:1<=2^f:=Nat.one_le_two_pow;rw[Eu,Nat.pow_succ];split;simp;omega;rw[AZ];have:(if up > 0 then Eu f (w++[117]) (up-1) down else []).length<=2^f:=by split<;>first|assumption|simp
  have:(if down > up then Eu f (w++[100]) up (down-1)else []).length<=2^f:=by split<;>first|assumption|simp
  omega
theorem R9[HA K]:∀(f:Nat)(w:List Nat)(up down:Nat)(out:List (List Nat)),up<=down->up+down<f->w.length+f<=1000->f<=20->out.length+2^f<=1073741824->
  K 326 [.s w,.n up,.n down,.g [LS out],.u] [.g [LS (out++Eu f w up down)]]
 |0,_,_,_,_,_,h,_,_,_=>by omega
 |f+1,w,up,down,out,j,l,o,q,x=>by
  have C:2^(f+1)=2^f+2^f:=by rw[Nat.pow_succ];omega
  have i:1<=2^f:=Nat.one_le_two_pow;refine qb Ta ?_;by_cases hd:down=0;have H:up=0:=by omega
  subst hd;subst H;simp(disch:=try exact dV) only[AD,Pw];simp[Eu];have e:Eu (f+1) w up down=(if up > 0 then Eu f (w++[117]) (up-1) down else [])++(if down > up then Eu f (w++[100]) up (down-1)else []):=by rw[Eu,if_neg hd]
  by_cases H:up=0;subst H;have k:=R9 f (w++[100]) 0 (down-1) out (by omega) (by omega) (by simp;omega) (by omega) (by omega);have a:((down-1:Nat):Int)=(down:Int)-1:=by omega
  rw[a]at k;refine wW ?_;refine cW k ?_;rw[e,if_neg (by omega),if_pos (by omega),List.nil_append];have b:=R9 f (w++[117]) (up-1) down out (by omega) (by omega) (by simp;omega) (by omega) (by omega);have c:((up-1:Nat):Int)=(up:Int)-1:=by omega
  rw[c]at b;have B:=OU f (w++[117]) (up-1) down;by_cases F:up<down;have k:=R9 f (w++[100]) up (down-1) (out++Eu f (w++[117]) (up-1) down) (by omega) (by omega) (by simp;omega) (by omega) (by rw[AZ];omega);have a:((down-1:Nat):Int)=(down:Int)-1:=by omega
  rw[a]at k;refine wW ?_;refine cW b ?_;refine cW k ?_;rw[e,if_pos (by omega),if_pos (by omega),CE];refine wW ?_;refine cW b ?_;rw[e,if_pos (by omega),if_neg (by omega),List.append_nil]
theorem Aa8[HA K]{n:Nat}(h:n<=8):K 314 [.n n] [LS (AG n)]:=by have k:=R9 (K:=K) (2*n+1) [] n n [] (Nat.le_refl _) (by omega) (by simp;omega) (by omega) (by have:2^(2*n+1)<=2^17:=Nat.pow_le_pow_right (by omega) (by omega);simp only[Aa];omega);rw[List.nil_append]at k;refine qb Tm ?_;simp(disch:=omega) only[AD,AG7];exact cZ k
theorem Mb:∀(f up down:Nat)(pre w:List Nat),up<=down->up+down<f->(w∈Eu f pre up down↔∃s,w=pre++s/\s.length=up+down/\Bb s ((down:Int)-up)=some 0)
 |0,_,_,_,_,_,h=>by omega
 |f+1,up,down,pre,w,j,k=>by
  rw[Eu];by_cases hd:down=0;have e:up=0:=by omega
  subst hd;subst e;rw[if_pos rfl];constructor;intro h;simp only[List.mem_singleton]at h;exact⟨[],by simp[h],rfl,rfl⟩;rintro⟨s,rfl,b,_⟩;obtain rfl:s=[]:=Dd b;simp;rw[if_neg hd,Ac];constructor;rintro(h|h);split at h;rename_i e;obtain⟨s,rfl,b,H⟩:=(Mb f (up-1) down (pre++[117]) w (by omega) (by omega)).1 h;refine⟨117::s,by simp,by simp;omega,?_⟩;rw[Bb,if_pos rfl,<-H];congr 1;omega
  cases h;split at h;rename_i e;obtain⟨s,rfl,b,H⟩:=(Mb f up (down-1) (pre++[100]) w (by omega) (by omega)).1 h;refine⟨100::s,by simp,by simp;omega,?_⟩;rw[Bb,if_neg (by omega),if_pos rfl,if_neg (by omega),<-H];congr 1;omega
  cases h;rintro⟨s,rfl,b,H⟩
  cases s with
  |nil=>simp at b;omega
  |cons c s=>
   simp only[AO]at b
   rw[Bb]at H
   by_cases g:c=117
   .rw[if_pos g]at H
    subst g
    have i:=QM H
    have e:up > 0:=by omega
    left
    rw[if_pos e]
    refine(Mb f (up-1) down (pre++[117]) _ (by omega) (by omega)).2 ⟨s,by simp,by omega,?_⟩
    rw[<-H];congr 1;omega
   .rw[if_neg g]at H
    by_cases a:c=100
    .rw[if_pos a]at H
     split at H
     .cases H
     .subst a
      right
      rw[if_pos (by omega)]
      refine(Mb f up (down-1) (pre++[100]) _ (by omega) (by omega)).2 ⟨s,by simp,by omega,?_⟩
      rw[<-H];congr 1;omega
    .rw[if_neg a]at H;cases H
theorem Vc{n:Nat}{w:List Nat}(h:n<=8):w∈AG n↔AK w=true/\w.length=2*n:=by
 have a:=Mb (2*n+1) n n [] w (Nat.le_refl _) (by omega);rw[AG,a];constructor;rintro⟨s,rfl,b,H⟩;simp only[AK];have e:((n:Int)-n)=0:=by omega
 rw[e]at H;simp only[H,AU,Ad];exact⟨⟨trivial,by omega⟩,by omega⟩;rintro⟨hd,l⟩;refine⟨w,rfl,by omega,?_⟩;have e:((n:Int)-n)=0:=by omega
 rw[e];simp only[AK,AU,Ad]at hd;exact hd.1
theorem Aa6{n:Nat}(h:n<=8):(AG n).length<=131072:=by have H:=OU (2*n+1) [] n n;have:2^(2*n+1)<=2^17:=Nat.pow_le_pow_right (by omega) (by omega);simp only[AG];omega
end Go.Cat
namespace Go.Cat
variable{K:Nat->List D->List D->Prop}
theorem AdH{s:List Nat}{f i:Nat}(H:f<=i)(h:i<s.length):(s.take (i+1)).drop f=(s.take i).drop f++[AI s i]:=by rw[HX h,List.drop_append_of_le_length (by simp;omega)]
theorem AAA{s:List Nat}{f i:Nat}:sub s (f:Int) (i:Int)=(s.take i).drop f:=by simp[sub]
theorem No[HA K]{s:List Nat}{b:Nat}(h:s.length<=1000000000):K 561 [.s s,.y b] [LS (Ag b s)]:=by refine qb I561 ?_;simp(disch:=try exact dV) only[AD,AG7];refine BE (λi (x:List (List Nat)×Nat)=>x.2<=i/\x.1.length<=i/\Ag b s=x.1++Ct b ((s.take i).drop x.2) (s.drop i)) (λi x=>[.s s,.y b,.u,LS x.1,.n x.2,.n i,.u,.u]) s.length ([],0) ⟨by simp,by simp,by simp[Ag]⟩ rfl (λi x hi P=>?_) (λx P=>?_);obtain⟨o,f⟩:=x;obtain⟨a,e,H⟩:=P;simp only at a e H;rw[AO9 hi]at H;by_cases c:AI s i=b;rw[if_pos c]at H;simp(disch:=try exact dV) only[AD,c];refine⟨(o++[sub s f i],i+1),⟨by simp,by simp;omega,?_⟩,rfl⟩;simp only[AAA,CE,List.singleton_append];rw[H];have:(s.take (i+1)).drop (i+1)=[]:=List.drop_eq_nil_of_le (by simp;omega);rw[this];rw[if_neg c,<-AdH a hi]at H;simp(disch:=try exact dV) only[AD,c];exact⟨(o,f),⟨by simp;omega,by simp;omega,H⟩,rfl⟩;obtain⟨o,f⟩:=x;obtain⟨a,e,H⟩:=P;simp only at a e H;simp(disch:=try exact dV) only[AD,Pw];rw[H,AAA,List.take_length,List.drop_length]<;>rfl
def Gn(ps:List (List Nat)):Bool:=ps.all E8
def EW(ps:List (List Nat)):List Int:=if Gn ps=true then ps.map pV else []
end Go.Cat
namespace Go.Cat
variable{K:Nat->List D->List D->Prop}
theorem ANI[HA K]{a b:List Int}(h:a.length<=1099511627776):K 72 [LI a,LI b] [.b (decide (a=b))]:=by
 refine qw I72 ?_;by_cases l:a.length=b.length;refine wW ?_;refine AR (λi=>∀j:Nat,j<i->AB a j=AB b j) (λi=>[LI a,LI b,.u,.u,.u,.n a.length,.n i,.u,.u]) a.length (by simp) rfl (λi hi P=>?_) (λP=>?_);by_cases he:AB a i=AB b i;refine wW ?_;exact Cw P he;refine wW ?_;have:a≠b:=by rintro rfl;exact he rfl
 simp[this];refine wW ?_;have:a=b:=Lm l P;simp[this];have:a≠b:=by rintro rfl;exact l rfl
 refine wW ?_;simp[this]
theorem AS5[HA K]{a b:List Int}(h:a.length<=1099511627776):K 149 [LI a,LI b] [.b (decide (a=b))]:=by
 refine qw I149 ?_;by_cases l:a.length=b.length;refine wW ?_;refine AR (λi=>∀j:Nat,j<i->AB a j=AB b j) (λi=>[LI a,LI b,.u,.n i,.u,.u,.u]) a.length (by simp) rfl (λi hi P=>?_) (λP=>?_);by_cases he:AB a i=AB b i;refine wW ?_;exact Cw P he;refine wW ?_;have:a≠b:=by rintro rfl;exact he rfl
 simp[this];refine wW ?_;have:a=b:=Lm l P;simp[this];have:a≠b:=by rintro rfl;exact l rfl
 refine wW ?_;simp[this]
theorem G8{m:List (List Int)}{i:Nat}(h:i<m.length):AF m i∈m:=by simp[AF,h]
abbrev CL(k:Int)(f s:List Nat)(t:List (List Nat))(n o:List Int)(r:List (List Int)):D:=.g [.n k,.s f,.s s,LS t,LI n,LI o,LL r]
theorem Dc{x:List (List Nat)}:known (LS x)=some (LS x):=rfl
theorem D0{x:List Int}:known (LI x)=some (LI x):=rfl
theorem Ei{x:List (List Int)}:known (LL x)=some (LL x):=rfl
theorem Bv{x:List (List Nat)}:(LS x).one=true:=rfl
theorem CK{x:List (List Int)}:(LL x).one=true:=rfl
theorem AUR{i:Nat}{xs:List D}{x:D}{j k:Nat}(h:CI k (x,j)=true):QI (some [i]) (.g xs) x j k=xs[i]?.map λ_=>.g (xs.set i x):=by simp only[QI,h,if_true,Option.bind_some,SP]
theorem AcP{i:Nat}{xs:List D}{s:List (List Nat)}:QI (some [i]) (.g xs) (LS s) 1 3=xs[i]?.map λ_=>.g (xs.set i (LS s)):=AUR (by simp[CI,LS,D.one,C3,D.flat])
end Go.Cat
namespace Go.Cat
variable{K:Nat->List D->List D->Prop}
def BC(sep:List Nat)(ws:List (List Nat)):Nat->List Nat
 |0=>[]
 |i+1=>BC sep ws i++(if 0<i then sep else [])++AH ws i
def glue(sep:List Nat)(ws:List (List Nat)):List Nat:=BC sep ws ws.length
theorem Ib{ws:List (List Nat)}{b i:Nat}(h:∀x∈ws,x.length<=b):(AH ws i).length<=b:=by
 rcases B7 i ws.length with q|q;exact h _ (by simp[AH,q])
 have:AH ws i=[]:=by simp[AH,q]
 rw[this];simp
theorem Gu{sep:List Nat}{ws:List (List Nat)}{b:Nat}(h:∀x∈ws,x.length<=b):∀i,(BC sep ws i).length<=i*(b+sep.length)
 |0=>by simp[BC]
 |i+1=>by
  have H:=Gu (sep:=sep) h i;have a:=Ib (i:=i) h;simp only[BC,AZ,Nat.succ_mul];have:(if 0<i then sep else []).length<=sep.length:=by split<;>simp
  omega
theorem Hs[HA K]{ws:List (List Nat)}{sep:List Nat}(l:ws.length<=100000)(h:∀x∈ws,x.length<=100000)(c:sep.length<=100):K 184 [LS ws,.s sep] [.s (glue sep ws)]:=by refine qw I184 ?_;refine AR (λ_=>True) (λi=>[.u,.s sep,.u,.s (BC sep ws i),.u,.u,LS ws,.n ws.length,.n i,.u,.u]) ws.length trivial rfl (λi hi _=>?_) (λ_=>?_);have H:=Gu (sep:=sep) h i;have a:=Ib (i:=i) h;have b:i*(100000+sep.length)<=100000*(100000+100):=Nat.mul_le_mul (by omega) (by omega);by_cases h0:0<i;refine wW ?_;simp only[BC,if_pos h0];refine wW ?_;simp only[BC,if_neg h0,List.append_nil];exact wZ
def GZ(x:Int):Int:=if x < -99 then -99 else if 99<x then 99 else x
theorem VX{x:Int}:-99<=GZ x/\GZ x<=99:=by unfold GZ;split<;>(try split)<;>omega
def Dv(l:List Int):List (List Nat):=l.map λx=>AN (GZ x)
def DO(l:List Int):List Nat:=if l.length=0\/40<l.length then [110,111,110,101]else glue [44] (Dv l)
theorem S6{l:List Int}:∀x∈Dv l,x.length<=20:=by intro x h;obtain⟨y,_,rfl⟩:=List.mem_map.1 h;exact Ar (by have:=VX (x:=y);omega)
theorem V0{l:List Int}{i:Nat}(h:i<l.length):AH (Dv l) i=AN (GZ (AB l i)):=by simp[AH,Dv,AB,h]
theorem AaP{l:List Int}{i:Nat}(h:i<l.length):(Dv l).take (i+1)=(Dv l).take i++[AN (GZ (AB l i))]:=by rw[CO (by simpa[Dv]using h)];simp[Dv,AB,h]
theorem VR{l:List Int}:(Dv l).length=l.length:=by simp[Dv]
theorem MU:D.l []=LS []:=rfl
theorem QO[HA K]{l:List Int}(h:l.length<=9223372036854775807):K 353 [LI l] [.s (DO l)]:=by
 refine qb I353 ?_;by_cases h0:l.length=0;simp only[DO,h0];refine wW ?_;simp;by_cases a:40<l.length;simp only[DO];rw[if_pos (by omega)];exact wZ;simp only[DO];rw[if_neg (by omega)];have f:=VR (l:=l);refine wW ?_;rw[MU];refine AR (λ_=>True) (λi=>[.u,.u,LS ((Dv l).take i),.u,.u,LI l,.n l.length,.n i,.u]) l.length trivial (by simp) (λi hi _=>?_) (λ_=>?_);have c:=VX (x:=AB l i);have H:((Dv l).take i).length=i:=by simp;omega
 have e:min (max (AB l i) (-99)) 99=GZ (AB l i):=by unfold GZ;omega
 simp(disch:=try exact dV) only[AD,e];refine cB (C4 (by omega)) ?_;simp(disch:=try exact dV) only[AD,AaP hi];have H:(Dv l).take l.length=Dv l:=List.take_of_length_le (by omega);simp(disch:=try exact dV) only[AD,H];have k:=Hs (K:=K) (ws:=Dv l) (sep:=[44]) (by omega) (λx b=>Nat.le_trans (S6 x b) (by omega)) (by simp);exact cZ k
theorem RX[HA K]{l:List Int}(h:l.length<=9223372036854775807):K 351 [LI l] [.s (DO l)]:=by
 refine qb I351 ?_;by_cases h0:l.length=0;simp only[DO];rw[if_pos (.inl h0)];refine wW ?_;refine Bd (λ(_:Unit)=>True) (λ_=>[LI l,.u,.s [],.n 0,.u,.u,.u]) (λ_=>0) () trivial rfl (λ_ _=>?_);exact wZ;by_cases a:40<l.length;simp only[DO];rw[if_pos (.inr a)];refine wW ?_;refine Bd (λ(_:Unit)=>True) (λ_=>[LI l,.u,.s [],.n 0,.u,.u,.u]) (λ_=>0) () trivial rfl (λ_ _=>?_);exact wZ;simp only[DO];rw[if_neg (by omega)];have f:=VR (l:=l);refine wW ?_;refine AR (λi=>0<i->BC [44] (Dv l) i≠[]) (λi=>[LI l,.u,.s (BC [44] (Dv l) i),.n i,.u,.u,.u]) l.length (by simp) rfl (λi hi P=>?_) (λP=>?_);have k:=VX (x:=AB l i);have e:max (-99) (min 99 (AB l i))=GZ (AB l i):=by unfold GZ;omega
 have c:=Gu (sep:=[44]) (S6 (l:=l)) i;have g:=Ar (n:=GZ (AB l i)) (by omega);have j:=Ph (n:=GZ (AB l i));have b:BC [44] (Dv l) (i+1)≠[]:=by simp only[BC,V0 hi];intro q;have:=congrArg List.length q;simp only[AZ,Aa]at this;omega
 simp only[AO,Aa]at c;by_cases H:0<i;simp(disch:=try exact dV) only[AD,e];refine cW (Bk (by omega)) ?_;exact⟨λ_=>b,by simp only[BC,if_pos H,V0 hi]⟩;simp(disch:=try exact dV) only[AD,e];refine cW (Bk (by omega)) ?_;exact⟨λ_=>b,by simp only[BC,if_neg H,V0 hi,List.append_nil]⟩;have e:(BC [44] (Dv l) l.length==[])=false:=beq_eq_false_iff_ne.2 (P (by omega));simp(disch:=try exact dV) only[AD,e];simp only[glue,f]
def EX(r:List Int):Bool:=decide (r.length=2)&&(A4 0 9 (AB r 0)&&A4 0 9 (AB r 1))
def Cf(d:List (List Int)):List (List Nat):=d.map λr=>AN (AB r 0)++AN (AB r 1)
def C0(d:List (List Int)):List Nat:=if d.length=0 then [110,111,110,101]else if 20<d.length then []else if d.all EX=true then glue [32] (Cf d)else []
theorem Pt{d:List (List Int)}:(Cf d).length=d.length:=by simp[Cf]
theorem Tt{d:List (List Int)}{i:Nat}(h:i<d.length):AH (Cf d) i=AN (AB (AF d i) 0)++AN (AB (AF d i) 1):=by simp[AH,Cf,AF,h]
theorem AOF{d:List (List Int)}{i:Nat}(h:i<d.length):(Cf d).take (i+1)=(Cf d).take i++[AN (AB (AF d i) 0)++AN (AB (AF d i) 1)]:=by rw[CO (by simpa[Cf]using h)];simp[Cf,AF,h]
theorem Rt{d:List (List Int)}(h:∀j:Nat,j<d.length->EX (AF d j)=true):d.all EX=true:=by refine Aj.2 λx a=>?_;obtain⟨j,H,rfl⟩:=List.getElem_of_mem a;have:=h j H;simpa[AF,H]using this
theorem AEM{d:List (List Int)}{i:Nat}(hi:i<d.length)(h:EX (AF d i)=false):d.all EX=false:=by refine Bool.eq_false_iff.2 λq=>?_;have:=Aj.1 q (AF d i) (by simp[AF,hi]);rw[h]at this;cases this
theorem Ns{r:List Int}(h:EX r=true):r.length=2/\A4 0 9 (AB r 0)=true/\A4 0 9 (AB r 1)=true:=by simpa[EX]using h
theorem Rh[HA K]{d:List (List Int)}(h:d.length<=9223372036854775807)(f:∀r∈d,r.length<=9223372036854775807):K 354 [LL d] [.s (C0 d)]:=by
 refine qb I354 ?_;by_cases h0:d.length=0;simp only[C0];rw[if_pos h0];exact wZ;by_cases a:20<d.length;simp only[C0];rw[if_neg h0,if_pos a];exact wZ;simp only[C0];rw[if_neg h0,if_neg a];have B:=Pt (d:=d);refine wW ?_;rw[MU];refine AR (λi=>∀j:Nat,j<i->EX (AF d j)=true) (λi=>[.u,.u,LS ((Cf d).take i),.u,.u,.u,LL d,.n d.length,.n i,.u,.u]) d.length (by simp) (by simp) (λi hi P=>?_) (λP=>?_);have e:((Cf d).take i).length=i:=by simp;omega
 have l:=f _ (G8 (i:=i) (m:=d) hi)
 cases hd:EX (AF d i);rw[AEM hi hd];by_cases H:(AF d i).length=2;simp(disch:=try exact dV) only[AD,H];refine cB CN ?_
 cases q:A4 0 9 (AB (AF d i) 0);refine wW ?_;simp;refine wW ?_;refine cB CN ?_;have Q:A4 0 9 (AB (AF d i) 1)=false:=by simpa[EX,H,q]using hd
 simp(disch:=try exact dV) only[AD,Q];simp;refine wW ?_;simp;obtain⟨H,q,Q⟩:=Ns hd;have b1:=Af.1 q;have b2:=Af.1 Q;have L:=Ar (n:=AB (AF d i) 0) (by omega);have o:=Ar (n:=AB (AF d i) 1) (by omega);simp(disch:=try exact dV) only[AD,H];refine cB CN ?_;simp(disch:=try exact dV) only[AD,q];refine cB CN ?_;simp(disch:=try exact dV) only[AD,Q];refine cW (C4 (by omega)) ?_;refine cB (C4 (by omega)) ?_;simp(disch:=try exact dV) only[AD,AOF hi];exact Cw P hd;have e:(Cf d).take d.length=Cf d:=List.take_of_length_le (by omega);have b:∀x∈Cf d,x.length<=100000:=by intro x g;obtain⟨r,c,rfl⟩:=List.mem_map.1 g;obtain⟨H,q,Q⟩:=Ns (Aj.1 (Rt P) r c);have b1:=Af.1 q;have b2:=Af.1 Q;have L:=Ar (n:=AB r 0) (by omega);have o:=Ar (n:=AB r 1) (by omega);simp only[AZ];omega
 have k:=Hs (K:=K) (ws:=Cf d) (sep:=[32]) (by omega) b (by simp);rw[Rt P];simp(disch:=try exact dV) only[AD,e];exact cZ k
theorem Zb{d:List (List Int)}(h0:d.length≠0)(h:20<d.length\/d.all EX=false):C0 d=[]:=by unfold C0;rw[if_neg h0];split;rfl;rcases h with h|h;omega;rw[h]<;>rfl
theorem ADJ[HA K]{d:List (List Int)}(h:d.length<=9223372036854775807)(x:∀r∈d,r.length<=9223372036854775807):K 352 [LL d] [.s (C0 d)]:=by
 refine qb I352 ?_;have C:=Pt (d:=d);simp(disch:=first|omega|simp only[vl];omega) only[AD];refine AR (λi=>(i=0\/d.length<=20)/\(∀j:Nat,j<i->EX (AF d j)=true)/\(BC [32] (Cf d) i).length<=i*100/\(0<i->BC [32] (Cf d) i≠[])) (λi=>[LL d,.u,.s (BC [32] (Cf d) i),.n i,.u,.u,.u,.u]) d.length (by simp[BC]) rfl (λi hi P=>?_) (λP=>?_);obtain⟨l,g,o,G⟩:=P;have B:=x _ (G8 (i:=i) (m:=d) hi)
 cases hd:EX (AF d i);rw[Zb (by omega) (.inr (AEM hi hd))];by_cases a:(AF d i).length=2;simp(disch:=first|omega|simp only[vl];omega) only[AD,a];refine Aq (Cl (K:=K)) rfl ?_
 cases c:A4 0 9 (AB (AF d i) 0);simp(disch:=first|omega|simp only[vl];omega) only[AD];simp(disch:=first|omega|simp only[vl];omega) only[AD];refine Aq (Cl (K:=K)) rfl ?_;have Q:A4 0 9 (AB (AF d i) 1)=false:=by simpa[EX,a,c]using hd
 simp(disch:=first|omega|simp only[vl];omega) only[AD,Q];simp(disch:=first|omega|simp only[vl];omega) only[AD];obtain⟨a,c,Q⟩:=Ns hd;have b1:=Af.1 c;have b2:=Af.1 Q;have L:=Ar (n:=AB (AF d i) 0) (by omega);have F:=Ar (n:=AB (AF d i) 1) (by omega);have I:=Ph (n:=AB (AF d i) 0);simp(disch:=first|omega|simp only[vl];omega) only[AD,a];refine Aq (Cl (K:=K)) rfl ?_;simp(disch:=first|omega|simp only[vl];omega) only[AD,c];refine Aq (Cl (K:=K)) rfl ?_;by_cases k:20<d.length;rw[Zb (by omega) (.inl k)];simp(disch:=first|omega|simp only[vl];omega) only[AD,Q];have b:(BC [32] (Cf d) (i+1)).length<=(i+1)*100/\(0<i+1->BC [32] (Cf d) (i+1)≠[]):=by
  simp only[BC,Tt hi,AZ];have:(if 0<i then [32]else([]:List Nat)).length<=1:=by split<;>simp
  refine⟨by omega,λ_ q=>?_⟩;have:=congrArg List.length q;simp only[AZ,Aa]at this;omega
 by_cases H:0<i;simp(disch:=first|omega|simp only[vl];omega) only[AD,Q];refine Aq (Bk (K:=K) (n:=AB (AF d i) 0) (by omega)) rfl ?_;simp(disch:=first|omega|simp only[vl];omega) only[AD];refine Aq (Bk (K:=K) (n:=AB (AF d i) 1) (by omega)) rfl ?_;simp(disch:=first|omega|simp only[vl];omega) only[AD];exact⟨⟨by omega,Cw g hd,b.1,λ_=>b.2 (by omega)⟩,by simp only[BC,if_pos H,Tt hi,CE]⟩;simp(disch:=first|omega|simp only[vl];omega) only[AD,Q];refine Aq (Bk (K:=K) (n:=AB (AF d i) 0) (by omega)) rfl ?_;simp(disch:=first|omega|simp only[vl];omega) only[AD];refine Aq (Bk (K:=K) (n:=AB (AF d i) 1) (by omega)) rfl ?_;simp(disch:=first|omega|simp only[vl];omega) only[AD];exact⟨⟨by omega,Cw g hd,b.1,λ_=>b.2 (by omega)⟩,by simp only[BC,if_neg H,Tt hi,CE,List.append_nil]⟩;obtain⟨l,g,o,G⟩:=P;by_cases h0:d.length=0;have e:C0 d=[110,111,110,101]:=by unfold C0;rw[if_pos h0]
 have f:BC [32] (Cf d) d.length=[]:=by rw[h0];rfl
 rw[e,f];simp(disch:=first|omega|simp only[vl];omega) only[AD];have e:(BC [32] (Cf d) d.length==[])=false:=beq_eq_false_iff_ne.2 (G (by omega));have f:C0 d=glue [32] (Cf d):=by unfold C0;rw[if_neg h0,if_neg (by omega),Rt g];rfl
 rw[f];simp(disch:=first|omega|simp only[vl];omega) only[AD,e];simp only[glue,C]
end Go.Cat
