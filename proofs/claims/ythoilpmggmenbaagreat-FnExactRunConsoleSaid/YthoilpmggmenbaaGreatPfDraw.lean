/-
 The source of drawn arguments: a cursor over the given bytes.
-/
import Derived.Test.YthoilpmggmenbaaGreatPfRank
import Derived.Test.YthoilpmggmenbaaGreatPfPI
set_option linter.unusedSimpArgs false
set_option linter.unusedVariables false
namespace Go.Cat
variable{K:Nat->List D->List D->Prop}
end Go.Cat
namespace Go.Cat
variable{K:Nat->List D->List D->Prop}
end Go.Cat
namespace Go.Cat
variable{K:Nat->List D->List D->Prop}
set_option maxRecDepth 100000
def GI(w:List Nat):Int:=if AK w=true then(w.length:Int)/2 else -1
theorem AX7[HA K]{w:List Nat}(h:w.length<=1000000000):K 132 [.s w] [.n (GI w)]:=by
 refine qw I132 ?_;refine cB (Bv h) ?_
 cases hd:AK w;simp(disch:=try exact dV) only[AD,hd];exact Dn (by simp[GI,hd]);simp(disch:=try exact dV) only[AD,hd];exact Dn (by simp[GI,hd])
def nvT:List (List Int):=[[1],[0,1],[0,1,1],[0,1,3,1],[0,1,6,6,1],[0,1,10,20,10,1],[0,1,15,50,50,15,1]]
def nv(m i:Nat):Int:=(nvT.getD m []).getD i 0
end Go.Cat
namespace Go.Cat
variable{K:Nat->List D->List D->Prop}
theorem Ru:∀(f:Nat)(w:List Nat)(up down:Nat),(FF f w up down).length<=2^f
 |0,_,_,_=>by simp[FF]
 |f+1,w,up,down=>by
  have h:=Ru f (w++[117]) (up-1) down;have H:=Ru f (w++[100]) up (down-1);have a:1<=2^f:=Nat.one_le_two_pow;rw[FF,Nat.pow_succ];split;simp;omega;rw[A4];have:(if up > 0 then FF f (w++[117]) (up-1) down else []).length<=2^f:=by split<;>first|assumption|simp
  have:(if down > up then FF f (w++[100]) up (down-1)else []).length<=2^f:=by split<;>first|assumption|simp
  omega
theorem Rh[HA K]:∀(f:Nat)(w:List Nat)(up down:Nat)(out:List (List Nat)),up<=down->up+down<f->w.length+f<=1000->f<=20->out.length+2^f<=1073741824->
  K 326 [.s w,.n up,.n down,.g [LS out],.u] [.g [LS (out++FF f w up down)]]
 |0,_,_,_,_,_,h,_,_,_=>by omega
 |f+1,w,up,down,out,j,l,o,q,x=>by
  have C:2^(f+1)=2^f+2^f:=by rw[Nat.pow_succ];omega
  have i:1<=2^f:=Nat.one_le_two_pow;refine qb Vs ?_;by_cases hd:down=0;have H:up=0:=by omega
  subst hd;subst H;simp(disch:=try exact dV) only[AD,Nh];simp[FF];have e:FF (f+1) w up down=(if up > 0 then FF f (w++[117]) (up-1) down else [])++(if down > up then FF f (w++[100]) up (down-1)else []):=by rw[FF,if_neg hd]
  by_cases H:up=0;subst H;have k:=Rh f (w++[100]) 0 (down-1) out (by omega) (by omega) (by simp;omega) (by omega) (by omega);have a:((down-1:Nat):Int)=(down:Int)-1:=by omega
  rw[a]at k;refine wW ?_;refine cW k ?_;rw[e,if_neg (by omega),if_pos (by omega),List.nil_append];have b:=Rh f (w++[117]) (up-1) down out (by omega) (by omega) (by simp;omega) (by omega) (by omega);have c:((up-1:Nat):Int)=(up:Int)-1:=by omega
  rw[c]at b;have B:=Ru f (w++[117]) (up-1) down;by_cases F:up<down;have k:=Rh f (w++[100]) up (down-1) (out++FF f (w++[117]) (up-1) down) (by omega) (by omega) (by simp;omega) (by omega) (by rw[A4];omega);have a:((down-1:Nat):Int)=(down:Int)-1:=by omega
  rw[a]at k;refine wW ?_;refine cW b ?_;refine cW k ?_;rw[e,if_pos (by omega),if_pos (by omega),CO];refine wW ?_;refine cW b ?_;rw[e,if_pos (by omega),if_neg (by omega),List.append_nil]
theorem Aa8[HA K]{n:Nat}(h:n<=8):K 314 [.n n] [LS (AI n)]:=by have k:=Rh (K:=K) (2*n+1) [] n n [] (Nat.le_refl _) (by omega) (by simp;omega) (by omega) (by have:2^(2*n+1)<=2^17:=Nat.pow_le_pow_right (by omega) (by omega);simp only[A6];omega);rw[List.nil_append]at k;refine qb W5 ?_;simp(disch:=omega) only[AD,UX];exact cZ k
theorem Ov:∀(f up down:Nat)(pre w:List Nat),up<=down->up+down<f->(w∈FF f pre up down↔∃s,w=pre++s/\s.length=up+down/\Bl s ((down:Int)-up)=some 0)
 |0,_,_,_,_,_,h=>by omega
 |f+1,up,down,pre,w,j,k=>by
  rw[FF];by_cases hd:down=0;have e:up=0:=by omega
  subst hd;subst e;rw[if_pos rfl];constructor;intro h;simp only[List.mem_singleton]at h;exact⟨[],by simp[h],rfl,rfl⟩;rintro⟨s,rfl,b,_⟩;obtain rfl:s=[]:=Dz b;simp;rw[if_neg hd,Ac];constructor;rintro(h|h);split at h;rename_i e;obtain⟨s,rfl,b,H⟩:=(Ov f (up-1) down (pre++[117]) w (by omega) (by omega)).1 h;refine⟨117::s,by simp,by simp;omega,?_⟩;rw[Bl,if_pos rfl,<-H];congr 1;omega
  cases h;split at h;rename_i e;obtain⟨s,rfl,b,H⟩:=(Ov f up (down-1) (pre++[100]) w (by omega) (by omega)).1 h;refine⟨100::s,by simp,by simp;omega,?_⟩;rw[Bl,if_neg (by omega),if_pos rfl,if_neg (by omega),<-H];congr 1;omega
  cases h;rintro⟨s,rfl,b,H⟩
  cases s with
  |nil=>simp at b;omega
  |cons c s=>
   simp only[AO]at b
   rw[Bl]at H
   by_cases g:c=117
   .rw[if_pos g]at H
    subst g
    have i:=Tm H
    have e:up > 0:=by omega
    left
    rw[if_pos e]
    refine(Ov f (up-1) down (pre++[117]) _ (by omega) (by omega)).2 ⟨s,by simp,by omega,?_⟩
    rw[<-H];congr 1;omega
   .rw[if_neg g]at H
    by_cases a:c=100
    .rw[if_pos a]at H
     split at H
     .cases H
     .subst a
      right
      rw[if_pos (by omega)]
      refine(Ov f up (down-1) (pre++[100]) _ (by omega) (by omega)).2 ⟨s,by simp,by omega,?_⟩
      rw[<-H];congr 1;omega
    .rw[if_neg a]at H;cases H
theorem Xy{n:Nat}{w:List Nat}(h:n<=8):w∈AI n↔AK w=true/\w.length=2*n:=by
 have a:=Ov (2*n+1) n n [] w (Nat.le_refl _) (by omega);rw[AI,a];constructor;rintro⟨s,rfl,b,H⟩;simp only[AK];have e:((n:Int)-n)=0:=by omega
 rw[e]at H;simp only[H,AV,Aa];exact⟨⟨trivial,by omega⟩,by omega⟩;rintro⟨hd,l⟩;refine⟨w,rfl,by omega,?_⟩;have e:((n:Int)-n)=0:=by omega
 rw[e];simp only[AK,AV,Aa]at hd;exact hd.1
theorem AkB{n:Nat}(h:n<=8):(AI n).length<=131072:=by have H:=Ru (2*n+1) [] n n;have:2^(2*n+1)<=2^17:=Nat.pow_le_pow_right (by omega) (by omega);simp only[AI];omega
end Go.Cat
namespace Go.Cat
variable{K:Nat->List D->List D->Prop}
theorem AVN{s:List Nat}{f i:Nat}(H:f<=i)(h:i<s.length):(s.take (i+1)).drop f=(s.take i).drop f++[AH s i]:=by rw[Fw h,List.drop_append_of_le_length (by simp;omega)]
theorem Xq{s:List Nat}{f i:Nat}:sub s (f:Int) (i:Int)=(s.take i).drop f:=by simp[sub]
theorem Nf[HA K]{s:List Nat}{b:Nat}(h:s.length<=1000000000):K 561 [.s s,.y b] [LS (AP b s)]:=by refine qb I561 ?_;simp(disch:=try exact dV) only[AD,UX];refine Aj (λi (x:List (List Nat)×Nat)=>x.2<=i/\x.1.length<=i/\AP b s=x.1++DN b ((s.take i).drop x.2) (s.drop i)) (λi x=>[.s s,.y b,.u,LS x.1,.n x.2,.n i,.u,.u]) s.length ([],0) ⟨by simp,by simp,by simp[AP]⟩ rfl (λi x hi P=>?_) (λx P=>?_);obtain⟨o,f⟩:=x;obtain⟨a,e,H⟩:=P;simp only at a e H;rw[Ry hi]at H;by_cases c:AH s i=b;rw[if_pos c]at H;simp(disch:=try exact dV) only[AD,c];refine⟨(o++[sub s f i],i+1),⟨by simp,by simp;omega,?_⟩,rfl⟩;simp only[Xq,CO,List.singleton_append];rw[H];have:(s.take (i+1)).drop (i+1)=[]:=List.drop_eq_nil_of_le (by simp;omega);rw[this];rw[if_neg c,<-AVN a hi]at H;simp(disch:=try exact dV) only[AD,c];exact⟨(o,f),⟨by simp;omega,by simp;omega,H⟩,rfl⟩;obtain⟨o,f⟩:=x;obtain⟨a,e,H⟩:=P;simp only at a e H;simp(disch:=try exact dV) only[AD,Nh];rw[H,Xq,List.take_length,List.drop_length]<;>rfl
theorem ASR:D.l []=LI []:=rfl
theorem Ri{s:List Nat}{i:Nat}(h:i<s.length):sub s (i:Int) ((i:Int)+1)=[AH s i]:=by
 have e:((i:Int)+1)=((i+1:Nat):Int):=by omega
 rw[e,Xq,Fw h,List.drop_append_of_le_length (by simp;omega)];simp
def Cl(ps:List (List Nat)):Bool:=ps.all C5
def Bp(ps:List (List Nat)):List Int:=if Cl ps=true then ps.map pV else []
theorem WN{o t:List (List Nat)}{p:List Nat}(h:¬C5 p=true):Cl (o++p::t)=false:=by simp[Cl,h]
theorem UN{o:List (List Nat)}(h:Cl o=false):Bp o=[]:=by simp[Bp,h]
theorem VC{p:List Nat}(h:C5 p=true):pR p=pV p:=by simp[pR,h]
theorem QS[HA K]{s:List Nat}{b:Nat}(h:s.length<=1000000):K 575 [.s s,.y b] [LI (Bp (AP b s)),.b (Cl (AP b s))]:=by
 refine qb I575 ?_;simp(disch:=try exact dV) only[AD,ASR];refine Aj (λi (x:List (List Nat)×List Nat)=>x.1.length<=i/\x.2.length<=i/\x.1.all C5=true/\(i<=s.length->AP b s=x.1++DN b x.2 (s.drop i))/\(s.length<i->AP b s=x.1)) (λi x=>[.s s,.y b,.u,.u,LI (x.1.map pV),.s x.2,.n i,.u,.u,.u,.u,.u]) (s.length+1) ([],[]) ⟨by simp,by simp,by simp,by simp[AP],by simp⟩ rfl (λi x hi P=>?_) (λx P=>?_);obtain⟨o,p⟩:=x;obtain⟨g,j,c,H,_⟩:=P;simp only at g j c H;have H:=H (by omega);have B:=S1 (K:=K) (s:=p) (by omega);by_cases l:i<s.length;rw[Ry l]at H;by_cases f:AH s i=b;rw[if_pos f]at H;simp(disch:=try exact dV) only[AD,f];refine cB B ?_;by_cases a:C5 p=true;simp(disch:=try exact dV) only[AD,a];exact⟨(o++[p],[]),⟨by simp;omega,by simp,by simp[c,a],λ_=>by simp[H],λq=>absurd q (by omega)⟩,by simp[VC a]⟩;simp(disch:=try exact dV) only[AD,a];have e:Cl (AP b s)=false:=by rw[H];exact WN a
 rw[e,UN e]<;>rfl;rw[if_neg f]at H;simp(disch:=try exact dV) only[AD,f];rw[Ri l];exact⟨(o,p++[AH s i]),⟨by simp;omega,by simp;omega,c,λ_=>H,λq=>absurd q (by omega)⟩,rfl⟩;have C:s.drop i=[]:=List.drop_eq_nil_of_le (by omega);rw[C]at H;refine wW ?_;refine cB B ?_;by_cases a:C5 p=true;simp(disch:=try exact dV) only[AD,a];exact⟨(o++[p],[]),⟨by simp;omega,by simp,by simp[c,a],λq=>absurd q (by omega),λ_=>by simp[H,DN]⟩,by simp[VC a]⟩;simp(disch:=try exact dV) only[AD,a];have e:Cl (AP b s)=false:=by rw[H];exact WN a
 rw[e,UN e]<;>rfl;obtain⟨o,p⟩:=x;obtain⟨g,j,c,H,k⟩:=P;simp only at g j c k;refine wW ?_;rw[k (by omega)];simp[Bp,Cl,c]
end Go.Cat
namespace Go.Cat
variable{K:Nat->List D->List D->Prop}
theorem AJF[HA K]{a b:List Int}(h:a.length<=1099511627776):K 72 [LI a,LI b] [.b (decide (a=b))]:=by
 refine qw I72 ?_;by_cases l:a.length=b.length;refine wW ?_;refine AN (λi=>∀j:Nat,j<i->AB a j=AB b j) (λi=>[LI a,LI b,.u,.u,.u,.n a.length,.n i,.u,.u]) a.length (by simp) rfl (λi hi P=>?_) (λP=>?_);by_cases he:AB a i=AB b i;refine wW ?_;exact Bf P he;refine wW ?_;have:a≠b:=by rintro rfl;exact he rfl
 simp[this];refine wW ?_;have:a=b:=HW l P;simp[this];have:a≠b:=by rintro rfl;exact l rfl
 refine wW ?_;simp[this]
theorem Ag5[HA K]{a b:List Int}(h:a.length<=1099511627776):K 149 [LI a,LI b] [.b (decide (a=b))]:=by
 refine qw I149 ?_;by_cases l:a.length=b.length;refine wW ?_;refine AN (λi=>∀j:Nat,j<i->AB a j=AB b j) (λi=>[LI a,LI b,.u,.n i,.u,.u,.u]) a.length (by simp) rfl (λi hi P=>?_) (λP=>?_);by_cases he:AB a i=AB b i;refine wW ?_;exact Bf P he;refine wW ?_;have:a≠b:=by rintro rfl;exact he rfl
 simp[this];refine wW ?_;have:a=b:=HW l P;simp[this];have:a≠b:=by rintro rfl;exact l rfl
 refine wW ?_;simp[this]
theorem HO{m:List (List Int)}{i:Nat}(h:i<m.length):AF m i∈m:=by simp[AF,h]
abbrev CL(k:Int)(f s:List Nat)(t:List (List Nat))(n o:List Int)(r:List (List Int)):D:=.g [.n k,.s f,.s s,LS t,LI n,LI o,LL r]
theorem EC{x:List (List Nat)}:known (LS x)=some (LS x):=rfl
theorem Dq{x:List Int}:known (LI x)=some (LI x):=rfl
theorem F3{x:List (List Int)}:known (LL x)=some (LL x):=rfl
theorem EH{x:List (List Nat)}:(LS x).one=true:=rfl
theorem FJ{x:List (List Int)}:(LL x).one=true:=rfl
theorem AgH{i:Nat}{xs:List D}{x:D}{j k:Nat}(h:CG k (x,j)=true):Qp (some [i]) (.g xs) x j k=xs[i]?.map λ_=>.g (xs.set i x):=by simp only[Qp,h,if_true,Option.bind_some,WY]
theorem AiC{i:Nat}{xs:List D}{s:List (List Nat)}:Qp (some [i]) (.g xs) (LS s) 1 3=xs[i]?.map λ_=>.g (xs.set i (LS s)):=AgH (by simp[CG,LS,D.one,CY,D.flat])
end Go.Cat
namespace Go.Cat
variable{K:Nat->List D->List D->Prop}
def BE(sep:List Nat)(ws:List (List Nat)):Nat->List Nat
 |0=>[]
 |i+1=>BE sep ws i++(if 0<i then sep else [])++AG ws i
def glue(sep:List Nat)(ws:List (List Nat)):List Nat:=BE sep ws ws.length
theorem KB{ws:List (List Nat)}{b i:Nat}(h:∀x∈ws,x.length<=b):(AG ws i).length<=b:=by
 rcases BS i ws.length with q|q;exact h _ (by simp[AG,q])
 have:AG ws i=[]:=by simp[AG,q]
 rw[this];simp
theorem IH{sep:List Nat}{ws:List (List Nat)}{b:Nat}(h:∀x∈ws,x.length<=b):∀i,(BE sep ws i).length<=i*(b+sep.length)
 |0=>by simp[BE]
 |i+1=>by
  have H:=IH (sep:=sep) h i;have a:=KB (i:=i) h;simp only[BE,A4,Nat.succ_mul];have:(if 0<i then sep else []).length<=sep.length:=by split<;>simp
  omega
theorem J1[HA K]{ws:List (List Nat)}{sep:List Nat}(l:ws.length<=100000)(h:∀x∈ws,x.length<=100000)(c:sep.length<=100):K 184 [LS ws,.s sep] [.s (glue sep ws)]:=by refine qw I184 ?_;refine AN (λ_=>True) (λi=>[.u,.s sep,.u,.s (BE sep ws i),.u,.u,LS ws,.n ws.length,.n i,.u,.u]) ws.length trivial rfl (λi hi _=>?_) (λ_=>?_);have H:=IH (sep:=sep) h i;have a:=KB (i:=i) h;have b:i*(100000+sep.length)<=100000*(100000+100):=Nat.mul_le_mul (by omega) (by omega);by_cases h0:0<i;refine wW ?_;simp only[BE,if_pos h0];refine wW ?_;simp only[BE,if_neg h0,List.append_nil];exact wZ
def HU(x:Int):Int:=if x < -99 then -99 else if 99<x then 99 else x
theorem XL{x:Int}:-99<=HU x/\HU x<=99:=by unfold HU;split<;>(try split)<;>omega
def ES(l:List Int):List (List Nat):=l.map λx=>AQ (HU x)
def D6(l:List Int):List Nat:=if l.length=0\/40<l.length then [110,111,110,101]else glue [44] (ES l)
theorem Y7{l:List Int}:∀x∈ES l,x.length<=20:=by intro x h;obtain⟨y,_,rfl⟩:=List.mem_map.1 h;exact Ax (by have:=XL (x:=y);omega)
theorem Wn{l:List Int}{i:Nat}(h:i<l.length):AG (ES l) i=AQ (HU (AB l i)):=by simp[AG,ES,AB,h]
theorem Ai0{l:List Int}{i:Nat}(h:i<l.length):(ES l).take (i+1)=(ES l).take i++[AQ (HU (AB l i))]:=by rw[CP (by simpa[ES]using h)];simp[ES,AB,h]
theorem VR{l:List Int}:(ES l).length=l.length:=by simp[ES]
theorem Np:D.l []=LS []:=rfl
theorem RY[HA K]{l:List Int}(h:l.length<=9223372036854775807):K 353 [LI l] [.s (D6 l)]:=by
 refine qb I353 ?_;by_cases h0:l.length=0;simp only[D6,h0];refine wW ?_;simp;by_cases a:40<l.length;simp only[D6];rw[if_pos (by omega)];exact wZ;simp only[D6];rw[if_neg (by omega)];have f:=VR (l:=l);refine wW ?_;rw[Np];refine AN (λ_=>True) (λi=>[.u,.u,LS ((ES l).take i),.u,.u,LI l,.n l.length,.n i,.u]) l.length trivial (by simp) (λi hi _=>?_) (λ_=>?_);have c:=XL (x:=AB l i);have H:((ES l).take i).length=i:=by simp;omega
 have e:min (max (AB l i) (-99)) 99=HU (AB l i):=by unfold HU;omega
 simp(disch:=try exact dV) only[AD,e];refine cB (C4 (by omega)) ?_;simp(disch:=try exact dV) only[AD,Ai0 hi];have H:(ES l).take l.length=ES l:=List.take_of_length_le (by omega);simp(disch:=try exact dV) only[AD,H];have k:=J1 (K:=K) (ws:=ES l) (sep:=[44]) (by omega) (λx b=>Nat.le_trans (Y7 x b) (by omega)) (by simp);exact cZ k
theorem S3[HA K]{l:List Int}(h:l.length<=9223372036854775807):K 351 [LI l] [.s (D6 l)]:=by
 refine qb I351 ?_;by_cases h0:l.length=0;simp only[D6];rw[if_pos (.inl h0)];refine wW ?_;refine Bj (λ(_:Unit)=>True) (λ_=>[LI l,.u,.s [],.n 0,.u,.u,.u]) (λ_=>0) () trivial rfl (λ_ _=>?_);exact wZ;by_cases a:40<l.length;simp only[D6];rw[if_pos (.inr a)];refine wW ?_;refine Bj (λ(_:Unit)=>True) (λ_=>[LI l,.u,.s [],.n 0,.u,.u,.u]) (λ_=>0) () trivial rfl (λ_ _=>?_);exact wZ;simp only[D6];rw[if_neg (by omega)];have f:=VR (l:=l);refine wW ?_;refine AN (λi=>0<i->BE [44] (ES l) i≠[]) (λi=>[LI l,.u,.s (BE [44] (ES l) i),.n i,.u,.u,.u]) l.length (by simp) rfl (λi hi P=>?_) (λP=>?_);have k:=XL (x:=AB l i);have e:max (-99) (min 99 (AB l i))=HU (AB l i):=by unfold HU;omega
 have c:=IH (sep:=[44]) (Y7 (l:=l)) i;have g:=Ax (n:=HU (AB l i)) (by omega);have j:=Sd (n:=HU (AB l i));have b:BE [44] (ES l) (i+1)≠[]:=by simp only[BE,Wn hi];intro q;have:=congrArg List.length q;simp only[A4,A6]at this;omega
 simp only[AO,A6]at c;by_cases H:0<i;simp(disch:=try exact dV) only[AD,e];refine cW (By (by omega)) ?_;exact⟨λ_=>b,by simp only[BE,if_pos H,Wn hi]⟩;simp(disch:=try exact dV) only[AD,e];refine cW (By (by omega)) ?_;exact⟨λ_=>b,by simp only[BE,if_neg H,Wn hi,List.append_nil]⟩;have e:(BE [44] (ES l) l.length==[])=false:=beq_eq_false_iff_ne.2 (P (by omega));simp(disch:=try exact dV) only[AD,e];simp only[glue,f]
def Ee(r:List Int):Bool:=decide (r.length=2)&&(AR 0 9 (AB r 0)&&AR 0 9 (AB r 1))
def Ct(d:List (List Int)):List (List Nat):=d.map λr=>AQ (AB r 0)++AQ (AB r 1)
def Cc(d:List (List Int)):List Nat:=if d.length=0 then [110,111,110,101]else if 20<d.length then []else if d.all Ee=true then glue [32] (Ct d)else []
theorem Tp{d:List (List Int)}:(Ct d).length=d.length:=by simp[Ct]
theorem WE{d:List (List Int)}{i:Nat}(h:i<d.length):AG (Ct d) i=AQ (AB (AF d i) 0)++AQ (AB (AF d i) 1):=by simp[AG,Ct,AF,h]
theorem Ag9{d:List (List Int)}{i:Nat}(h:i<d.length):(Ct d).take (i+1)=(Ct d).take i++[AQ (AB (AF d i) 0)++AQ (AB (AF d i) 1)]:=by rw[CP (by simpa[Ct]using h)];simp[Ct,AF,h]
theorem U2{d:List (List Int)}(h:∀j:Nat,j<d.length->Ee (AF d j)=true):d.all Ee=true:=by refine Ao.2 λx a=>?_;obtain⟨j,H,rfl⟩:=List.getElem_of_mem a;have:=h j H;simpa[AF,H]using this
theorem AOV{d:List (List Int)}{i:Nat}(hi:i<d.length)(h:Ee (AF d i)=false):d.all Ee=false:=by refine Bool.eq_false_iff.2 λq=>?_;have:=Ao.1 q (AF d i) (by simp[AF,hi]);rw[h]at this;cases this
theorem Og{r:List Int}(h:Ee r=true):r.length=2/\AR 0 9 (AB r 0)=true/\AR 0 9 (AB r 1)=true:=by simpa[Ee]using h
theorem SS[HA K]{d:List (List Int)}(h:d.length<=9223372036854775807)(f:∀r∈d,r.length<=9223372036854775807):K 354 [LL d] [.s (Cc d)]:=by
 refine qb I354 ?_;by_cases h0:d.length=0;simp only[Cc];rw[if_pos h0];exact wZ;by_cases a:20<d.length;simp only[Cc];rw[if_neg h0,if_pos a];exact wZ;simp only[Cc];rw[if_neg h0,if_neg a];have B:=Tp (d:=d);refine wW ?_;rw[Np];refine AN (λi=>∀j:Nat,j<i->Ee (AF d j)=true) (λi=>[.u,.u,LS ((Ct d).take i),.u,.u,.u,LL d,.n d.length,.n i,.u,.u]) d.length (by simp) (by simp) (λi hi P=>?_) (λP=>?_);have e:((Ct d).take i).length=i:=by simp;omega
 have l:=f _ (HO (i:=i) (m:=d) hi)
 cases hd:Ee (AF d i);rw[AOV hi hd];by_cases H:(AF d i).length=2;simp(disch:=try exact dV) only[AD,H];refine cB Bq ?_
 cases q:AR 0 9 (AB (AF d i) 0);refine wW ?_;simp;refine wW ?_;refine cB Bq ?_;have Q:AR 0 9 (AB (AF d i) 1)=false:=by simpa[Ee,H,q]using hd
 simp(disch:=try exact dV) only[AD,Q];simp;refine wW ?_;simp;obtain⟨H,q,Q⟩:=Og hd;have b1:=A5.1 q;have b2:=A5.1 Q;have L:=Ax (n:=AB (AF d i) 0) (by omega);have o:=Ax (n:=AB (AF d i) 1) (by omega);simp(disch:=try exact dV) only[AD,H];refine cB Bq ?_;simp(disch:=try exact dV) only[AD,q];refine cB Bq ?_;simp(disch:=try exact dV) only[AD,Q];refine cW (C4 (by omega)) ?_;refine cB (C4 (by omega)) ?_;simp(disch:=try exact dV) only[AD,Ag9 hi];exact Bf P hd;have e:(Ct d).take d.length=Ct d:=List.take_of_length_le (by omega);have b:∀x∈Ct d,x.length<=100000:=by intro x g;obtain⟨r,c,rfl⟩:=List.mem_map.1 g;obtain⟨H,q,Q⟩:=Og (Ao.1 (U2 P) r c);have b1:=A5.1 q;have b2:=A5.1 Q;have L:=Ax (n:=AB r 0) (by omega);have o:=Ax (n:=AB r 1) (by omega);simp only[A4];omega
 have k:=J1 (K:=K) (ws:=Ct d) (sep:=[32]) (by omega) b (by simp);rw[U2 P];simp(disch:=try exact dV) only[AD,e];exact cZ k
theorem AQV{d:List (List Int)}(h0:d.length≠0)(h:20<d.length\/d.all Ee=false):Cc d=[]:=by unfold Cc;rw[if_neg h0];split;rfl;rcases h with h|h;omega;rw[h]<;>rfl
theorem AG2[HA K]{d:List (List Int)}(h:d.length<=9223372036854775807)(x:∀r∈d,r.length<=9223372036854775807):K 352 [LL d] [.s (Cc d)]:=by
 refine qb I352 ?_;have C:=Tp (d:=d);simp(disch:=first|omega|simp only[vl];omega) only[AD];refine AN (λi=>(i=0\/d.length<=20)/\(∀j:Nat,j<i->Ee (AF d j)=true)/\(BE [32] (Ct d) i).length<=i*100/\(0<i->BE [32] (Ct d) i≠[])) (λi=>[LL d,.u,.s (BE [32] (Ct d) i),.n i,.u,.u,.u,.u]) d.length (by simp[BE]) rfl (λi hi P=>?_) (λP=>?_);obtain⟨l,g,o,G⟩:=P;have B:=x _ (HO (i:=i) (m:=d) hi)
 cases hd:Ee (AF d i);rw[AQV (by omega) (.inr (AOV hi hd))];by_cases a:(AF d i).length=2;simp(disch:=first|omega|simp only[vl];omega) only[AD,a];refine Eu (Bt (K:=K)) rfl ?_
 cases c:AR 0 9 (AB (AF d i) 0);simp(disch:=first|omega|simp only[vl];omega) only[AD];simp(disch:=first|omega|simp only[vl];omega) only[AD];refine Eu (Bt (K:=K)) rfl ?_;have Q:AR 0 9 (AB (AF d i) 1)=false:=by simpa[Ee,a,c]using hd
 simp(disch:=first|omega|simp only[vl];omega) only[AD,Q];simp(disch:=first|omega|simp only[vl];omega) only[AD];obtain⟨a,c,Q⟩:=Og hd;have b1:=A5.1 c;have b2:=A5.1 Q;have L:=Ax (n:=AB (AF d i) 0) (by omega);have F:=Ax (n:=AB (AF d i) 1) (by omega);have I:=Sd (n:=AB (AF d i) 0);simp(disch:=first|omega|simp only[vl];omega) only[AD,a];refine Eu (Bt (K:=K)) rfl ?_;simp(disch:=first|omega|simp only[vl];omega) only[AD,c];refine Eu (Bt (K:=K)) rfl ?_;by_cases k:20<d.length;rw[AQV (by omega) (.inl k)];simp(disch:=first|omega|simp only[vl];omega) only[AD,Q];have b:(BE [32] (Ct d) (i+1)).length<=(i+1)*100/\(0<i+1->BE [32] (Ct d) (i+1)≠[]):=by
  simp only[BE,WE hi,A4];have:(if 0<i then [32]else([]:List Nat)).length<=1:=by split<;>simp
  refine⟨by omega,λ_ q=>?_⟩;have:=congrArg List.length q;simp only[A4,A6]at this;omega
 by_cases H:0<i;simp(disch:=first|omega|simp only[vl];omega) only[AD,Q];refine Eu (By (K:=K) (n:=AB (AF d i) 0) (by omega)) rfl ?_;simp(disch:=first|omega|simp only[vl];omega) only[AD];refine Eu (By (K:=K) (n:=AB (AF d i) 1) (by omega)) rfl ?_;simp(disch:=first|omega|simp only[vl];omega) only[AD];exact⟨⟨by omega,Bf g hd,b.1,λ_=>b.2 (by omega)⟩,by simp only[BE,if_pos H,WE hi,CO]⟩;simp(disch:=first|omega|simp only[vl];omega) only[AD,Q];refine Eu (By (K:=K) (n:=AB (AF d i) 0) (by omega)) rfl ?_;simp(disch:=first|omega|simp only[vl];omega) only[AD];refine Eu (By (K:=K) (n:=AB (AF d i) 1) (by omega)) rfl ?_;simp(disch:=first|omega|simp only[vl];omega) only[AD];exact⟨⟨by omega,Bf g hd,b.1,λ_=>b.2 (by omega)⟩,by simp only[BE,if_neg H,WE hi,CO,List.append_nil]⟩;obtain⟨l,g,o,G⟩:=P;by_cases h0:d.length=0;have e:Cc d=[110,111,110,101]:=by unfold Cc;rw[if_pos h0]
 have f:BE [32] (Ct d) d.length=[]:=by rw[h0];rfl
 rw[e,f];simp(disch:=first|omega|simp only[vl];omega) only[AD];have e:(BE [32] (Ct d) d.length==[])=false:=beq_eq_false_iff_ne.2 (G (by omega));have f:Cc d=glue [32] (Ct d):=by unfold Cc;rw[if_neg h0,if_neg (by omega),U2 g];rfl
 rw[f];simp(disch:=first|omega|simp only[vl];omega) only[AD,e];simp only[glue,C]
end Go.Cat
