/-
 FormatClaim answers as the reference does.
-/
import Derived.Test.YthoilpmggmenbaaGreatPfCat
set_option linter.unusedSimpArgs false
set_option linter.unusedVariables false
namespace Go.Cat
variable{K:Nat->List D->List D->Prop}
def Mv:List (List Nat):=[[98,101,108,111,119],[100,105,115,116,97,110,99,101],[115,111,114,116,101,100],[117,110,115,111,114,116,101,100],[102,114,105,101,122,101],[109,101,97,110,100,101,114]]
def De(k:Int):List Nat:=if AR 1 6 k=true then AF Mv (k-1)else []
theorem ABL{a b c d e f:List Nat}:DK [.s a,.s b,.s c,.s d,.s e,.s f]=some (LS [a,b,c,d,e,f]):=rfl
theorem cw_i[HA K]{k:Int}:K 8 [.n k] [.s (De k)]:=by
 refine qw I8 ?_;refine cB Br ?_
 cases h:AR 1 6 k;refine wW ?_;simp[De,h];have:=A7.1 h;simp(disch:=try exact dV) only[AD,ABL];simp[De,h,Mv]
theorem cw_s[HA K]{k:Int}:K 7 [.n k] [.s (De k)]:=by
 refine qw I7 ?_;refine cB Bt ?_
 cases h:AR 1 6 k;refine wW ?_;simp[De,h];have:=A7.1 h;simp(disch:=try exact dV) only[AD,ABL];simp[De,h,Mv]
theorem XE{k:Int}:(De k).length<=8:=by
 unfold De;split;exact KN (b:=8) (ws:=Mv) (by decide) (i:=(k-1).toNat)|> λh=>by
  have e:AF Mv (k-1)=AF Mv ((k-1).toNat:Nat):=by simp[AF]
  rw[e];exact h
 simp
theorem Nq{l:List Int}:(D7 l).length<=1000:=by unfold D7;split;simp;have h:=IN (sep:=[44]) (X2 (l:=l)) (EX l).length;have:=W0 (l:=l);simp only[glue,AP,A5]at*;omega
theorem Y7{d:List (List Int)}:(Cc d).length<=1000:=by
 unfold Cc;split;simp;split;simp;split;rename_i _ H a;have b:∀x∈Cw d,x.length<=40:=by intro x c;obtain⟨r,h,rfl⟩:=List.mem_map.1 c;obtain⟨f,q,Q⟩:=PF (Ao.1 a r h);have b1:=A7.1 q;have b2:=A7.1 Q;have l:=Aw (n:=AB r 0) (by omega);have L:=Aw (n:=AB r 1) (by omega);simp only[AW];omega
 have e:=IN (sep:=[32]) b (Cw d).length;have:=Tk (d:=d);simp only[glue,AP,A5]at*;omega;simp
def FZ(t:List (List Nat)):Nat->List Nat
 |0=>[]
 |i+1=>FZ t i++([32]++AF t i)
theorem AGY{t:List (List Nat)}:∀i,FZ t (i+1)=[32]++BH [32] t (i+1)
 |0=>by simp[FZ,BH]
 |i+1=>by
  have e:BH [32] t (i+1+1)=BH [32] t (i+1)++[32]++AF t ((i+1:Nat):Int):=by
   show BH [32] t (i+1)++(if 0<i+1 then [32]else [])++_=_
   rw[if_pos (by omega)]
  rw[e,FZ,AGY i]
  simp only[CT]
theorem U9{t:List (List Nat)}{i:Nat}(h:∀j:Nat,j<i->Az (AF t j)=true):(FZ t i).length<=i*26:=by
 induction i with
 |zero=>simp[FZ]
 |succ i I=>
  have a:=I λj c=>h j (by omega)
  obtain⟨x,H,e⟩:=FX (h i (by omega))
  have b:=BT.tl x
  simp only[FZ,AW,AP,A5,H]
  omega
open Classical in
noncomputable def Ct(k:Int)(f:List Nat)(t:List (List Nat))(n o:List Int)(r:List (List Int)):List Nat:=
 if k=1\/k=2 then(if(1<=t.length/\t.length<=40)/\∀j:Nat,j<t.length->Az (AF t j)=true then De k++FZ t t.length else [])
 else if k=3 then(if AK f=true then De k++[32]++D7 n++[32,98,121,32]++f else [])
 else if k=5 then(if Cc r=[]then []else De k++[32]++D7 n++[32,98,121,32]++Cc r)
 else if k=4\/k=6 then De k++[32]++D7 n++[32,98,121,32]++D7 o
 else []
structure Nc(f:List Nat)(t:List (List Nat))(n o:List Int)(r:List (List Int)):Prop where
 lf:f.length<=1000000000
 ln:n.length<=1099511627776
 lo:o.length<=1099511627776
 lr:r.length<=1099511627776
 lrs:∀x∈r,x.length<=1099511627776
theorem V7[HA K]{k:Int}{f s:List Nat}{t:List (List Nat)}{n o:List Int}{r:List (List Int)}(h:Nc f t n o r):K 342 [CL k f s t n o r] [.s (Ct k f t n o r)]:=by
 obtain⟨lf,ln,lo,lr,lrs⟩:=h;have Y:=XE (k:=k);have Z:=Nq (l:=n);have w3:=Nq (l:=o);have w4:=Y7 (d:=r);refine qb I342 ?_;simp(disch:=try exact dV) only[AD,Dx,Dq,F2];refine cB cw_i ?_;by_cases H:k=1\/k=2
 .have b:Ct k f t n o r=if(1<=t.length/\t.length<=40)/\∀j:Nat,j<t.length->Az (AF t j)=true then De k++FZ t t.length else []:=if_pos H;rcases H with J|J
  all_goals
   rw[b]
   simp(disch:=try exact dV) only[AD,Dx,Dq,F2]
   refine cB Br ?_
   by_cases I:1<=t.length/\t.length<=40
   .have hi:AR 1 40 (t.length:Int)=true:=A7.2 (by omega)
    simp(disch:=try exact dV) only[AD,hi,Dx]
    refine AN (λi=>∀j:Nat,j<i->Az (AF t j)=true) (λi=>[.u,.p [.n k,.s f,.s s,LS t,LI n,LI o,LL r],.u,.s (De k),.u,.u,.u,.u,.u,LS t,.n t.length,.n i,.u,.u,.u,.u,.u,.u,.u]) t.length (by simp) rfl (λi hi P=>?_) (λP=>?_)
    .refine wW ?_
     refine cB Ka ?_
     cases B:Az (AF t i)
     .refine wW ?_
      rw[if_neg λq=>by have:=q.2 i hi;rw[B]at this;cases this]
     .refine wW ?_
      exact Bg P B
    .rw[if_pos ⟨I,P⟩]
     have c:=U9 P
     have e:FZ t t.length=[32]++glue [32] t:=by
      obtain⟨m,M⟩:∃m,t.length=m+1:=⟨t.length-1,by omega⟩
      rw[glue,M,AGY]
     rw[e]at c|-
     simp only[AW,AP,A5]at c
     have O:=JW (K:=K) (ws:=t) (sep:=[32]) (by omega) (λx F=>by
      obtain⟨j,G,rfl⟩:=List.getElem_of_mem F
      have B:=P j G
      obtain⟨y,N,W⟩:=FX B
      have V:=BT.tl y
      have e:AF t j=t[j]:=by simp[AF,G]
      rw[<-e,N];omega) (by simp)
     simp(disch:=try exact dV) only[AD,Dx]
     refine cW O ?_
     simp
   .have hi:AR 1 40 (t.length:Int)=false:=JS.2 (by omega)
    rw[if_neg λq=>I q.1]
    simp(disch:=try exact dV) only[AD,hi]
 have Q:k≠1:=λq=>H (.inl q);have R:k≠2:=λq=>H (.inr q);by_cases g:k=3;have b:Ct k f t n o r=if AK f=true then De k++[32]++D7 n++[32,98,121,32]++f else []:=by unfold Ct;rw[if_neg H,if_pos g]
 rw[b];simp(disch:=try exact dV) only[AD,Dx,Dq,F2];refine cB (Bz lf) ?_
 cases hd:AK f;exact wZ;simp(disch:=try exact dV) only[AD,Dq];exact cZ (S6 (by omega));by_cases C:k=5;have b:Ct k f t n o r=if Cc r=[]then []else De k++[32]++D7 n++[32,98,121,32]++Cc r:=by unfold Ct;rw[if_neg H,if_neg g,if_pos C]
 rw[b];simp(disch:=try exact dV) only[AD,Dx,Dq,F2];refine cB (RH (by omega) (λx F=>Nat.le_trans (lrs x F) (by omega))) ?_;by_cases hd:Cc r=[];simp(disch:=try exact dV) only[AD,hd];have e:(Cc r==[])=false:=beq_eq_false_iff_ne.2 hd;rw[if_neg hd];simp(disch:=try exact dV) only[AD,e,Dq];exact cZ (S6 (by omega));by_cases a:k=4\/k=6
 .have b:Ct k f t n o r=De k++[32]++D7 n++[32,98,121,32]++D7 o:=by unfold Ct;rw[if_neg H,if_neg g,if_neg C,if_pos a]
  rw[b];rcases a with L|L
  all_goals
   simp(disch:=try exact dV) only[AD,Dx,Dq,F2]
   refine cB (S6 (by omega)) ?_
   simp(disch:=try exact dV) only[AD,Dq]
   exact cZ (S6 (by omega))
 have b:Ct k f t n o r=[]:=by unfold Ct;rw[if_neg H,if_neg g,if_neg C,if_neg a]
 have T:k≠4:=λq=>a (.inl q);have U:k≠6:=λq=>a (.inr q);rw[b];simp(disch:=try exact dV) only[AD,Dx,Dq,F2]
theorem fc_s[HA K]{k:Int}{f s:List Nat}{t:List (List Nat)}{n o:List Int}{r:List (List Int)}(h:Nc f t n o r):K 341 [CL k f s t n o r] [.s (Ct k f t n o r)]:=by
 obtain⟨lf,ln,lo,lr,lrs⟩:=h;have W:=XE (k:=k);have V:=Nq (l:=n);have Y:=Nq (l:=o);have Z:=Y7 (d:=r);refine qb I341 ?_;simp(disch:=try exact dV) only[AD,Dx,Dq,F2];refine cB cw_s ?_;by_cases H:k=1\/k=2
 .have b:Ct k f t n o r=if(1<=t.length/\t.length<=40)/\∀j:Nat,j<t.length->Az (AF t j)=true then De k++FZ t t.length else []:=if_pos H;rcases H with F|F
  all_goals
   rw[b]
   by_cases C:1<=t.length/\t.length<=40
   .simp(disch:=try exact dV) only[AD,Dx,Dq,F2]
    refine AN (λi=>∀j:Nat,j<i->Az (AF t j)=true) (λi=>[.u,.p [.n k,.s f,.s s,LS t,LI n,LI o,LL r],.u,.s (De k++FZ t i),.n i,.u,.u,.u,.u,.u,.u,.u,.u,.u,.u,.u]) t.length (by simp) (by simp[FZ]) (λi hi P=>?_) (λP=>?_)
    .simp(disch:=try exact dV) only[AD,Dx]
     refine cB Ev ?_
     cases B:Az (AF t i)
     .refine wW ?_
      rw[if_neg λq=>by have:=q.2 i hi;rw[B]at this;cases this]
     .have J:=U9 P
      obtain⟨y,M,U⟩:=FX B
      have T:=BT.tl y
      have c:(AF t i).length<=25:=by rw[M];omega
      simp(disch:=try exact dV) only[AD,Dx]
      exact⟨Bg P B,by simp[FZ]⟩
    .rw[if_pos ⟨C,P⟩]
     simp(disch:=try exact dV) only[AD,Dx]
   .rw[if_neg λq=>C q.1]
    by_cases I:40<t.length
    .simp(disch:=try exact dV) only[AD,Dx,Dq,F2]
    .have h0:t.length=0:=by omega
     simp(disch:=try exact dV) only[AD,Dx,Dq,F2]
 have N:k≠1:=λq=>H (.inl q);have O:k≠2:=λq=>H (.inr q);by_cases c:k=3;have b:Ct k f t n o r=if AK f=true then De k++[32]++D7 n++[32,98,121,32]++f else []:=by unfold Ct;rw[if_neg H,if_pos c]
 rw[b];simp(disch:=try exact dV) only[AD,Dx,Dq,F2];refine cB (Bu lf) ?_
 cases hd:AK f;exact wZ;simp(disch:=try exact dV) only[AD,Dq];exact cZ (Sb (by omega));by_cases g:k=5;have b:Ct k f t n o r=if Cc r=[]then []else De k++[32]++D7 n++[32,98,121,32]++Cc r:=by unfold Ct;rw[if_neg H,if_neg c,if_pos g]
 rw[b];simp(disch:=try exact dV) only[AD,Dx,Dq,F2];refine cB (ANN (by omega) (λx L=>Nat.le_trans (lrs x L) (by omega))) ?_;by_cases hd:Cc r=[];simp(disch:=try exact dV) only[AD,hd];have e:(Cc r==[])=false:=beq_eq_false_iff_ne.2 hd;rw[if_neg hd];simp(disch:=try exact dV) only[AD,e,Dq];exact cZ (Sb (by omega));by_cases a:k=4\/k=6
 .have b:Ct k f t n o r=De k++[32]++D7 n++[32,98,121,32]++D7 o:=by unfold Ct;rw[if_neg H,if_neg c,if_neg g,if_pos a]
  rw[b];rcases a with G|G
  all_goals
   simp(disch:=try exact dV) only[AD,Dx,Dq,F2]
   refine cB (Sb (by omega)) ?_
   simp(disch:=try exact dV) only[AD,Dq]
   exact cZ (Sb (by omega))
 have b:Ct k f t n o r=[]:=by unfold Ct;rw[if_neg H,if_neg c,if_neg g,if_neg a]
 have Q:k≠4:=λq=>a (.inl q);have R:k≠6:=λq=>a (.inr q);rw[b];simp(disch:=try exact dV) only[AD,Dx,Dq,F2]
end Go.Cat
namespace Go.Cat
variable{K:Nat->List D->List D->Prop}
set_option maxRecDepth 100000
def Hz(v:List Nat):List Nat:=if v=[]then [110,111]else v
theorem Ph[HA K]{v:List Nat}:K 680 [.s v] [.s (Hz v)]:=by refine qb I680 ?_;by_cases h:v=[];subst h;simp(disch:=try exact dV) only[AD];rfl;simp(disch:=try exact dV) only[AD,show(v==([]:List Nat))=false by simpa using h];simp[Hz,h]
theorem PM[HA K]{v:List Nat}:K 684 [.s v] [.s (Hz v)]:=by refine qb I684 ?_;by_cases h:v=[];subst h;simp(disch:=try exact dV) only[AD];rfl;simp(disch:=try exact dV) only[AD,show(v==([]:List Nat))=false by simpa using h];simp[Hz,h]
theorem AHD[HA K]{s:List Nat}{b:Nat}(h:s.length<=1000000000):K 673 [.s s,.y b] [LS (AO b s)]:=by refine qb I673 ?_;simp(disch:=try exact dV) only[AD,Vj];refine Ah (λi (x:List (List Nat)×List Nat)=>x.2.length<=i/\x.1.length<=i/\AO b s=x.1++C5 b x.2 (s.drop i)) (λi x=>[.s s,.y b,.u,LS x.1,.s x.2,.n i,.u,.u]) s.length ([],[]) ⟨by simp,by simp,by simp[AO]⟩ rfl (λi x hi P=>?_) (λx P=>?_);obtain⟨o,f⟩:=x;obtain⟨a,e,H⟩:=P;simp only at a e H;rw[S5 hi]at H;by_cases c:AH s i=b;rw[if_pos c]at H;simp(disch:=try exact dV) only[AD,c,M6];refine⟨(o++[f],[]),⟨by simp,by simp;omega,?_⟩,rfl⟩;rw[H];simp;rw[if_neg c]at H;simp(disch:=try exact dV) only[AD,c,Tv hi];exact⟨(o,f++[AH s i]),⟨by simp;omega,by simp;omega,H⟩,rfl⟩;obtain⟨o,f⟩:=x;obtain⟨a,e,H⟩:=P;simp only at a e H;simp(disch:=try exact dV) only[AD,M6];rw[H,List.drop_length]<;>rfl
def CP(s:List Nat):List Nat:=s.map λc=>if c=95 then 32 else c
theorem AhJ[HA K]{s:List Nat}(h:s.length<=1000000000):K 683 [.s s] [.s (CP s)]:=by
 refine qw I683 ?_;refine AN (λ_=>True) (λi=>[.s s,.u,.s (CP (s.take i)),.n i,.u,.u]) s.length trivial (by simp[CP]) (λi hi _=>?_) (λ_=>?_);have e:CP (s.take (i+1))=CP (s.take i)++[if AH s i=95 then 32 else AH s i]:=by rw[FE hi];simp[CP]
 have l:(CP (s.take i)).length<=s.length:=by simp[CP];omega
 by_cases c:AH s i=95;rw[if_pos c]at e;simp(disch:=try exact dV) only[AD,c];rw[e];rw[if_neg c]at e;simp(disch:=try exact dV) only[AD,c,Tv hi];rw[e];rw[List.take_length];exact wZ
theorem AeL[HA K]{s:List Nat}(h:s.length<=1000000):K 686 [.s s] [LI (Bp (AO 44 s)),.b (Cm (AO 44 s))]:=by
 have f:∀p∈AO 44 s,p.length<=1000000:=λp H=>by have:=MA H;simp only[A5]at this;omega
 have l:=(Gn (b:=44) (s:=s) (acc:=[])).2;refine qw I686 ?_;refine cB (Mc (by omega)) ?_;change (AO 44 s).length<=s.length+1 at l;generalize AO 44 s=ws at*;simp(disch:=try exact dV) only[AD,AC7];refine AN (λi=>∀j,j<i->C7 (AF ws j)=true) (λi=>[.u,.u,.u,LI ((ws.take i).map pV),.u,.u,.u,LS ws,.n ws.length,.n i,.u,.u]) ws.length (by intro j a;omega) rfl (λi hi P=>?_) (λP=>?_)
 .have o:ws=ws.take i++AF ws i::ws.drop (i+1):=by
   rw[show AF ws i=ws[i] by simp[AF,hi]]
   simp
  have g:=f (AF ws i) (by simp[AF,hi])
  have c:(ws.take (i+1)).map pV=(ws.take i).map pV++[pV (AF ws i)]:=by
   rw[CQ hi,List.map_append];simp[AF,hi]
  have k:((ws.take i).map pV).length<=ws.length:=by simp;omega
  refine wW ?_
  refine cB (Ng (by omega)) ?_
  cases H:C7 (AF ws i)with
  |true=>
   simp(disch:=try exact dV) only[AD,WT H]
   refine⟨λj a=>?_,by rw[c]⟩
   by_cases e:j=i
   .rw[e];exact H
   .exact P j (by omega)
  |false=>
   have q:Cm ws=false:=by rw[o];exact We (by simp[H])
   refine wW ?_
   rw[ZH q,q]
   try exact⟨rfl,rfl⟩
 have q:Cm ws=true:=by simp only[Cm,Ao];intro p H;obtain⟨j,a,rfl⟩:=List.mem_iff_getElem.1 H;have:=P j a;simpa[AF,a]using this
 refine wW ?_;rw[List.take_length];simp[Bp,q]
theorem AUA{k:Int}{f:List Nat}{t:List (List Nat)}{n o:List Int}{r:List (List Int)}:(Ct k f t n o r).length<=100000:=by
 have H:=XE (k:=k);have a:=Nq (l:=n);have b:=Nq (l:=o);have c:=Y7 (d:=r);unfold Ct;split;split;rename_i h;have:=U9 (t:=t) (i:=t.length) h.2;simp only[AW];omega;simp;split;split;rename_i h;have:f.length<=16:=by simp[AK]at h;exact h.2
 simp only[AW,AP,A5];omega;simp;split;split;simp;simp only[AW,AP,A5];omega;split;simp only[AW,AP,A5];omega;simp
end Go.Cat
namespace Go.Cat
variable{K:Nat->List D->List D->Prop}
def Dj(c:Nat):List Nat->Nat
 |[]=>0
 |x::l=>if x=c then Dj c l+1 else 0
theorem LV{c:Nat}:∀l:List Nat,Dj c l<=l.length
 |[]=>Nat.le_refl _
 |x::l=>by have:=LV (c:=c) l;unfold Dj;split<;>simp only[AP]<;>omega
theorem PW{c:Nat}:∀{l:List Nat}{i:Nat},i<l.length->(i<Dj c l->AH l i=c)/\(i=Dj c l->AH l i≠c)
 |[],i,h=>by simp at h
 |x::l,0,_=>by
  have e:AH (x::l) ((0:Nat):Int)=x:=by simp[AH]
  rw[e];unfold Dj;split;rename_i H;exact⟨λ_=>H,λq=>by omega⟩;rename_i H;exact⟨λq=>by omega,λ_=>H⟩
 |x::l,i+1,h=>by
  have e:AH (x::l) ((i+1:Nat):Int)=AH l i:=by simp[AH]
  rw[e];have I:=PW (c:=c) (l:=l) (i:=i) (by simpa using h);unfold Dj;split;exact⟨λq=>I.1 (by omega),λq=>I.2 (by omega)⟩;exact⟨λq=>by omega,λq=>by omega⟩
theorem ACC{w:List Nat}{i:Nat}(h:i<w.length):AH w.reverse i=AH w ((w.length:Int)-1-i):=by
 have e:((w.length:Int)-1-i).toNat=w.length-1-i:=by omega
 simp only[AH,BM,e,Ap,List.getElem?_reverse h]
theorem AeI[HA K]{w:List Nat}(h:w.length<=16):K 295 [.s w,.b false] [.n (Dj 117 w)]:=by have e:=LV (c:=117) w;refine qw AGT ?_;refine Bd (λ(x:Nat)=>x<=Dj 117 w) (λx=>[.s w,.b false,.u,.n x,.u]) (λx=>Dj 117 w-x) 0 (by omega) rfl ?_;intro x f;by_cases l:x<w.length;have a:=PW (c:=117) l;by_cases H:x<Dj 117 w;simp(disch:=omega) only[AD,a.1 H];exact⟨x+1,by omega,by omega,by simp⟩;have:=a.2 (by omega);refine wW ?_;exact Dn (by omega);refine wW ?_;exact Dn (by omega)
theorem AgA[HA K]{w:List Nat}(h:w.length<=16):K 295 [.s w,.b true] [.n (Dj 100 w.reverse)]:=by have f:=LV (c:=100) w.reverse;rw[List.length_reverse]at f;refine qw AGT ?_;refine Bd (λ(x:Nat)=>x<=Dj 100 w.reverse) (λx=>[.s w,.b true,.u,.n x,.u]) (λx=>Dj 100 w.reverse-x) 0 (by omega) rfl ?_;intro x g;by_cases H:x<w.length;have a:=PW (c:=100) (l:=w.reverse) (i:=x) (by simpa using H);rw[ACC H]at a;by_cases e:x<Dj 100 w.reverse;simp(disch:=omega) only[AD,a.1 e];exact⟨x+1,by omega,by omega,by simp⟩;have:=a.2 (by omega);refine wW ?_;exact Dn (by omega);refine wW ?_;exact Dn (by omega)
def Cv(w:List Nat):List Nat:=w.map (GF 117 40 41)
theorem Ok{w:List Nat}:(Cv w).length=w.length:=by simp[Cv]
theorem WO:∀{w:List Nat},IC w=true->only 40 41 (Cv w)=true
 |[],_=>rfl
 |c::w,h=>by rw[Pn,AV,Ac]at h;have:=WO (w:=w) h.2;simp only[Cv,List.map_cons,AG4,AV,Ac];refine⟨?_,this⟩;unfold GF;split<;>simp
theorem WZ:∀{w:List Nat},IC w=true->(Cv w).map (GF 40 117 100)=w
 |[],_=>rfl
 |c::w,h=>by rw[Pn,AV,Ac]at h;have:=WZ (w:=w) h.2;simp only[Cv,List.map_cons]at this|-;rw[this];rcases h.1 with rfl|rfl<;>rfl
theorem AI5[HA K]{w:List Nat}(hd:AK w=true):K 508 [.s w] [.s (Cv w),.b true]:=by
 have H:=(Af hd).l;have h:=Pj hd;have k:=Wq (K:=K) (w:=w) (a:=117) (b:=100) (c:=40) (d:=41) (by omega) (by omega) (by omega);rw[AWT,h]at k;simp only[if_true]at k;refine qw I508 ?_;repeat(refine cB (Bz (by omega)) ?_;try simp(disch:=omega) only[AD,hd])
 exact cZ k
theorem pb_i[HA K]{w:List Nat}(hd:AK w=true):K 515 [.s (Cv w)] [.s w,.b true]:=by have e:=(Af hd).l;have h:=Pj hd;have H:=Ok (w:=w);have k:=Wq (K:=K) (w:=Cv w) (a:=40) (b:=41) (c:=117) (d:=100) (by omega) (by omega) (by omega);rw[WO h,WZ h]at k;simp only[if_true]at k;refine qw AA3 ?_;refine cW k ?_;repeat(refine cB (Bz (by omega)) ?_;try simp(disch:=omega) only[AD,hd])
theorem Z9{w:List Nat}{i:Nat}(h:i<w.length):AH (Cv w) i=GF 117 40 41 (AH w i):=by simp[AH,Cv,h]
theorem XL{w:List Nat}{i:Nat}(h:i<w.length):w.take (i+1)=w.take i++[AH w i]:=by rw[CQ h];simp[AH,h]
theorem Ze[HA K]{w:List Nat}(hd:AK w=true):K 297 [.s w] [.s (Cv w),.b true]:=by
 have H:=Af hd;have f:=H.l;have c:=Ok (w:=w);refine qw I297 ?_;refine AN (λ_=>True) (λi=>[.s w,.u,.u,.s ((Cv w).take i),.n i,.u,.u]) w.length trivial (by simp) (λi hi _=>?_) (λ_=>?_)
 .have a:((Cv w).take i).length=i:=by simp;omega
  have e:=XL (w:=Cv w) (i:=i) (by omega);rw[Z9 hi]at e;rw[e];rcases H.ud i hi with h|h
  .refine wW ?_;repeat(refine cB (Bu (by omega)) ?_;try simp(disch:=try exact dV) only[AD,hd,h])
   rfl
  refine wW ?_;repeat(refine cB (Bu (by omega)) ?_;try simp(disch:=try exact dV) only[AD,hd,h])
  rfl
 have a:(Cv w).take w.length=Cv w:=List.take_of_length_le (by omega);rw[a];refine wW ?_;repeat(refine cB (Bu (by omega)) ?_;try simp(disch:=try exact dV) only[AD,hd])
theorem pb_s[HA K]{w:List Nat}(hd:AK w=true):K 320 [.s (Cv w)] [.s w,.b true]:=by
 have H:=Af hd;have c:=H.l;have a:=Ok (w:=w);refine qw ALQ ?_;refine AN (λ_=>True) (λi=>[.s (Cv w),.u,.u,.s (w.take i),.n i,.u,.u,.u,.u,.u]) w.length trivial (by simp) (λi hi _=>?_) (λ_=>?_);have f:(w.take i).length=i:=by simp;omega
 have e:=Z9 hi;rw[XL hi];rcases H.ud i hi with h|h;rw[h]at e|-;have e:AH (Cv w) i=40:=e;simp(disch:=try exact dV) only[AD,e];rw[h]at e|-;have e:AH (Cv w) i=41:=e;simp(disch:=try exact dV) only[AD,e];rw[List.take_length];refine wW ?_;repeat(refine cB (Bu (by omega)) ?_;try simp(disch:=try exact dV) only[AD,hd])
def GQ(w:List Nat):Nat->Int
 |0=>0
 |i+1=>max (GQ w i) (Hh w i)
theorem dp_i[HA K]{w:List Nat}(hd:AK w=true):K 509 [.s (Cv w)] [.n (GQ w (w.length+1))]:=by have H:=(Af hd).l;have h:=JF (w:=w);refine qw I509 ?_;refine cW (pb_i hd) ?_;refine cB (RV hd) ?_;simp(disch:=omega) only[AD,h];refine AN (λ_=>True) (λi=>[.u,.u,.u,.u,.n (GQ w i),.u,.u,LI (hL w),.n (w.length+1:Nat),.n i,.u]) (w.length+1) trivial (by simp[GQ]) (λi hi _=>?_) (λ_=>?_);have e:=I4 (w:=w) (i:=i) (by omega);simp(disch:=omega) only[AD,h,e];simp only[GQ];exact wZ
theorem dp_s[HA K]{w:List Nat}(hd:AK w=true):K 298 [.s (Cv w)] [.n (GQ w (w.length+1))]:=by have H:=(Af hd).l;have h:=JF (w:=w);refine qw I298 ?_;refine cW (pb_s hd) ?_;refine cW (Yc hd) ?_;refine AN (λ_=>True) (λi=>[.u,.u,.u,.u,LI (hL w),.n (GQ w i),.n i,.u,.u]) (w.length+1) trivial (by simp[GQ]) (λi hi _=>?_) (λ_=>?_);have e:=I4 (w:=w) (i:=i) (by omega);simp(disch:=omega) only[AD,h,e];simp only[GQ];simp(disch:=omega) only[AD,h]
theorem Zm{w:List Nat}:∀i:Nat,0<=GQ w i/\GQ w i<=i
 |0=>by simp[GQ]
 |i+1=>by have:=Zm (w:=w) i;have:=Gx (w:=w) (i:=i);simp only[GQ];omega
end Go.Cat
namespace Go.Cat
variable{K:Nat->List D->List D->Prop}
def Jo(p:List Int)(i:Nat):Prop:=∀j:Nat,j<i->AR 0 ((p.length:Int)-1) (AB p j)=true/\∀k:Nat,k<j->AB p k≠AB p j
instance{p:List Int}{i:Nat}:Decidable (Jo p i):=by unfold Jo;infer_instance
def Cb(p:List Int):Bool:=decide (p.length<=8)&&decide (Jo p p.length)
theorem RJ{p:List Int}(h:¬Jo p p.length):Cb p=false:=by simp[Cb,h]
theorem Qb{p:List Int}(h:Cb p=true):p.length<=8/\Jo p p.length:=by simpa[Cb]using h
theorem Pc[HA K]{p:List Int}(h:p.length<=1099511627776):K 74 [LI p] [.b (Cb p)]:=by
 refine qb I74 ?_;by_cases I:p.length<=8
 .refine wW ?_;refine Ah (λi (s:List Bool)=>s.length=p.length/\Jo p i/\∀x:Nat,x<p.length->(CU s x=true↔∃j:Nat,j<i/\AB p j=x)) (λi s=>[LI p,.u,LT s,.u,.u,LI p,.n p.length,.n i,.u,.u]) p.length (rep p.length false) ⟨by simp[rep],by simp[Jo],by intro x F;simp[CU,rep,F]⟩ rfl (λi s hi P=>?_) (λs P=>?_)
  .obtain⟨G,l,o⟩:=P;refine wW ?_
   cases c:AR 0 ((p.length:Int)-1) (AB p i)
   .repeat(refine cB Br ?_;try simp(disch:=omega) only[AD,c])
    rw[RJ λq=>by have:=(q i hi).1;rw[c]at this;cases this]
   have J:=A7.1 c;obtain⟨n,a⟩:=CJ J.1;have C:n<p.length:=by omega
   have g:=o n C
   cases f:CU s (AB p i)
   .repeat(refine cB Br ?_;try simp(disch:=omega) only[AD,c,f])
    refine⟨_,⟨by rw[G4,G],Bg l ⟨c,λk L e=>?_⟩,λx F=>?_⟩,rfl⟩;rw[a]at f;have:=g.2 ⟨k,L,by rw[e,a]⟩;rw[f]at this;cases this;rw[a,AOM (by omega)];split;rename_i e;subst e;simp only[true_iff];exact⟨i,by omega,a⟩;rename_i e;rw[o x F];constructor;rintro⟨j,B,H⟩;exact⟨j,by omega,H⟩;rintro⟨j,B,H⟩;refine⟨j,?_,H⟩;rcases BQ j i with q|q;exact q;obtain rfl:j=i:=by omega
    rw[a]at H;omega
   repeat(refine cB Br ?_;try simp(disch:=omega) only[AD,c,f])
   rw[a]at f;obtain⟨j,B,H⟩:=g.1 f;rw[RJ λq=>(q i hi).2 j B (by rw[H,a])]
  obtain⟨G,l,o⟩:=P;refine wW ?_;simp[Cb,I,l]
 refine wW ?_;simp[Cb,I]
theorem Mh[HA K]{p:List Int}(h:p.length<=1099511627776):K 73 [LI p] [.b (Cb p)]:=by
 refine qw I73 ?_;refine AN (λi=>Jo p i) (λi=>[LI p,.u,.n i,.u,.u,.u,.u,.u]) p.length (by simp[Jo]) rfl (λi hi P=>?_) (λP=>?_)
 .refine wW ?_
  cases hr:AR 0 ((p.length:Int)-1) (AB p i)
  .repeat(refine cB Bt ?_;try simp(disch:=omega) only[AD,hr])
   rw[RJ λq=>by have:=(q i hi).1;rw[hr]at this;cases this]
  repeat(refine cB Bt ?_;try simp(disch:=omega) only[AD,hr])
  refine AN (λk=>∀j:Nat,j<k->AB p j≠AB p i) (λk=>[LI p,.u,.n i,.n k,.u,.u,.u,.u]) i (by simp) rfl (λk H Q=>?_) (λQ=>?_);by_cases he:AB p k=AB p i;refine wW ?_;rw[RJ λq=>(q i hi).2 k H he];refine wW ?_;exact Bg Q he;refine wW ?_;exact Bg P ⟨hr,Q⟩
 by_cases l:p.length<=8;refine wW ?_;simp[Cb,P,l];refine wW ?_;simp[Cb,l]
theorem Px[HA K]{p:List Int}(h:p.length<=1000000000):K 75 [LI p] [LI p]:=by refine qb I75 ?_;simp(disch:=try exact dV) only[AD,Eb]
end Go.Cat
namespace Go.Cat
variable{K:Nat->List D->List D->Prop}
theorem LA{t:List Int}{y:Int}:AB (t++[y]) t.length=y:=by simp[AB]
theorem MG{t:List Int}{y:Int}:sub (t++[y]) 0 t.length=t:=by simp[sub]
end Go.Cat
