/-
 FormatClaim answers as the reference does.
-/
import Derived.Test.YthoilpmggmenbaaGreatPfDraw
set_option linter.unusedSimpArgs false
set_option linter.unusedVariables false
namespace Go.Cat
variable{K:Nat->List D->List D->Prop}
def NX:List (List Nat):=[[98,101,108,111,119],[100,105,115,116,97,110,99,101],[115,111,114,116,101,100],[117,110,115,111,114,116,101,100],[102,114,105,101,122,101],[109,101,97,110,100,101,114]]
def Da(k:Int):List Nat:=if AR 1 6 k=true then AG NX (k-1)else []
theorem AQD{a b c d e f:List Nat}:Dv [.s a,.s b,.s c,.s d,.s e,.s f]=some (LS [a,b,c,d,e,f]):=rfl
theorem cw_i[HA K]{k:Int}:K 8 [.n k] [.s (Da k)]:=by
 refine qw I8 ?_;refine cB Bq ?_
 cases h:AR 1 6 k;refine wW ?_;simp[Da,h];have:=A5.1 h;simp(disch:=try exact dV) only[AD,AQD];simp[Da,h,NX]
theorem cw_s[HA K]{k:Int}:K 7 [.n k] [.s (Da k)]:=by
 refine qw I7 ?_;refine cB Bt ?_
 cases h:AR 1 6 k;refine wW ?_;simp[Da,h];have:=A5.1 h;simp(disch:=try exact dV) only[AD,AQD];simp[Da,h,NX]
theorem YO{k:Int}:(Da k).length<=8:=by
 unfold Da;split;exact KB (b:=8) (ws:=NX) (by decide) (i:=(k-1).toNat)|> λh=>by
  have e:AG NX (k-1)=AG NX ((k-1).toNat:Nat):=by simp[AG]
  rw[e];exact h
 simp
theorem Mu{l:List Int}:(D6 l).length<=1000:=by unfold D6;split;simp;have h:=IH (sep:=[44]) (Y7 (l:=l)) (ES l).length;have:=VR (l:=l);simp only[glue,AO,A6]at*;omega
theorem Wz{d:List (List Int)}:(Cc d).length<=1000:=by
 unfold Cc;split;simp;split;simp;split;rename_i _ H a;have b:∀x∈Ct d,x.length<=40:=by intro x c;obtain⟨r,h,rfl⟩:=List.mem_map.1 c;obtain⟨f,q,Q⟩:=Og (Ao.1 a r h);have b1:=A5.1 q;have b2:=A5.1 Q;have l:=Ax (n:=AB r 0) (by omega);have L:=Ax (n:=AB r 1) (by omega);simp only[A4];omega
 have e:=IH (sep:=[32]) b (Ct d).length;have:=Tp (d:=d);simp only[glue,AO,A6]at*;omega;simp
def FZ(t:List (List Nat)):Nat->List Nat
 |0=>[]
 |i+1=>FZ t i++([32]++AG t i)
theorem ALW{t:List (List Nat)}:∀i,FZ t (i+1)=[32]++BE [32] t (i+1)
 |0=>by simp[FZ,BE]
 |i+1=>by
  have e:BE [32] t (i+1+1)=BE [32] t (i+1)++[32]++AG t ((i+1:Nat):Int):=by
   show BE [32] t (i+1)++(if 0<i+1 then [32]else [])++_=_
   rw[if_pos (by omega)]
  rw[e,FZ,ALW i]
  simp only[CO]
theorem VV{t:List (List Nat)}{i:Nat}(h:∀j:Nat,j<i->Az (AG t j)=true):(FZ t i).length<=i*26:=by
 induction i with
 |zero=>simp[FZ]
 |succ i I=>
  have a:=I λj c=>h j (by omega)
  obtain⟨x,H,e⟩:=FL (h i (by omega))
  have b:=BT.tl x
  simp only[FZ,A4,AO,A6,H]
  omega
open Classical in
noncomputable def Cu(k:Int)(f:List Nat)(t:List (List Nat))(n o:List Int)(r:List (List Int)):List Nat:=
 if k=1\/k=2 then(if(1<=t.length/\t.length<=40)/\∀j:Nat,j<t.length->Az (AG t j)=true then Da k++FZ t t.length else [])
 else if k=3 then(if AK f=true then Da k++[32]++D6 n++[32,98,121,32]++f else [])
 else if k=5 then(if Cc r=[]then []else Da k++[32]++D6 n++[32,98,121,32]++Cc r)
 else if k=4\/k=6 then Da k++[32]++D6 n++[32,98,121,32]++D6 o
 else []
structure Mb(f:List Nat)(t:List (List Nat))(n o:List Int)(r:List (List Int)):Prop where
 lf:f.length<=1000000000
 ln:n.length<=1099511627776
 lo:o.length<=1099511627776
 lr:r.length<=1099511627776
 lrs:∀x∈r,x.length<=1099511627776
theorem X8[HA K]{k:Int}{f s:List Nat}{t:List (List Nat)}{n o:List Int}{r:List (List Int)}(h:Mb f t n o r):K 342 [CL k f s t n o r] [.s (Cu k f t n o r)]:=by
 obtain⟨lf,ln,lo,lr,lrs⟩:=h;have Y:=YO (k:=k);have Z:=Mu (l:=n);have w3:=Mu (l:=o);have w4:=Wz (d:=r);refine qb I342 ?_;simp(disch:=try exact dV) only[AD,EC,Dq,F3];refine cB cw_i ?_;by_cases H:k=1\/k=2
 .have b:Cu k f t n o r=if(1<=t.length/\t.length<=40)/\∀j:Nat,j<t.length->Az (AG t j)=true then Da k++FZ t t.length else []:=if_pos H;rcases H with J|J
  all_goals
   rw[b]
   simp(disch:=try exact dV) only[AD,EC,Dq,F3]
   refine cB Bq ?_
   by_cases I:1<=t.length/\t.length<=40
   .have hi:AR 1 40 (t.length:Int)=true:=A5.2 (by omega)
    simp(disch:=try exact dV) only[AD,hi,EC]
    refine AN (λi=>∀j:Nat,j<i->Az (AG t j)=true) (λi=>[.u,.p [.n k,.s f,.s s,LS t,LI n,LI o,LL r],.u,.s (Da k),.u,.u,.u,.u,.u,LS t,.n t.length,.n i,.u,.u,.u,.u,.u,.u,.u]) t.length (by simp) rfl (λi hi P=>?_) (λP=>?_)
    .refine wW ?_
     refine cB Jk ?_
     cases B:Az (AG t i)
     .refine wW ?_
      rw[if_neg λq=>by have:=q.2 i hi;rw[B]at this;cases this]
     .refine wW ?_
      exact Bf P B
    .rw[if_pos ⟨I,P⟩]
     have c:=VV P
     have e:FZ t t.length=[32]++glue [32] t:=by
      obtain⟨m,M⟩:∃m,t.length=m+1:=⟨t.length-1,by omega⟩
      rw[glue,M,ALW]
     rw[e]at c|-
     simp only[A4,AO,A6]at c
     have O:=J1 (K:=K) (ws:=t) (sep:=[32]) (by omega) (λx F=>by
      obtain⟨j,G,rfl⟩:=List.getElem_of_mem F
      have B:=P j G
      obtain⟨y,N,W⟩:=FL B
      have V:=BT.tl y
      have e:AG t j=t[j]:=by simp[AG,G]
      rw[<-e,N];omega) (by simp)
     simp(disch:=try exact dV) only[AD,EC]
     refine cW O ?_
     simp
   .have hi:AR 1 40 (t.length:Int)=false:=JB.2 (by omega)
    rw[if_neg λq=>I q.1]
    simp(disch:=try exact dV) only[AD,hi]
 have Q:k≠1:=λq=>H (.inl q);have R:k≠2:=λq=>H (.inr q);by_cases g:k=3;have b:Cu k f t n o r=if AK f=true then Da k++[32]++D6 n++[32,98,121,32]++f else []:=by unfold Cu;rw[if_neg H,if_pos g]
 rw[b];simp(disch:=try exact dV) only[AD,EC,Dq,F3];refine cB (Bv lf) ?_
 cases hd:AK f;exact wZ;simp(disch:=try exact dV) only[AD,Dq];exact cZ (RY (by omega));by_cases C:k=5;have b:Cu k f t n o r=if Cc r=[]then []else Da k++[32]++D6 n++[32,98,121,32]++Cc r:=by unfold Cu;rw[if_neg H,if_neg g,if_pos C]
 rw[b];simp(disch:=try exact dV) only[AD,EC,Dq,F3];refine cB (SS (by omega) (λx F=>Nat.le_trans (lrs x F) (by omega))) ?_;by_cases hd:Cc r=[];simp(disch:=try exact dV) only[AD,hd];have e:(Cc r==[])=false:=beq_eq_false_iff_ne.2 hd;rw[if_neg hd];simp(disch:=try exact dV) only[AD,e,Dq];exact cZ (RY (by omega));by_cases a:k=4\/k=6
 .have b:Cu k f t n o r=Da k++[32]++D6 n++[32,98,121,32]++D6 o:=by unfold Cu;rw[if_neg H,if_neg g,if_neg C,if_pos a]
  rw[b];rcases a with L|L
  all_goals
   simp(disch:=try exact dV) only[AD,EC,Dq,F3]
   refine cB (RY (by omega)) ?_
   simp(disch:=try exact dV) only[AD,Dq]
   exact cZ (RY (by omega))
 have b:Cu k f t n o r=[]:=by unfold Cu;rw[if_neg H,if_neg g,if_neg C,if_neg a]
 have T:k≠4:=λq=>a (.inl q);have U:k≠6:=λq=>a (.inr q);rw[b];simp(disch:=try exact dV) only[AD,EC,Dq,F3]
theorem fc_s[HA K]{k:Int}{f s:List Nat}{t:List (List Nat)}{n o:List Int}{r:List (List Int)}(h:Mb f t n o r):K 341 [CL k f s t n o r] [.s (Cu k f t n o r)]:=by
 obtain⟨lf,ln,lo,lr,lrs⟩:=h;have W:=YO (k:=k);have V:=Mu (l:=n);have Y:=Mu (l:=o);have Z:=Wz (d:=r);refine qb I341 ?_;simp(disch:=try exact dV) only[AD,EC,Dq,F3];refine cB cw_s ?_;by_cases H:k=1\/k=2
 .have b:Cu k f t n o r=if(1<=t.length/\t.length<=40)/\∀j:Nat,j<t.length->Az (AG t j)=true then Da k++FZ t t.length else []:=if_pos H;rcases H with F|F
  all_goals
   rw[b]
   by_cases C:1<=t.length/\t.length<=40
   .simp(disch:=try exact dV) only[AD,EC,Dq,F3]
    refine AN (λi=>∀j:Nat,j<i->Az (AG t j)=true) (λi=>[.u,.p [.n k,.s f,.s s,LS t,LI n,LI o,LL r],.u,.s (Da k++FZ t i),.n i,.u,.u,.u,.u,.u,.u,.u,.u,.u,.u,.u]) t.length (by simp) (by simp[FZ]) (λi hi P=>?_) (λP=>?_)
    .simp(disch:=try exact dV) only[AD,EC]
     refine cB Ez ?_
     cases B:Az (AG t i)
     .refine wW ?_
      rw[if_neg λq=>by have:=q.2 i hi;rw[B]at this;cases this]
     .have J:=VV P
      obtain⟨y,M,U⟩:=FL B
      have T:=BT.tl y
      have c:(AG t i).length<=25:=by rw[M];omega
      simp(disch:=try exact dV) only[AD,EC]
      exact⟨Bf P B,by simp[FZ]⟩
    .rw[if_pos ⟨C,P⟩]
     simp(disch:=try exact dV) only[AD,EC]
   .rw[if_neg λq=>C q.1]
    by_cases I:40<t.length
    .simp(disch:=try exact dV) only[AD,EC,Dq,F3]
    .have h0:t.length=0:=by omega
     simp(disch:=try exact dV) only[AD,EC,Dq,F3]
 have N:k≠1:=λq=>H (.inl q);have O:k≠2:=λq=>H (.inr q);by_cases c:k=3;have b:Cu k f t n o r=if AK f=true then Da k++[32]++D6 n++[32,98,121,32]++f else []:=by unfold Cu;rw[if_neg H,if_pos c]
 rw[b];simp(disch:=try exact dV) only[AD,EC,Dq,F3];refine cB (Br lf) ?_
 cases hd:AK f;exact wZ;simp(disch:=try exact dV) only[AD,Dq];exact cZ (S3 (by omega));by_cases g:k=5;have b:Cu k f t n o r=if Cc r=[]then []else Da k++[32]++D6 n++[32,98,121,32]++Cc r:=by unfold Cu;rw[if_neg H,if_neg c,if_pos g]
 rw[b];simp(disch:=try exact dV) only[AD,EC,Dq,F3];refine cB (AG2 (by omega) (λx L=>Nat.le_trans (lrs x L) (by omega))) ?_;by_cases hd:Cc r=[];simp(disch:=try exact dV) only[AD,hd];have e:(Cc r==[])=false:=beq_eq_false_iff_ne.2 hd;rw[if_neg hd];simp(disch:=try exact dV) only[AD,e,Dq];exact cZ (S3 (by omega));by_cases a:k=4\/k=6
 .have b:Cu k f t n o r=Da k++[32]++D6 n++[32,98,121,32]++D6 o:=by unfold Cu;rw[if_neg H,if_neg c,if_neg g,if_pos a]
  rw[b];rcases a with G|G
  all_goals
   simp(disch:=try exact dV) only[AD,EC,Dq,F3]
   refine cB (S3 (by omega)) ?_
   simp(disch:=try exact dV) only[AD,Dq]
   exact cZ (S3 (by omega))
 have b:Cu k f t n o r=[]:=by unfold Cu;rw[if_neg H,if_neg c,if_neg g,if_neg a]
 have Q:k≠4:=λq=>a (.inl q);have R:k≠6:=λq=>a (.inr q);rw[b];simp(disch:=try exact dV) only[AD,EC,Dq,F3]
end Go.Cat
namespace Go.Cat
variable{K:Nat->List D->List D->Prop}
set_option maxRecDepth 100000
def IE(v:List Nat):List Nat:=if v=[]then [110,111]else v
theorem OJ[HA K]{v:List Nat}:K 680 [.s v] [.s (IE v)]:=by refine qb I680 ?_;by_cases h:v=[];subst h;simp(disch:=try exact dV) only[AD];rfl;simp(disch:=try exact dV) only[AD,show(v==([]:List Nat))=false by simpa using h];simp[IE,h]
theorem P1[HA K]{v:List Nat}:K 684 [.s v] [.s (IE v)]:=by refine qb I684 ?_;by_cases h:v=[];subst h;simp(disch:=try exact dV) only[AD];rfl;simp(disch:=try exact dV) only[AD,show(v==([]:List Nat))=false by simpa using h];simp[IE,h]
theorem AQU[HA K]{s:List Nat}{b:Nat}(h:s.length<=1000000000):K 673 [.s s,.y b] [LS (AP b s)]:=by refine qb I673 ?_;simp(disch:=try exact dV) only[AD,UX];refine Aj (λi (x:List (List Nat)×List Nat)=>x.2.length<=i/\x.1.length<=i/\AP b s=x.1++DN b x.2 (s.drop i)) (λi x=>[.s s,.y b,.u,LS x.1,.s x.2,.n i,.u,.u]) s.length ([],[]) ⟨by simp,by simp,by simp[AP]⟩ rfl (λi x hi P=>?_) (λx P=>?_);obtain⟨o,f⟩:=x;obtain⟨a,e,H⟩:=P;simp only at a e H;rw[Ry hi]at H;by_cases c:AH s i=b;rw[if_pos c]at H;simp(disch:=try exact dV) only[AD,c,Nh];refine⟨(o++[f],[]),⟨by simp,by simp;omega,?_⟩,rfl⟩;rw[H];simp;rw[if_neg c]at H;simp(disch:=try exact dV) only[AD,c,Ri hi];exact⟨(o,f++[AH s i]),⟨by simp;omega,by simp;omega,H⟩,rfl⟩;obtain⟨o,f⟩:=x;obtain⟨a,e,H⟩:=P;simp only at a e H;simp(disch:=try exact dV) only[AD,Nh];rw[H,List.drop_length]<;>rfl
def CM(s:List Nat):List Nat:=s.map λc=>if c=95 then 32 else c
theorem AiM[HA K]{s:List Nat}(h:s.length<=1000000000):K 683 [.s s] [.s (CM s)]:=by
 refine qw I683 ?_;refine AN (λ_=>True) (λi=>[.s s,.u,.s (CM (s.take i)),.n i,.u,.u]) s.length trivial (by simp[CM]) (λi hi _=>?_) (λ_=>?_);have e:CM (s.take (i+1))=CM (s.take i)++[if AH s i=95 then 32 else AH s i]:=by rw[Fw hi];simp[CM]
 have l:(CM (s.take i)).length<=s.length:=by simp[CM];omega
 by_cases c:AH s i=95;rw[if_pos c]at e;simp(disch:=try exact dV) only[AD,c];rw[e];rw[if_neg c]at e;simp(disch:=try exact dV) only[AD,c,Ri hi];rw[e];rw[List.take_length];exact wZ
theorem Aa2[HA K]{s:List Nat}(h:s.length<=1000000):K 686 [.s s] [LI (Bp (AP 44 s)),.b (Cl (AP 44 s))]:=by
 have f:∀p∈AP 44 s,p.length<=1000000:=λp H=>by have:=Li H;simp only[A6]at this;omega
 have l:=(Gj (b:=44) (s:=s) (acc:=[])).2;refine qw I686 ?_;refine cB (Nf (by omega)) ?_;change (AP 44 s).length<=s.length+1 at l;generalize AP 44 s=ws at*;simp(disch:=try exact dV) only[AD,ASR];refine AN (λi=>∀j,j<i->C5 (AG ws j)=true) (λi=>[.u,.u,.u,LI ((ws.take i).map pV),.u,.u,.u,LS ws,.n ws.length,.n i,.u,.u]) ws.length (by intro j a;omega) rfl (λi hi P=>?_) (λP=>?_)
 .have o:ws=ws.take i++AG ws i::ws.drop (i+1):=by
   rw[show AG ws i=ws[i] by simp[AG,hi]]
   simp
  have g:=f (AG ws i) (by simp[AG,hi])
  have c:(ws.take (i+1)).map pV=(ws.take i).map pV++[pV (AG ws i)]:=by
   rw[CP hi,List.map_append];simp[AG,hi]
  have k:((ws.take i).map pV).length<=ws.length:=by simp;omega
  refine wW ?_
  refine cB (NM (by omega)) ?_
  cases H:C5 (AG ws i)with
  |true=>
   simp(disch:=try exact dV) only[AD,VC H]
   refine⟨λj a=>?_,by rw[c]⟩
   by_cases e:j=i
   .rw[e];exact H
   .exact P j (by omega)
  |false=>
   have q:Cl ws=false:=by rw[o];exact WN (by simp[H])
   refine wW ?_
   rw[UN q,q]
   try exact⟨rfl,rfl⟩
 have q:Cl ws=true:=by simp only[Cl,Ao];intro p H;obtain⟨j,a,rfl⟩:=List.mem_iff_getElem.1 H;have:=P j a;simpa[AG,a]using this
 refine wW ?_;rw[List.take_length];simp[Bp,q]
theorem AgV{k:Int}{f:List Nat}{t:List (List Nat)}{n o:List Int}{r:List (List Int)}:(Cu k f t n o r).length<=100000:=by
 have H:=YO (k:=k);have a:=Mu (l:=n);have b:=Mu (l:=o);have c:=Wz (d:=r);unfold Cu;split;split;rename_i h;have:=VV (t:=t) (i:=t.length) h.2;simp only[A4];omega;simp;split;split;rename_i h;have:f.length<=16:=by simp[AK]at h;exact h.2
 simp only[A4,AO,A6];omega;simp;split;split;simp;simp only[A4,AO,A6];omega;split;simp only[A4,AO,A6];omega;simp
end Go.Cat
namespace Go.Cat
variable{K:Nat->List D->List D->Prop}
def Dp(c:Nat):List Nat->Nat
 |[]=>0
 |x::l=>if x=c then Dp c l+1 else 0
theorem Lk{c:Nat}:∀l:List Nat,Dp c l<=l.length
 |[]=>Nat.le_refl _
 |x::l=>by have:=Lk (c:=c) l;unfold Dp;split<;>simp only[AO]<;>omega
theorem Pz{c:Nat}:∀{l:List Nat}{i:Nat},i<l.length->(i<Dp c l->AH l i=c)/\(i=Dp c l->AH l i≠c)
 |[],i,h=>by simp at h
 |x::l,0,_=>by
  have e:AH (x::l) ((0:Nat):Int)=x:=by simp[AH]
  rw[e];unfold Dp;split;rename_i H;exact⟨λ_=>H,λq=>by omega⟩;rename_i H;exact⟨λq=>by omega,λ_=>H⟩
 |x::l,i+1,h=>by
  have e:AH (x::l) ((i+1:Nat):Int)=AH l i:=by simp[AH]
  rw[e];have I:=Pz (c:=c) (l:=l) (i:=i) (by simpa using h);unfold Dp;split;exact⟨λq=>I.1 (by omega),λq=>I.2 (by omega)⟩;exact⟨λq=>by omega,λq=>by omega⟩
theorem AON{w:List Nat}{i:Nat}(h:i<w.length):AH w.reverse i=AH w ((w.length:Int)-1-i):=by
 have e:((w.length:Int)-1-i).toNat=w.length-1-i:=by omega
 simp only[AH,BM,e,Ap,List.getElem?_reverse h]
theorem AgL[HA K]{w:List Nat}(h:w.length<=16):K 295 [.s w,.b false] [.n (Dp 117 w)]:=by have e:=Lk (c:=117) w;refine qw ANV ?_;refine Bj (λ(x:Nat)=>x<=Dp 117 w) (λx=>[.s w,.b false,.u,.n x,.u]) (λx=>Dp 117 w-x) 0 (by omega) rfl ?_;intro x f;by_cases l:x<w.length;have a:=Pz (c:=117) l;by_cases H:x<Dp 117 w;simp(disch:=omega) only[AD,a.1 H];exact⟨x+1,by omega,by omega,by simp⟩;have:=a.2 (by omega);refine wW ?_;exact Dn (by omega);refine wW ?_;exact Dn (by omega)
theorem AT0[HA K]{w:List Nat}(h:w.length<=16):K 295 [.s w,.b true] [.n (Dp 100 w.reverse)]:=by have f:=Lk (c:=100) w.reverse;rw[List.length_reverse]at f;refine qw ANV ?_;refine Bj (λ(x:Nat)=>x<=Dp 100 w.reverse) (λx=>[.s w,.b true,.u,.n x,.u]) (λx=>Dp 100 w.reverse-x) 0 (by omega) rfl ?_;intro x g;by_cases H:x<w.length;have a:=Pz (c:=100) (l:=w.reverse) (i:=x) (by simpa using H);rw[AON H]at a;by_cases e:x<Dp 100 w.reverse;simp(disch:=omega) only[AD,a.1 e];exact⟨x+1,by omega,by omega,by simp⟩;have:=a.2 (by omega);refine wW ?_;exact Dn (by omega);refine wW ?_;exact Dn (by omega)
def Cv(w:List Nat):List Nat:=w.map (Fx 117 40 41)
theorem OC{w:List Nat}:(Cv w).length=w.length:=by simp[Cv]
theorem UR:∀{w:List Nat},Ht w=true->only 40 41 (Cv w)=true
 |[],_=>rfl
 |c::w,h=>by rw[Pv,AV,Aa]at h;have:=UR (w:=w) h.2;simp only[Cv,List.map_cons,AM0,AV,Aa];refine⟨?_,this⟩;unfold Fx;split<;>simp
theorem WG:∀{w:List Nat},Ht w=true->(Cv w).map (Fx 40 117 100)=w
 |[],_=>rfl
 |c::w,h=>by rw[Pv,AV,Aa]at h;have:=WG (w:=w) h.2;simp only[Cv,List.map_cons]at this|-;rw[this];rcases h.1 with rfl|rfl<;>rfl
theorem AKJ[HA K]{w:List Nat}(hd:AK w=true):K 508 [.s w] [.s (Cv w),.b true]:=by
 have H:=(Af hd).l;have h:=PU hd;have k:=W8 (K:=K) (w:=w) (a:=117) (b:=100) (c:=40) (d:=41) (by omega) (by omega) (by omega);rw[Ah1,h]at k;simp only[if_true]at k;refine qw I508 ?_;repeat(refine cB (Bv (by omega)) ?_;try simp(disch:=omega) only[AD,hd])
 exact cZ k
theorem pb_i[HA K]{w:List Nat}(hd:AK w=true):K 515 [.s (Cv w)] [.s w,.b true]:=by have e:=(Af hd).l;have h:=PU hd;have H:=OC (w:=w);have k:=W8 (K:=K) (w:=Cv w) (a:=40) (b:=41) (c:=117) (d:=100) (by omega) (by omega) (by omega);rw[UR h,WG h]at k;simp only[if_true]at k;refine qw AIW ?_;refine cW k ?_;repeat(refine cB (Bv (by omega)) ?_;try simp(disch:=omega) only[AD,hd])
theorem Zl{w:List Nat}{i:Nat}(h:i<w.length):AH (Cv w) i=Fx 117 40 41 (AH w i):=by simp[AH,Cv,h]
theorem Wl{w:List Nat}{i:Nat}(h:i<w.length):w.take (i+1)=w.take i++[AH w i]:=by rw[CP h];simp[AH,h]
theorem AP7[HA K]{w:List Nat}(hd:AK w=true):K 297 [.s w] [.s (Cv w),.b true]:=by
 have H:=Af hd;have f:=H.l;have c:=OC (w:=w);refine qw I297 ?_;refine AN (λ_=>True) (λi=>[.s w,.u,.u,.s ((Cv w).take i),.n i,.u,.u]) w.length trivial (by simp) (λi hi _=>?_) (λ_=>?_)
 .have a:((Cv w).take i).length=i:=by simp;omega
  have e:=Wl (w:=Cv w) (i:=i) (by omega);rw[Zl hi]at e;rw[e];rcases H.ud i hi with h|h
  .refine wW ?_;repeat(refine cB (Br (by omega)) ?_;try simp(disch:=try exact dV) only[AD,hd,h])
   rfl
  refine wW ?_;repeat(refine cB (Br (by omega)) ?_;try simp(disch:=try exact dV) only[AD,hd,h])
  rfl
 have a:(Cv w).take w.length=Cv w:=List.take_of_length_le (by omega);rw[a];refine wW ?_;repeat(refine cB (Br (by omega)) ?_;try simp(disch:=try exact dV) only[AD,hd])
theorem pb_s[HA K]{w:List Nat}(hd:AK w=true):K 320 [.s (Cv w)] [.s w,.b true]:=by
 have H:=Af hd;have c:=H.l;have a:=OC (w:=w);refine qw AJP ?_;refine AN (λ_=>True) (λi=>[.s (Cv w),.u,.u,.s (w.take i),.n i,.u,.u,.u,.u,.u]) w.length trivial (by simp) (λi hi _=>?_) (λ_=>?_);have f:(w.take i).length=i:=by simp;omega
 have e:=Zl hi;rw[Wl hi];rcases H.ud i hi with h|h;rw[h]at e|-;have e:AH (Cv w) i=40:=e;simp(disch:=try exact dV) only[AD,e];rw[h]at e|-;have e:AH (Cv w) i=41:=e;simp(disch:=try exact dV) only[AD,e];rw[List.take_length];refine wW ?_;repeat(refine cB (Br (by omega)) ?_;try simp(disch:=try exact dV) only[AD,hd])
def G6(w:List Nat):Nat->Int
 |0=>0
 |i+1=>max (G6 w i) (Hh w i)
theorem dp_i[HA K]{w:List Nat}(hd:AK w=true):K 509 [.s (Cv w)] [.n (G6 w (w.length+1))]:=by have H:=(Af hd).l;have h:=JR (w:=w);refine qw I509 ?_;refine cW (pb_i hd) ?_;refine cB (Qm hd) ?_;simp(disch:=omega) only[AD,h];refine AN (λ_=>True) (λi=>[.u,.u,.u,.u,.n (G6 w i),.u,.u,LI (hL w),.n (w.length+1:Nat),.n i,.u]) (w.length+1) trivial (by simp[G6]) (λi hi _=>?_) (λ_=>?_);have e:=Io (w:=w) (i:=i) (by omega);simp(disch:=omega) only[AD,h,e];simp only[G6];exact wZ
theorem dp_s[HA K]{w:List Nat}(hd:AK w=true):K 298 [.s (Cv w)] [.n (G6 w (w.length+1))]:=by have H:=(Af hd).l;have h:=JR (w:=w);refine qw I298 ?_;refine cW (pb_s hd) ?_;refine cW (Ym hd) ?_;refine AN (λ_=>True) (λi=>[.u,.u,.u,.u,LI (hL w),.n (G6 w i),.n i,.u,.u]) (w.length+1) trivial (by simp[G6]) (λi hi _=>?_) (λ_=>?_);have e:=Io (w:=w) (i:=i) (by omega);simp(disch:=omega) only[AD,h,e];simp only[G6];simp(disch:=omega) only[AD,h]
theorem AA3{w:List Nat}:∀i:Nat,0<=G6 w i/\G6 w i<=i
 |0=>by simp[G6]
 |i+1=>by have:=AA3 (w:=w) i;have:=HE (w:=w) (i:=i);simp only[G6];omega
end Go.Cat
namespace Go.Cat
variable{K:Nat->List D->List D->Prop}
def J0(p:List Int)(i:Nat):Prop:=∀j:Nat,j<i->AR 0 ((p.length:Int)-1) (AB p j)=true/\∀k:Nat,k<j->AB p k≠AB p j
instance{p:List Int}{i:Nat}:Decidable (J0 p i):=by unfold J0;infer_instance
def C2(p:List Int):Bool:=decide (p.length<=8)&&decide (J0 p p.length)
theorem Sn{p:List Int}(h:¬J0 p p.length):C2 p=false:=by simp[C2,h]
theorem Qz{p:List Int}(h:C2 p=true):p.length<=8/\J0 p p.length:=by simpa[C2]using h
theorem Oj[HA K]{p:List Int}(h:p.length<=1099511627776):K 74 [LI p] [.b (C2 p)]:=by
 refine qb I74 ?_;by_cases I:p.length<=8
 .refine wW ?_;refine Aj (λi (s:List Bool)=>s.length=p.length/\J0 p i/\∀x:Nat,x<p.length->(CQ s x=true↔∃j:Nat,j<i/\AB p j=x)) (λi s=>[LI p,.u,LT s,.u,.u,LI p,.n p.length,.n i,.u,.u]) p.length (rep p.length false) ⟨by simp[rep],by simp[J0],by intro x F;simp[CQ,rep,F]⟩ rfl (λi s hi P=>?_) (λs P=>?_)
  .obtain⟨G,l,o⟩:=P;refine wW ?_
   cases c:AR 0 ((p.length:Int)-1) (AB p i)
   .repeat(refine cB Bq ?_;try simp(disch:=omega) only[AD,c])
    rw[Sn λq=>by have:=(q i hi).1;rw[c]at this;cases this]
   have J:=A5.1 c;obtain⟨n,a⟩:=CE J.1;have C:n<p.length:=by omega
   have g:=o n C
   cases f:CQ s (AB p i)
   .repeat(refine cB Bq ?_;try simp(disch:=omega) only[AD,c,f])
    refine⟨_,⟨by rw[G1,G],Bf l ⟨c,λk L e=>?_⟩,λx F=>?_⟩,rfl⟩;rw[a]at f;have:=g.2 ⟨k,L,by rw[e,a]⟩;rw[f]at this;cases this;rw[a,AID (by omega)];split;rename_i e;subst e;simp only[true_iff];exact⟨i,by omega,a⟩;rename_i e;rw[o x F];constructor;rintro⟨j,B,H⟩;exact⟨j,by omega,H⟩;rintro⟨j,B,H⟩;refine⟨j,?_,H⟩;rcases BS j i with q|q;exact q;obtain rfl:j=i:=by omega
    rw[a]at H;omega
   repeat(refine cB Bq ?_;try simp(disch:=omega) only[AD,c,f])
   rw[a]at f;obtain⟨j,B,H⟩:=g.1 f;rw[Sn λq=>(q i hi).2 j B (by rw[H,a])]
  obtain⟨G,l,o⟩:=P;refine wW ?_;simp[C2,I,l]
 refine wW ?_;simp[C2,I]
theorem Mt[HA K]{p:List Int}(h:p.length<=1099511627776):K 73 [LI p] [.b (C2 p)]:=by
 refine qw I73 ?_;refine AN (λi=>J0 p i) (λi=>[LI p,.u,.n i,.u,.u,.u,.u,.u]) p.length (by simp[J0]) rfl (λi hi P=>?_) (λP=>?_)
 .refine wW ?_
  cases hr:AR 0 ((p.length:Int)-1) (AB p i)
  .repeat(refine cB Bt ?_;try simp(disch:=omega) only[AD,hr])
   rw[Sn λq=>by have:=(q i hi).1;rw[hr]at this;cases this]
  repeat(refine cB Bt ?_;try simp(disch:=omega) only[AD,hr])
  refine AN (λk=>∀j:Nat,j<k->AB p j≠AB p i) (λk=>[LI p,.u,.n i,.n k,.u,.u,.u,.u]) i (by simp) rfl (λk H Q=>?_) (λQ=>?_);by_cases he:AB p k=AB p i;refine wW ?_;rw[Sn λq=>(q i hi).2 k H he];refine wW ?_;exact Bf Q he;refine wW ?_;exact Bf P ⟨hr,Q⟩
 by_cases l:p.length<=8;refine wW ?_;simp[C2,P,l];refine wW ?_;simp[C2,l]
theorem Ps[HA K]{p:List Int}(h:p.length<=1000000000):K 75 [LI p] [LI p]:=by refine qb I75 ?_;simp(disch:=try exact dV) only[AD,E3]
end Go.Cat
namespace Go.Cat
variable{K:Nat->List D->List D->Prop}
theorem Kr{t:List Int}{y:Int}:AB (t++[y]) t.length=y:=by simp[AB]
theorem L7{t:List Int}{y:Int}:sub (t++[y]) 0 t.length=t:=by simp[sub]
end Go.Cat
