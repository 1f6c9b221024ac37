/-
 FormatClaim answers as the reference does.
-/
import Derived.Test.YthoilpmggmenbaaGreatPfDraw
set_option linter.unusedSimpArgs false
set_option linter.unusedVariables false
namespace Go.Cat
variable{K:Nat->List D->List D->Prop}
def Ly:List (List Nat):=[[98,101,108,111,119],[100,105,115,116,97,110,99,101],[115,111,114,116,101,100],[117,110,115,111,114,116,101,100],[102,114,105,101,122,101],[109,101,97,110,100,101,114]]
def DR(k:Int):List Nat:=if A4 1 6 k=true then AH Ly (k-1)else []
theorem AMG{a b c d e f:List Nat}:EK [.s a,.s b,.s c,.s d,.s e,.s f]=some (LS [a,b,c,d,e,f]):=rfl
theorem cw_i[HA K]{k:Int}:K 8 [.n k] [.s (DR k)]:=by
 refine qw I8 ?_;refine cB CN ?_
 cases h:A4 1 6 k;refine wW ?_;simp[DR,h];have:=Af.1 h;simp(disch:=try exact dV) only[AD,AMG];simp[DR,h,Ly]
theorem cw_s[HA K]{k:Int}:K 7 [.n k] [.s (DR k)]:=by
 refine qw I7 ?_;refine cB Cl ?_
 cases h:A4 1 6 k;refine wW ?_;simp[DR,h];have:=Af.1 h;simp(disch:=try exact dV) only[AD,AMG];simp[DR,h,Ly]
theorem Up{k:Int}:(DR k).length<=8:=by
 unfold DR;split;exact Ib (b:=8) (ws:=Ly) (by decide) (i:=(k-1).toNat)|> λh=>by
  have e:AH Ly (k-1)=AH Ly ((k-1).toNat:Nat):=by simp[AH]
  rw[e];exact h
 simp
theorem Kq{l:List Int}:(DO l).length<=1000:=by unfold DO;split;simp;have h:=Gu (sep:=[44]) (S6 (l:=l)) (Dv l).length;have:=VR (l:=l);simp only[glue,AO,Aa]at*;omega
theorem Tg{d:List (List Int)}:(C0 d).length<=1000:=by
 unfold C0;split;simp;split;simp;split;rename_i _ H a;have b:∀x∈Cf d,x.length<=40:=by intro x c;obtain⟨r,h,rfl⟩:=List.mem_map.1 c;obtain⟨f,q,Q⟩:=Ns (Aj.1 a r h);have b1:=Af.1 q;have b2:=Af.1 Q;have l:=Ar (n:=AB r 0) (by omega);have L:=Ar (n:=AB r 1) (by omega);simp only[AZ];omega
 have e:=Gu (sep:=[32]) b (Cf d).length;have:=Pt (d:=d);simp only[glue,AO,Aa]at*;omega;simp
def Es(t:List (List Nat)):Nat->List Nat
 |0=>[]
 |i+1=>Es t i++([32]++AH t i)
theorem ALR{t:List (List Nat)}:∀i,Es t (i+1)=[32]++BC [32] t (i+1)
 |0=>by simp[Es,BC]
 |i+1=>by
  have e:BC [32] t (i+1+1)=BC [32] t (i+1)++[32]++AH t ((i+1:Nat):Int):=by
   show BC [32] t (i+1)++(if 0<i+1 then [32]else [])++_=_
   rw[if_pos (by omega)]
  rw[e,Es,ALR i]
  simp only[CE]
theorem U8{t:List (List Nat)}{i:Nat}(h:∀j:Nat,j<i->Bq (AH t j)=true):(Es t i).length<=i*26:=by
 induction i with
 |zero=>simp[Es]
 |succ i I=>
  have a:=I λj c=>h j (by omega)
  obtain⟨x,H,e⟩:=GF (h i (by omega))
  have b:=BT.tl x
  simp only[Es,AZ,AO,Aa,H]
  omega
open Classical in
noncomputable def Ce(k:Int)(f:List Nat)(t:List (List Nat))(n o:List Int)(r:List (List Int)):List Nat:=
 if k=1\/k=2 then(if(1<=t.length/\t.length<=40)/\∀j:Nat,j<t.length->Bq (AH t j)=true then DR k++Es t t.length else [])
 else if k=3 then(if AK f=true then DR k++[32]++DO n++[32,98,121,32]++f else [])
 else if k=5 then(if C0 r=[]then []else DR k++[32]++DO n++[32,98,121,32]++C0 r)
 else if k=4\/k=6 then DR k++[32]++DO n++[32,98,121,32]++DO o
 else []
structure MH(f:List Nat)(t:List (List Nat))(n o:List Int)(r:List (List Int)):Prop where
 lf:f.length<=1000000000
 ln:n.length<=1099511627776
 lo:o.length<=1099511627776
 lr:r.length<=1099511627776
 lrs:∀x∈r,x.length<=1099511627776
theorem ALY[HA K]{k:Int}{f s:List Nat}{t:List (List Nat)}{n o:List Int}{r:List (List Int)}(h:MH f t n o r):K 342 [CL k f s t n o r] [.s (Ce k f t n o r)]:=by
 obtain⟨lf,ln,lo,lr,lrs⟩:=h;have Y:=Up (k:=k);have w2:=Kq (l:=n);have w3:=Kq (l:=o);have w4:=Tg (d:=r);refine qb I342 ?_;simp(disch:=try exact dV) only[AD,Dc,D0,Ei];refine cB cw_i ?_;by_cases H:k=1\/k=2
 .have b:Ce k f t n o r=if(1<=t.length/\t.length<=40)/\∀j:Nat,j<t.length->Bq (AH t j)=true then DR k++Es t t.length else []:=if_pos H;rcases H with J|J
  all_goals
   rw[b]
   simp(disch:=try exact dV) only[AD,Dc,D0,Ei]
   refine cB CN ?_
   by_cases I:1<=t.length/\t.length<=40
   .have hi:A4 1 40 (t.length:Int)=true:=Af.2 (by omega)
    simp(disch:=try exact dV) only[AD,hi,Dc]
    refine AR (λi=>∀j:Nat,j<i->Bq (AH t j)=true) (λi=>[.u,.p [.n k,.s f,.s s,LS t,LI n,LI o,LL r],.u,.s (DR k),.u,.u,.u,.u,.u,LS t,.n t.length,.n i,.u,.u,.u,.u,.u,.u,.u]) t.length (by simp) rfl (λi hi P=>?_) (λP=>?_)
    .refine wW ?_
     refine cB Hx ?_
     cases B:Bq (AH t i)
     .refine wW ?_
      rw[if_neg λq=>by have:=q.2 i hi;rw[B]at this;cases this]
     .refine wW ?_
      exact Cw P B
    .rw[if_pos ⟨I,P⟩]
     have c:=U8 P
     have e:Es t t.length=[32]++glue [32] t:=by
      obtain⟨m,M⟩:∃m,t.length=m+1:=⟨t.length-1,by omega⟩
      rw[glue,M,ALR]
     rw[e]at c|-
     simp only[AZ,AO,Aa]at c
     have O:=Hs (K:=K) (ws:=t) (sep:=[32]) (by omega) (λx F=>by
      obtain⟨j,G,rfl⟩:=List.getElem_of_mem F
      have B:=P j G
      obtain⟨y,N,W⟩:=GF B
      have V:=BT.tl y
      have e:AH t j=t[j]:=by simp[AH,G]
      rw[<-e,N];omega) (by simp)
     simp(disch:=try exact dV) only[AD,Dc]
     refine cW O ?_
     simp
   .have hi:A4 1 40 (t.length:Int)=false:=I3.2 (by omega)
    rw[if_neg λq=>I q.1]
    simp(disch:=try exact dV) only[AD,hi]
 have Q:k≠1:=λq=>H (.inl q);have R:k≠2:=λq=>H (.inr q);by_cases g:k=3;have b:Ce k f t n o r=if AK f=true then DR k++[32]++DO n++[32,98,121,32]++f else []:=by unfold Ce;rw[if_neg H,if_pos g]
 rw[b];simp(disch:=try exact dV) only[AD,Dc,D0,Ei];refine cB (Bf lf) ?_
 cases hd:AK f;exact wZ;simp(disch:=try exact dV) only[AD,D0];exact cZ (QO (by omega));by_cases C:k=5;have b:Ce k f t n o r=if C0 r=[]then []else DR k++[32]++DO n++[32,98,121,32]++C0 r:=by unfold Ce;rw[if_neg H,if_neg g,if_pos C]
 rw[b];simp(disch:=try exact dV) only[AD,Dc,D0,Ei];refine cB (Rh (by omega) (λx F=>Nat.le_trans (lrs x F) (by omega))) ?_;by_cases hd:C0 r=[];simp(disch:=try exact dV) only[AD,hd];have e:(C0 r==[])=false:=beq_eq_false_iff_ne.2 hd;rw[if_neg hd];simp(disch:=try exact dV) only[AD,e,D0];exact cZ (QO (by omega));by_cases a:k=4\/k=6
 .have b:Ce k f t n o r=DR k++[32]++DO n++[32,98,121,32]++DO o:=by unfold Ce;rw[if_neg H,if_neg g,if_neg C,if_pos a]
  rw[b];rcases a with L|L
  all_goals
   simp(disch:=try exact dV) only[AD,Dc,D0,Ei]
   refine cB (QO (by omega)) ?_
   simp(disch:=try exact dV) only[AD,D0]
   exact cZ (QO (by omega))
 have b:Ce k f t n o r=[]:=by unfold Ce;rw[if_neg H,if_neg g,if_neg C,if_neg a]
 have T:k≠4:=λq=>a (.inl q);have U:k≠6:=λq=>a (.inr q);rw[b];simp(disch:=try exact dV) only[AD,Dc,D0,Ei]
theorem AA8[HA K]{k:Int}{f s:List Nat}{t:List (List Nat)}{n o:List Int}{r:List (List Int)}(h:MH f t n o r):K 341 [CL k f s t n o r] [.s (Ce k f t n o r)]:=by
 obtain⟨lf,ln,lo,lr,lrs⟩:=h;have W:=Up (k:=k);have w2:=Kq (l:=n);have w3:=Kq (l:=o);have w4:=Tg (d:=r);refine qb I341 ?_;simp(disch:=try exact dV) only[AD,Dc,D0,Ei];refine cB cw_s ?_;by_cases H:k=1\/k=2
 .have b:Ce k f t n o r=if(1<=t.length/\t.length<=40)/\∀j:Nat,j<t.length->Bq (AH t j)=true then DR k++Es t t.length else []:=if_pos H;rcases H with F|F
  all_goals
   rw[b]
   by_cases C:1<=t.length/\t.length<=40
   .simp(disch:=try exact dV) only[AD,Dc,D0,Ei]
    refine AR (λi=>∀j:Nat,j<i->Bq (AH t j)=true) (λi=>[.u,.p [.n k,.s f,.s s,LS t,LI n,LI o,LL r],.u,.s (DR k++Es t i),.n i,.u,.u,.u,.u,.u,.u,.u,.u,.u,.u,.u]) t.length (by simp) (by simp[Es]) (λi hi P=>?_) (λP=>?_)
    .simp(disch:=try exact dV) only[AD,Dc]
     refine cB Fo ?_
     cases B:Bq (AH t i)
     .refine wW ?_
      rw[if_neg λq=>by have:=q.2 i hi;rw[B]at this;cases this]
     .have J:=U8 P
      obtain⟨y,M,U⟩:=GF B
      have T:=BT.tl y
      have c:(AH t i).length<=25:=by rw[M];omega
      simp(disch:=try exact dV) only[AD,Dc]
      exact⟨Cw P B,by simp[Es]⟩
    .rw[if_pos ⟨C,P⟩]
     simp(disch:=try exact dV) only[AD,Dc]
   .rw[if_neg λq=>C q.1]
    by_cases I:40<t.length
    .simp(disch:=try exact dV) only[AD,Dc,D0,Ei]
    .have h0:t.length=0:=by omega
     simp(disch:=try exact dV) only[AD,Dc,D0,Ei]
 have N:k≠1:=λq=>H (.inl q);have O:k≠2:=λq=>H (.inr q);by_cases c:k=3;have b:Ce k f t n o r=if AK f=true then DR k++[32]++DO n++[32,98,121,32]++f else []:=by unfold Ce;rw[if_neg H,if_pos c]
 rw[b];simp(disch:=try exact dV) only[AD,Dc,D0,Ei];refine cB (By lf) ?_
 cases hd:AK f;exact wZ;simp(disch:=try exact dV) only[AD,D0];exact cZ (RX (by omega));by_cases g:k=5;have b:Ce k f t n o r=if C0 r=[]then []else DR k++[32]++DO n++[32,98,121,32]++C0 r:=by unfold Ce;rw[if_neg H,if_neg c,if_pos g]
 rw[b];simp(disch:=try exact dV) only[AD,Dc,D0,Ei];refine cB (ADJ (by omega) (λx L=>Nat.le_trans (lrs x L) (by omega))) ?_;by_cases hd:C0 r=[];simp(disch:=try exact dV) only[AD,hd];have e:(C0 r==[])=false:=beq_eq_false_iff_ne.2 hd;rw[if_neg hd];simp(disch:=try exact dV) only[AD,e,D0];exact cZ (RX (by omega));by_cases a:k=4\/k=6
 .have b:Ce k f t n o r=DR k++[32]++DO n++[32,98,121,32]++DO o:=by unfold Ce;rw[if_neg H,if_neg c,if_neg g,if_pos a]
  rw[b];rcases a with G|G
  all_goals
   simp(disch:=try exact dV) only[AD,Dc,D0,Ei]
   refine cB (RX (by omega)) ?_
   simp(disch:=try exact dV) only[AD,D0]
   exact cZ (RX (by omega))
 have b:Ce k f t n o r=[]:=by unfold Ce;rw[if_neg H,if_neg c,if_neg g,if_neg a]
 have Q:k≠4:=λq=>a (.inl q);have R:k≠6:=λq=>a (.inr q);rw[b];simp(disch:=try exact dV) only[AD,Dc,D0,Ei]
end Go.Cat
namespace Go.Cat
variable{K:Nat->List D->List D->Prop}
set_option maxRecDepth 100000
def RB(v:List Nat):List Nat:=if v=[]then [110,111]else v
theorem R5[HA K]{v:List Nat}:K 680 [.s v] [.s (RB v)]:=by refine qb I680 ?_;by_cases h:v=[];subst h;simp(disch:=try exact dV) only[AD];rfl;simp(disch:=try exact dV) only[AD,show(v==([]:List Nat))=false by simpa using h];simp[RB,h]
def Da(s:List Nat):List Nat:=s.map λc=>if c=95 then 32 else c
theorem ALN{k:Int}{f:List Nat}{t:List (List Nat)}{n o:List Int}{r:List (List Int)}:(Ce k f t n o r).length<=100000:=by
 have H:=Up (k:=k);have a:=Kq (l:=n);have b:=Kq (l:=o);have c:=Tg (d:=r);unfold Ce;split;split;rename_i h;have:=U8 (t:=t) (i:=t.length) h.2;simp only[AZ];omega;simp;split;split;rename_i h;have:f.length<=16:=by simp[AK]at h;exact h.2
 simp only[AZ,AO,Aa];omega;simp;split;split;simp;simp only[AZ,AO,Aa];omega;split;simp only[AZ,AO,Aa];omega;simp
end Go.Cat
namespace Go.Cat
variable{K:Nat->List D->List D->Prop}
def DZ(c:Nat):List Nat->Nat
 |[]=>0
 |x::l=>if x=c then DZ c l+1 else 0
theorem KX{c:Nat}:∀l:List Nat,DZ c l<=l.length
 |[]=>Nat.le_refl _
 |x::l=>by have:=KX (c:=c) l;unfold DZ;split<;>simp only[AO]<;>omega
theorem M0{c:Nat}:∀{l:List Nat}{i:Nat},i<l.length->(i<DZ c l->AI l i=c)/\(i=DZ c l->AI l i≠c)
 |[],i,h=>by simp at h
 |x::l,0,_=>by
  have e:AI (x::l) ((0:Nat):Int)=x:=by simp[AI]
  rw[e];unfold DZ;split;rename_i H;exact⟨λ_=>H,λq=>by omega⟩;rename_i H;exact⟨λq=>by omega,λ_=>H⟩
 |x::l,i+1,h=>by
  have e:AI (x::l) ((i+1:Nat):Int)=AI l i:=by simp[AI]
  rw[e];have I:=M0 (c:=c) (l:=l) (i:=i) (by simpa using h);unfold DZ;split;exact⟨λq=>I.1 (by omega),λq=>I.2 (by omega)⟩;exact⟨λq=>by omega,λq=>by omega⟩
theorem Za{w:List Nat}{i:Nat}(h:i<w.length):AI w.reverse i=AI w ((w.length:Int)-1-i):=by
 have e:((w.length:Int)-1-i).toNat=w.length-1-i:=by omega
 simp only[AI,BM,e,Ap,List.getElem?_reverse h]
theorem AWN[HA K]{w:List Nat}(h:w.length<=16):K 295 [.s w,.b false] [.n (DZ 117 w)]:=by have e:=KX (c:=117) w;refine qw AAY ?_;refine Bd (λ(x:Nat)=>x<=DZ 117 w) (λx=>[.s w,.b false,.u,.n x,.u]) (λx=>DZ 117 w-x) 0 (by omega) rfl ?_;intro x f;by_cases l:x<w.length;have a:=M0 (c:=117) l;by_cases H:x<DZ 117 w;simp(disch:=omega) only[AD,a.1 H];exact⟨x+1,by omega,by omega,by simp⟩;have:=a.2 (by omega);refine wW ?_;exact Dn (by omega);refine wW ?_;exact Dn (by omega)
theorem AN4[HA K]{w:List Nat}(h:w.length<=16):K 295 [.s w,.b true] [.n (DZ 100 w.reverse)]:=by have f:=KX (c:=100) w.reverse;rw[List.length_reverse]at f;refine qw AAY ?_;refine Bd (λ(x:Nat)=>x<=DZ 100 w.reverse) (λx=>[.s w,.b true,.u,.n x,.u]) (λx=>DZ 100 w.reverse-x) 0 (by omega) rfl ?_;intro x g;by_cases H:x<w.length;have a:=M0 (c:=100) (l:=w.reverse) (i:=x) (by simpa using H);rw[Za H]at a;by_cases e:x<DZ 100 w.reverse;simp(disch:=omega) only[AD,a.1 e];exact⟨x+1,by omega,by omega,by simp⟩;have:=a.2 (by omega);refine wW ?_;exact Dn (by omega);refine wW ?_;exact Dn (by omega)
def Cj(w:List Nat):List Nat:=w.map (GJ 117 40 41)
theorem M6{w:List Nat}:(Cj w).length=w.length:=by simp[Cj]
theorem SC:∀{w:List Nat},HE w=true->only 40 41 (Cj w)=true
 |[],_=>rfl
 |c::w,h=>by rw[NV,AU,Ad]at h;have:=SC (w:=w) h.2;simp only[Cj,List.map_cons,AGX,AU,Ad];refine⟨?_,this⟩;unfold GJ;split<;>simp
theorem TA:∀{w:List Nat},HE w=true->(Cj w).map (GJ 40 117 100)=w
 |[],_=>rfl
 |c::w,h=>by rw[NV,AU,Ad]at h;have:=TA (w:=w) h.2;simp only[Cj,List.map_cons]at this|-;rw[this];rcases h.1 with rfl|rfl<;>rfl
theorem AHP[HA K]{w:List Nat}(hd:AK w=true):K 508 [.s w] [.s (Cj w),.b true]:=by
 have H:=(A8 hd).l;have h:=Mn hd;have k:=UE (K:=K) (w:=w) (a:=117) (b:=100) (c:=40) (d:=41) (by omega) (by omega) (by omega);rw[AR6,h]at k;simp only[if_true]at k;refine qw I508 ?_;repeat(refine cB (Bf (by omega)) ?_;try simp(disch:=omega) only[AD,hd])
 exact cZ k
theorem pb_i[HA K]{w:List Nat}(hd:AK w=true):K 515 [.s (Cj w)] [.s w,.b true]:=by have e:=(A8 hd).l;have h:=Mn hd;have H:=M6 (w:=w);have k:=UE (K:=K) (w:=Cj w) (a:=40) (b:=41) (c:=117) (d:=100) (by omega) (by omega) (by omega);rw[SC h,TA h]at k;simp only[if_true]at k;refine qw AJP ?_;refine cW k ?_;repeat(refine cB (Bf (by omega)) ?_;try simp(disch:=omega) only[AD,hd])
theorem AF3{w:List Nat}{i:Nat}(h:i<w.length):AI (Cj w) i=GJ 117 40 41 (AI w i):=by simp[AI,Cj,h]
theorem AEL{w:List Nat}{i:Nat}(h:i<w.length):w.take (i+1)=w.take i++[AI w i]:=by rw[CO h];simp[AI,h]
theorem AK6[HA K]{w:List Nat}(hd:AK w=true):K 297 [.s w] [.s (Cj w),.b true]:=by
 have H:=A8 hd;have f:=H.l;have c:=M6 (w:=w);refine qw I297 ?_;refine AR (λ_=>True) (λi=>[.s w,.u,.u,.s ((Cj w).take i),.n i,.u,.u]) w.length trivial (by simp) (λi hi _=>?_) (λ_=>?_)
 .have a:((Cj w).take i).length=i:=by simp;omega
  have e:=AEL (w:=Cj w) (i:=i) (by omega);rw[AF3 hi]at e;rw[e];rcases H.ud i hi with h|h
  .refine wW ?_;repeat(refine cB (By (by omega)) ?_;try simp(disch:=try exact dV) only[AD,hd,h])
   rfl
  refine wW ?_;repeat(refine cB (By (by omega)) ?_;try simp(disch:=try exact dV) only[AD,hd,h])
  rfl
 have a:(Cj w).take w.length=Cj w:=List.take_of_length_le (by omega);rw[a];refine wW ?_;repeat(refine cB (By (by omega)) ?_;try simp(disch:=try exact dV) only[AD,hd])
theorem pb_s[HA K]{w:List Nat}(hd:AK w=true):K 320 [.s (Cj w)] [.s w,.b true]:=by
 have H:=A8 hd;have c:=H.l;have a:=M6 (w:=w);refine qw I320 ?_;refine AR (λ_=>True) (λi=>[.s (Cj w),.u,.u,.s (w.take i),.n i,.u,.u,.u,.u,.u]) w.length trivial (by simp) (λi hi _=>?_) (λ_=>?_);have f:(w.take i).length=i:=by simp;omega
 have e:=AF3 hi;rw[AEL hi];rcases H.ud i hi with h|h;rw[h]at e|-;have e:AI (Cj w) i=40:=e;simp(disch:=try exact dV) only[AD,e];rw[h]at e|-;have e:AI (Cj w) i=41:=e;simp(disch:=try exact dV) only[AD,e];rw[List.take_length];refine wW ?_;repeat(refine cB (By (by omega)) ?_;try simp(disch:=try exact dV) only[AD,hd])
def Fa(w:List Nat):Nat->Int
 |0=>0
 |i+1=>max (Fa w i) (Hh w i)
theorem dp_i[HA K]{w:List Nat}(hd:AK w=true):K 509 [.s (Cj w)] [.n (Fa w (w.length+1))]:=by have H:=(A8 hd).l;have h:=Ht (w:=w);refine qw I509 ?_;refine cW (pb_i hd) ?_;refine cB (Qs hd) ?_;simp(disch:=omega) only[AD,h];refine AR (λ_=>True) (λi=>[.u,.u,.u,.u,.n (Fa w i),.u,.u,LI (hL w),.n (w.length+1:Nat),.n i,.u]) (w.length+1) trivial (by simp[Fa]) (λi hi _=>?_) (λ_=>?_);have e:=HV (w:=w) (i:=i) (by omega);simp(disch:=omega) only[AD,h,e];simp only[Fa];exact wZ
theorem dp_s[HA K]{w:List Nat}(hd:AK w=true):K 298 [.s (Cj w)] [.n (Fa w (w.length+1))]:=by have H:=(A8 hd).l;have h:=Ht (w:=w);refine qw I298 ?_;refine cW (pb_s hd) ?_;refine cW (Tj hd) ?_;refine AR (λ_=>True) (λi=>[.u,.u,.u,.u,LI (hL w),.n (Fa w i),.n i,.u,.u]) (w.length+1) trivial (by simp[Fa]) (λi hi _=>?_) (λ_=>?_);have e:=HV (w:=w) (i:=i) (by omega);simp(disch:=omega) only[AD,h,e];simp only[Fa];simp(disch:=omega) only[AD,h]
theorem AAD{w:List Nat}:∀i:Nat,0<=Fa w i/\Fa w i<=i
 |0=>by simp[Fa]
 |i+1=>by have:=AAD (w:=w) i;have:=Fx (w:=w) (i:=i);simp only[Fa];omega
end Go.Cat
namespace Go.Cat
variable{K:Nat->List D->List D->Prop}
def Td(p:List Int)(i:Nat):Prop:=∀j:Nat,j<i->A4 0 ((p.length:Int)-1) (AB p j)=true/\∀k:Nat,k<j->AB p k≠AB p j
instance{p:List Int}{i:Nat}:Decidable (Td p i):=by unfold Td;infer_instance
def AYT(p:List Int):Bool:=decide (p.length<=8)&&decide (Td p p.length)
theorem AVA[HA K]{p:List Int}(h:p.length<=1000000000):K 75 [LI p] [LI p]:=by refine qb I75 ?_;simp(disch:=try exact dV) only[AD,EI]
end Go.Cat
namespace Go.Cat
variable{K:Nat->List D->List D->Prop}
theorem NH{t:List Int}{y:Int}:AB (t++[y]) t.length=y:=by simp[AB]
theorem Mh{t:List Int}{y:Int}:sub (t++[y]) 0 t.length=t:=by simp[sub]
end Go.Cat
