/-
 Sorting of rows of three numbers.
-/
import Derived.Test.YthoilpmggmenbaaGreatPfCkQ
import Derived.Test.YthoilpmggmenbaaGreatPfSvC
set_option linter.unusedSimpArgs false
set_option linter.unusedVariables false
namespace Go.Cat
variable{K:Nat->List D->List D->Prop}
end Go.Cat
namespace Go.Cat
variable{K:Nat->List D->List D->Prop}
set_option maxRecDepth 100000
end Go.Cat
namespace Go.Cat
variable{K:Nat->List D->List D->Prop}
theorem Ae6[HA K]{p:List (List Nat)}{x:List Nat}(h:p.length<=1000000):∃rs,(∃j:Int,rs=[.n j]/\decide (j>=0)=decide (x∈p)/\j<=1000000)/\K 654 [LS p,.s x] rs:=by
 refine qx I654 ?_;refine wW ?_;refine AN (λi=>x∉p.take i) (λi=>[LS p,.s x,.u,.u,.n p.length,.n i,.u,.u]) p.length (by simp) rfl (λi hi P=>?_) (λP=>?_);have a:p.take (i+1)=p.take i++[AF p i]:=by rw[CQ hi];simp[AF,hi]
 have H:AF p i∈p:=by simp[AF,hi]
 cases c:(x==AF p i);simp(disch:=omega) only[AD,c];rw[a];intro q;rcases A9.1 q with q|q;exact P q;simp only[List.mem_singleton]at q;rw[q]at c;simp at c;have e:x=AF p i:=by simpa using c
 simp(disch:=omega) only[AD,c];exact⟨_,rfl,by rw[e];simp[H],by omega⟩;rw[List.take_length]at P;refine wW ?_;exact⟨_,rfl,by simp[P],by omega⟩
theorem ATH[HA K]{p:List (List Nat)}{x:List Nat}(h:p.length<=1000000):K 651 [LS p,.s x] [.b (decide (x∈p))]:=by refine qb I651 ?_;obtain⟨_,⟨j,rfl,H,a⟩,k⟩:=Ae6 (K:=K) (x:=x) h;refine wW ?_;refine cW k ?_;exact Db (by rw[<-H])
end Go.Cat
namespace Go.Cat
set_option maxRecDepth 100000
theorem UL:∀{w:List Nat}{h k:Int},Bm w h=some k->∀c∈w,c=117\/c=100
 |[],_,_,_,c,H=>by cases H
 |a::w,h,k,e,c,H=>by
  simp only[Bm]at e;split at e;rcases A6.1 H with rfl|q;left;assumption;exact UL e c q;split at e;split at e
  cases e;rcases A6.1 H with rfl|q;right;assumption;exact UL e c q
  cases e
theorem Ae8{w:List Nat}(h:AK w=true):∀c∈w,c=117\/c=100:=by simp only[AK,AV,Ac]at h;exact UL h.1
theorem AOU{w:List Nat}(h:AK w=true):10∉w:=λq=>by have:=Ae8 h 10 q;omega
theorem WS{r:List Int}:∀{i:Nat},10∉DW r i
 |0=>by simp[DW]
 |i+1=>by simp[DW,WS (i:=i),Fh]
theorem Ue{m:List Int}:∀i,∀x∈BW m i,10∉x
 |0,x,h=>by simp[BW]at h
 |i+1,x,h=>by simp only[BW]at h;split at h;rcases A9.1 h with q|q;exact Ue i x q;rw[List.mem_singleton.1 q];simp[Fh];exact Ue i x h
theorem ABS{w:List Nat}(hd:AK w=true):∀i,10∉A8 w i
 |0=>AOU hd
 |1=>by simp only[A8,Cv,List.mem_map];rintro⟨a,_,h⟩;unfold GF at h;split at h<;>omega
 |2=>by simp only[A8,IZ];split;exact KU (by decide) (NW λ_=>Fh) _;decide
 |3=>Lr
 |4=>by simp[A8,Fh,AF6]
 |5=>KU (by decide) (NW λ_=>WS) _
 |6=>by simp only[A8,Fo];split;split;decide;exact KU (by decide) (Ue _) _;decide
 |7=>WS
 |8=>by simp[A8,Fh]
 |_+9=>by simp[A8]
theorem AOK{w:List Nat}(hd:AK w=true):∀i,10∉G8 w i
 |0=>by simp[G8]
 |i+1=>by simp[G8,AOK hd i,ABS hd i,RL (ws:=Ai) (i:=i) (by decide)]
theorem AQT{w:List Nat}:∀i,10∉Gf w i
 |0=>by simp[Gf,Fh]
 |i+1=>by simp[Gf,AQT (w:=w) i,Fh,RL (ws:=Gj) (i:=i) (by decide)]
theorem AF2{q:List Int}:∀i,10∉Gp q i
 |0=>by simp[Gp]
 |i+1=>by simp[Gp,AF2 (q:=q) i,Su]
theorem AYG{q:List Int}:10∉IT q:=by unfold IT;split;simp[AF2,Fh];decide
theorem AMB{t:List (List Nat)}(h:∀j:Nat,j<t.length->Az (AF t j)=true):∀i,i<=t.length->10∉FZ t i
 |0,_=>by simp[FZ]
 |i+1,hi=>by obtain⟨x,H,_⟩:=FX (h i (by omega));simp[FZ,AMB h i (by omega),H,Lr]
theorem Sa{k:Int}:10∉De k:=by unfold De;split;exact RL (by decide);decide
theorem Ah4{k:Int}{f:List Nat}{t:List (List Nat)}{n o:List Int}{r:List (List Int)}:10∉Ct k f t n o r:=by unfold Ct;split;split;rename_i h;simp[Sa,AMB h.2 t.length (Nat.le_refl _)];decide;split;split;rename_i h;simp[Sa,UU,AOU h];decide;split;split;decide;simp[Sa,UU,AF6];split;simp[Sa,UU];decide
theorem AZY{a b s:List Nat}:10∉Jj a b s:=by unfold Jj Cz;split;split;rename_i h;simp only[DD,AV]at h;exact ABS h.1 _;decide;decide
end Go.Cat
namespace Go.Cat
variable{K:Nat->List D->List D->Prop}
set_option maxRecDepth 100000
class OV(K:Nat->List D->List D->Prop):Prop where
 ex:∀s:List Nat,s.length<=1000000->(∀c∈s,c<256)->∃b,K 679 [.s s] [.s (CP s),.b b]
theorem Ub[HA K]{k:Int}{f s:List Nat}{t:List (List Nat)}{n o:List Int}{r:List (List Int)}{w:Bool}(h:Nc f t n o r):K 687 [CL k f s t n o r,.b w] [.s (if w=true then Ct k f t n o r else [110,111])]:=by
 refine qb I687 ?_
 cases w
 .simp(disch:=try exact dV) only[AD,EJ,F3];try rfl
 simp(disch:=try exact dV) only[AD,EJ,F3];exact cZ (fc_s h)
theorem BK:(∀(a b:Nat)(l m:List Nat),(a::l==b::m)=(a==b&&l==m))/\(∀(a:Nat)(l:List Nat),(a::l==[])=false)/\(∀(b:Nat)(m:List Nat),([]==b::m)=false)/\(([]:List Nat)==[])=true/\(∀b,(true&&b)=b)/\∀b,(false&&b)=false:=
 ⟨λ_ _ _ _=>rfl,λ_ _=>rfl,λ_ _=>rfl,rfl,λ_=>rfl,λ_=>rfl⟩
theorem R5:Nw []:=⟨by simp,by simp⟩
theorem QB:Nw [119,104,97,116]:=⟨by simp,by simp⟩
theorem Oa{v:List Nat}(h:Nw v):Nw (Hz v):=by unfold Hz;split;exact⟨by simp,by simp⟩;exact h
theorem WJ{p:Bool}{k:Int}{f:List Nat}{t:List (List Nat)}{n o:List Int}{r:List (List Int)}:Nw (if p=true then Ct k f t n o r else [110,111]):=by split;exact⟨AUA,Ah4⟩;exact⟨by simp,by simp⟩
def AG5(K:Nat->List D->List D->Prop)(a b:List D)(k ks:Nat):Prop:=∃(v:List Nat)(r:Bool),Nw v/\K k a [.s v,.b r]/\K ks b [.s (if r=true then v else [119,104,97,116])]
theorem AfH[HA K][Da K][Jz K][Hk K]{a b:List Nat}(G:b.length<=2000):AG5 K [.s a,.s b] [.s a,.s b] 677 681:=by
 have o:∀{a c:List Nat},a≠c->(a==c)=false:=λh=>by simpa using h
 by_cases H:a=[112,97,116,104]
 .subst H;have k:=AkP (K:=K) (w:=b) (by omega);have ks:=AmE (K:=K) (w:=b) (by omega);refine⟨if AK b=true then Gf b 9 else [],AK b,?_,?_,?_⟩;split;rename_i h;exact⟨by have:=Rj h 9;omega,AQT 9⟩;exact R5
  .refine qb MQ ?_;simp(disch:=try exact dV) only[AD,BK,Nat.reduceBEq];repeat(refine cB (by first|exact k|exact Bz (by omega)|fail) ?_;try simp(disch:=try exact dV) only[AD,BK,Nat.reduceBEq])
  refine qb MM ?_;simp(disch:=try exact dV) only[AD,BK,Nat.reduceBEq];refine cB (Bu (by omega)) ?_
  cases h:AK b
  .simp(disch:=try exact dV) only[AD,BK,Nat.reduceBEq];try rfl
  rw[if_pos h]at ks;simp(disch:=try exact dV) only[AD,BK,Nat.reduceBEq];refine cB ks ?_;simp(disch:=try exact dV) only[AD,BK,Nat.reduceBEq];try rfl
 by_cases e:a=[107,105,110,100,115]
 .subst e;have k:=kl_i (K:=K) (w:=b) (by omega);have ks:=kl_s (K:=K) (w:=b) (by omega);refine⟨if AK b=true then G8 b 9 else [],AK b,?_,?_,?_⟩;split;rename_i h;exact⟨by have:=RN h 9;omega,AOK h 9⟩;exact R5
  .refine qb MQ ?_;simp(disch:=try exact dV) only[AD,BK,Nat.reduceBEq];repeat(refine cB (by first|exact k|exact Bz (by omega)|fail) ?_;try simp(disch:=try exact dV) only[AD,BK,Nat.reduceBEq])
  refine qb MM ?_;simp(disch:=try exact dV) only[AD,BK,Nat.reduceBEq];refine cB (Bu (by omega)) ?_
  cases h:AK b
  .simp(disch:=try exact dV) only[AD,BK,Nat.reduceBEq];try rfl
  rw[if_pos h]at ks;simp(disch:=try exact dV) only[AD,BK,Nat.reduceBEq];refine cB ks ?_;simp(disch:=try exact dV) only[AD,BK,Nat.reduceBEq];try rfl
 by_cases f:a=[116,114,101,101]
 .subst f;obtain⟨v,x,k,ks⟩:=AW5 (K:=K) b;refine⟨v,Az b,x,?_,?_⟩
  .refine qb MQ ?_;simp(disch:=try exact dV) only[AD,BK,Nat.reduceBEq];repeat(refine cB (by first|exact k|exact Ka|fail) ?_;try simp(disch:=try exact dV) only[AD,BK,Nat.reduceBEq])
  refine qb MM ?_;simp(disch:=try exact dV) only[AD,BK,Nat.reduceBEq];refine cB Ev ?_
  cases h:Az b
  .simp(disch:=try exact dV) only[AD,BK,Nat.reduceBEq];try rfl
  simp(disch:=try exact dV) only[AD,BK,Nat.reduceBEq];refine cB ks ?_;simp(disch:=try exact dV) only[AD,BK,Nat.reduceBEq];try rfl
 by_cases g:a=[99,111,117,110,116]
 .subst g;obtain⟨v,x,k,ks⟩:=AU2 (K:=K) (pR b);refine⟨Hz v,C7 b,Oa x,?_,?_⟩
  .refine qb MQ ?_;simp(disch:=try exact dV) only[AD,BK,Nat.reduceBEq];repeat(refine cB (by first|exact Ng (by omega)|exact k|exact Ph|fail) ?_;try simp(disch:=try exact dV) only[AD,BK,Nat.reduceBEq])
  refine qb MM ?_;simp(disch:=try exact dV) only[AD,BK,Nat.reduceBEq];refine cB (Qo (by omega)) ?_
  cases h:C7 b
  .simp(disch:=try exact dV) only[AD,BK,Nat.reduceBEq];try rfl
  simp(disch:=try exact dV) only[AD,BK,Nat.reduceBEq];repeat(refine cB (by first|exact ks|exact PM|fail) ?_;try simp(disch:=try exact dV) only[AD,BK,Nat.reduceBEq])
 have F:=AeL (K:=K) (s:=b) (by omega);have C:=Ra (K:=K) (s:=b) (b:=44) (by omega);have l:(Bp (AO 44 b)).length<=1048576:=by have:=WA (ps:=AO 44 b);have:=(Gn (b:=44) (s:=b) (acc:=[])).2;change (AO 44 b).length<=b.length+1 at this;omega
 generalize Bp (AO 44 b)=q at*;generalize Cm (AO 44 b)=z at*;by_cases i:a=[102,114,105,101,122,101]
 .subst i;have k:=AZF (K:=K) (q:=q) l;have ks:=AeC (K:=K) (q:=q) l;refine⟨Hz (IT q),z,Oa ⟨AY4 q,AYG⟩,?_,?_⟩
  .refine qb MQ ?_;simp(disch:=try exact dV) only[AD,BK,Nat.reduceBEq];repeat(refine cB (by first|exact F|exact k|exact Ph|fail) ?_;try simp(disch:=try exact dV) only[AD,BK,Nat.reduceBEq])
  refine qb MM ?_;simp(disch:=try exact dV) only[AD,BK,Nat.reduceBEq];refine cB C ?_
  cases z
  .simp(disch:=try exact dV) only[AD,BK,Nat.reduceBEq];try rfl
  simp(disch:=try exact dV) only[AD,BK,Nat.reduceBEq];repeat(refine cB (by first|exact ks|exact PM|fail) ?_;try simp(disch:=try exact dV) only[AD,BK,Nat.reduceBEq])
 by_cases j:a=[115,111,114,116]
 .subst j;have k:=AhY (K:=K) (p:=q) l;have ks:=AgJ (K:=K) (p:=q) l;have B:Nc (DT q) [] (Hu q) (IH q) []:=by have H:=AYS q l;exact⟨by have:=AlW (p:=q);omega,by have:=H.ln;omega,by have:=H.lo;omega,by simp,by simp⟩
  refine⟨if Cb q=true then Ct (KJ q) (DT q) [] (Hu q) (IH q) []else [110,111],z,?_,?_,?_⟩;exact WJ
  .refine qb MQ ?_;simp(disch:=try exact dV) only[AD,BK,Nat.reduceBEq];refine cB F ?_;simp(disch:=try exact dV) only[AD,BK,Nat.reduceBEq];refine cB k ?_
   cases Cb q
   .simp(disch:=try exact dV) only[AD,BK,Nat.reduceBEq,EJ,F3];try rfl
   simp(disch:=try exact dV) only[AD,BK,Nat.reduceBEq,EJ,F3];refine cB (V7 B) ?_;simp(disch:=try exact dV) only[AD,BK,Nat.reduceBEq];try rfl
  refine qb MM ?_;simp(disch:=try exact dV) only[AD,BK,Nat.reduceBEq];refine cB C ?_
  cases z
  .simp(disch:=try exact dV) only[AD,BK,Nat.reduceBEq];try rfl
  simp(disch:=try exact dV) only[AD,BK,Nat.reduceBEq];refine cB ks ?_;simp(disch:=try exact dV) only[AD,BK,Nat.reduceBEq,EJ,F3];refine cB (Ub B) ?_;simp(disch:=try exact dV) only[AD,BK,Nat.reduceBEq];try rfl
 refine⟨[],false,R5,?_,?_⟩;refine qb MQ ?_;simp(disch:=try exact dV) only[AD,BK,Nat.reduceBEq,o H,o e,o f,o g,o i,o j];refine qb MM ?_;simp(disch:=try exact dV) only[AD,BK,Nat.reduceBEq,o H,o e,o f,o g,o i,o j];try rfl
end Go.Cat
namespace Go.Cat
variable{K:Nat->List D->List D->Prop}
set_option maxRecDepth 100000
set_option maxHeartbeats 2000000 in
theorem AZ4[HA K][Da K]{a b c:List Nat}(M:b.length<=2000)(N:c.length<=2000):AG5 K [.s a,.s b,.s c] [.s a,.s b,.s c] 678 682:=by
 have o:∀{a c:List Nat},a≠c->(a==c)=false:=λh=>by simpa using h
 have I:=Ka (K:=K) (s:=b);have e:=Ka (K:=K) (s:=c);have sb:=Ev (K:=K) (s:=b);have G:=Ev (K:=K) (s:=c);by_cases H:a=[112,97,105,114]
 .subst H;obtain⟨v,C,i,ks⟩:=AjZ (K:=K) b c;refine⟨Hz v,Az b&&Az c,Oa C,?_,?_⟩
  .refine qb Og ?_;generalize Az b=x at*;generalize Az c=y at*
   cases x<;>cases y
   all_goals
    simp(disch:=try exact dV) only[AD,BK,Nat.reduceBEq,D0,EJ,F3]
    repeat(refine cB (by first|exact I|exact e|exact i|exact Ph|fail) ?_;try simp(disch:=try exact dV) only[AD,BK,Nat.reduceBEq,D0,EJ,F3])
  refine qb QX ?_;generalize Az b=x at*;generalize Az c=y at*
  cases x<;>cases y
  all_goals
   simp(disch:=try exact dV) only[AD,BK,Nat.reduceBEq,D0]
   repeat(refine cB (by first|exact sb|exact G|exact ks|exact PM|fail) ?_;try simp(disch:=try exact dV) only[AD,BK,Nat.reduceBEq,D0])
   try rfl
 by_cases g:a=[115,105,101,118,101]
 .subst g;obtain⟨v,C,i,ks⟩:=AWV (K:=K) b (pR c);have P:=Ng (K:=K) (s:=c) (by omega);have ps:=Qo (K:=K) (s:=c) (by omega);refine⟨Hz v,C7 c,Oa C,?_,?_⟩
  .refine qb Og ?_;generalize Az b=x at*;generalize Az c=y at*
   cases x<;>cases y
   all_goals
    simp(disch:=try exact dV) only[AD,BK,Nat.reduceBEq,D0,EJ,F3]
    repeat(refine cB (by first|exact I|exact e|exact P|exact i|exact Ph|fail) ?_;try simp(disch:=try exact dV) only[AD,BK,Nat.reduceBEq,D0,EJ,F3])
  refine qb QX ?_;simp(disch:=try exact dV) only[AD,BK,Nat.reduceBEq,D0];refine cB ps ?_
  cases h:C7 c
  .simp(disch:=try exact dV) only[AD,BK,Nat.reduceBEq,D0];try rfl
  simp(disch:=try exact dV) only[AD,BK,Nat.reduceBEq,D0];repeat(refine cB (by first|exact ks|exact PM|fail) ?_;try simp(disch:=try exact dV) only[AD,BK,Nat.reduceBEq,D0])
 by_cases j:a=[111,114,100,101,114]
 .subst j;obtain⟨k,f,s,t,w,L,J,i,ks⟩:=Ak6 (K:=K) b c;have l:Nc f t [] [] []:=⟨by omega,by simp,by simp,by simp,by simp⟩;have F:=V7 (K:=K) (k:=k) (s:=s) l;have B:=Ub (K:=K) (k:=k) (s:=s) (w:=w) l;refine⟨if w=true then Ct k f t [] [] []else [110,111],Az b&&Az c,?_,?_,?_⟩;exact WJ
  .refine qb Og ?_;generalize Az b=x at*;generalize Az c=y at*
   cases x<;>cases y<;>cases w
   all_goals
    simp(disch:=try exact dV) only[AD,BK,Nat.reduceBEq,D0,EJ,F3]
    repeat(refine cB (by first|exact I|exact e|exact i|exact F|fail) ?_;try simp(disch:=try exact dV) only[AD,BK,Nat.reduceBEq,D0,EJ,F3])
    try rfl
  refine qb QX ?_;generalize Az b=x at*;generalize Az c=y at*
  cases x<;>cases y
  all_goals
   simp(disch:=try exact dV) only[AD,BK,Nat.reduceBEq,D0]
   repeat(refine cB (by first|exact sb|exact G|exact ks|exact B|fail) ?_;try simp(disch:=try exact dV) only[AD,BK,Nat.reduceBEq,D0,EJ,F3])
   try rfl
 by_cases q:a=[100,105,115,116,97,110,99,101]
 .subst q;obtain⟨k,f,s,t,w,L,J,i,ks⟩:=AbL (K:=K) b c;have l:Nc f t [] [] []:=⟨by omega,by simp,by simp,by simp,by simp⟩;have F:=V7 (K:=K) (k:=k) (s:=s) l;have B:=Ub (K:=K) (k:=k) (s:=s) (w:=w) l;refine⟨if w=true then Ct k f t [] [] []else [110,111],Az b&&Az c,?_,?_,?_⟩;exact WJ
  .refine qb Og ?_;generalize Az b=x at*;generalize Az c=y at*
   cases x<;>cases y<;>cases w
   all_goals
    simp(disch:=try exact dV) only[AD,BK,Nat.reduceBEq,D0,EJ,F3]
    repeat(refine cB (by first|exact I|exact e|exact i|exact F|fail) ?_;try simp(disch:=try exact dV) only[AD,BK,Nat.reduceBEq,D0,EJ,F3])
    try rfl
  refine qb QX ?_;generalize Az b=x at*;generalize Az c=y at*
  cases x<;>cases y
  all_goals
   simp(disch:=try exact dV) only[AD,BK,Nat.reduceBEq,D0]
   repeat(refine cB (by first|exact sb|exact G|exact ks|exact B|fail) ?_;try simp(disch:=try exact dV) only[AD,BK,Nat.reduceBEq,D0,EJ,F3])
   try rfl
 refine⟨[],false,R5,?_,?_⟩
 .refine qb Og ?_;generalize Az b=x at*;generalize Az c=y at*
  cases x<;>cases y
  all_goals
   simp(disch:=try exact dV) only[AD,BK,Nat.reduceBEq,D0,EJ,F3,o H,o g,o j,o q]
   repeat(refine cB (by first|exact I|exact e|fail) ?_;try simp(disch:=try exact dV) only[AD,BK,Nat.reduceBEq,D0,EJ,F3,o H,o g,o j,o q])
 refine qb QX ?_;simp(disch:=try exact dV) only[AD,BK,Nat.reduceBEq,D0,o H,o g,o j,o q];try rfl
end Go.Cat
namespace Go.Cat
variable{K:Nat->List D->List D->Prop}
set_option maxRecDepth 100000
theorem OQ{b:Nat}{P:Nat->Prop}:∀{s acc:List Nat}{p:List Nat},(∀c∈acc,P c)->(∀c∈s,P c)->p∈C5 b acc s->∀c∈p,P c
 |[],acc,p,e,_,h=>by simp only[C5,List.mem_singleton]at h;rw[h];exact e
 |a::s,acc,p,e,f,h=>by simp only[C5]at h;split at h;rcases A6.1 h with rfl|h;exact e;exact OQ (acc:=[]) (by simp) (λc H=>f c (BP _ H)) h;refine OQ (acc:=acc++[a]) (λc H=>?_) (λc H=>f c (BP _ H)) h;rcases A9.1 H with q|q;exact e c q;rw[List.mem_singleton.1 q];exact f a (by simp)
set_option maxHeartbeats 2000000 in
theorem AhC[HA K][Da K][Jz K][Hk K][OV K]{l:List Nat}(V:l.length<=2000)(L:∀c∈l,c<256):∃v:List Nat,Nw v/\K 672 [LS (AO 32 l)] [.s v]/\K 674 [.s l] [.s v]:=by
 have M:∀p∈AO 32 l,p.length<=2000/\∀c∈p,c<256:=λp F=>by have:=MA F;simp only[A5]at this;exact⟨by omega,OQ (P:=λc=>c<256) (by simp) L F⟩
 have H:=AHD (K:=K) (s:=l) (b:=32) (by omega);have h0:=(Gn (b:=32) (s:=l) (acc:=[])).1;have J:=(Gn (b:=32) (s:=l) (acc:=[])).2;change 0<(AO 32 l).length at h0;change (AO 32 l).length<=l.length+1 at J;generalize AO 32 l=ws at*;have h:∀i:Nat,i<ws.length->(AF ws i).length<=2000/\∀c∈AF ws i,c<256:=λi hi=>M _ (by simp[AF,hi]);by_cases Y:ws.length=2;have w0:=h 0 (by omega);have W:=h 1 (by omega);obtain⟨v,r,f,g,ks⟩:=AfH (K:=K) (a:=AF ws 0) (b:=AF ws 1) W.1;refine⟨if r=true then v else [119,104,97,116],by cases r<;>first|exact f|exact QB,?_,?_⟩;refine qw On ?_;refine cB g ?_
 cases r;exact wZ;exact wZ;refine qw OU ?_;refine cW H ?_;exact cZ ks;by_cases Z:ws.length=3;have w0:=h 0 (by omega);have W:=h 1 (by omega);have G:=h 2 (by omega);obtain⟨v,r,f,g,ks⟩:=AZ4 (K:=K) (a:=AF ws 0) (b:=AF ws 1) (c:=AF ws 2) W.1 G.1;refine⟨if r=true then v else [119,104,97,116],by cases r<;>first|exact f|exact QB,?_,?_⟩;refine qw On ?_;refine cB g ?_
 cases r;exact wZ;exact wZ;refine qw OU ?_;refine cW H ?_;exact cZ ks;by_cases n4:ws.length=4
 .have W:=h 1 (by omega);have G:=h 2 (by omega);have B:=h 3 (by omega);have w4:(AF ws 3).length<=2000:=B.1;have e:∀x:List Nat,Ai.contains x=decide (x∈Ai):=λx=>by simp
  have I:=ATH (K:=K) (p:=Ai) (x:=AF ws 1) (by decide);have c2:=ATH (K:=K) (p:=Ai) (x:=AF ws 2) (by decide);have s1:=WY (K:=K) (ws:=Ai) (k:=AF ws 1) (by decide);have s2:=WY (K:=K) (ws:=Ai) (k:=AF ws 2) (by decide);rw[e]at s1 s2;obtain⟨z,T⟩:=OV.ex (K:=K) (AF ws 3) (by omega) B.2;have R:=AhJ (K:=K) (s:=AF ws 3) (by omega);have hd:(CP (AF ws 3)).length<=2000:=by simp[CP];omega
  have j:∀c∈CP (AF ws 3),c<256:=λc C=>by simp only[CP,List.mem_map]at C;obtain⟨x,O,rfl⟩:=C;have:=B.2 x O;split<;>omega
  have g:=AbQ (K:=K) (a:=AF ws 1) (b:=AF ws 2) (s:=CP (AF ws 3)) (by omega);have ks:=AjU (K:=K) (a:=AF ws 1) (b:=AF ws 2) (s:=CP (AF ws 3)) (by omega) j;have N:=AZY (a:=AF ws 1) (b:=AF ws 2) (s:=CP (AF ws 3));have f:(Jj (AF ws 1) (AF ws 2) (CP (AF ws 3))).length<=100000:=by unfold Jj;split;have:=AhI (k:=AF ws 2) (w:=E5 (AF ws 1) (CP (AF ws 3)));omega;simp
  generalize Jj (AF ws 1) (AF ws 2) (CP (AF ws 3))=v at*;generalize Pe (AF ws 1) (AF ws 2) (CP (AF ws 3))=w at*;have U:=Ph (K:=K) (v:=v);have os:=PM (K:=K) (v:=v);generalize decide (AF ws 1∈Ai)=q at*;generalize decide (AF ws 2∈Ai)=Q at*;have o:=Oa ⟨f,N⟩
  cases hq:(AF ws 0==[99,111,110,118,101,114,116])
  .refine⟨[119,104,97,116],QB,?_,?_⟩
   .refine qb On ?_;simp(disch:=try exact dV) only[AD,hq];try rfl
   refine qw OU ?_;refine cB H ?_;simp(disch:=try exact dV) only[AD,hq];try rfl
  refine⟨if q=true/\Q=true then Hz v else [119,104,97,116],by split<;>first|exact o|exact QB,?_,?_⟩
  .refine qb On ?_
   cases q<;>cases Q
   all_goals
    simp(disch:=try exact dV) only[AD,hq]
    repeat(refine cB (by first|exact AAZ|exact I|exact c2|exact T|exact g|exact U|fail) ?_;try simp(disch:=try exact dV) only[AD,hq])
    try rfl
  refine qb OU ?_
  cases q<;>cases Q
  all_goals
   refine wW ?_
   repeat(refine cB (by first|exact H|exact Js|exact s1|exact s2|exact R|exact ks|exact os|fail) ?_;try simp(disch:=try exact dV) only[AD,hq])
   try rfl
 refine⟨[119,104,97,116],QB,?_,?_⟩;exact qz On;refine qw OU ?_;exact cZ H
end Go.Cat
namespace Go.Cat
variable{K:Nat->List D->List D->Prop}
set_option maxRecDepth 100000
theorem TE{ss:List (List Nat)}{j:Int}(h:0<=j/\j<=ss.length):FC (LS ss) none (some (.n j))=some (LS (sub ss 0 j)):=Jq D.s Jv (Fp (by omega)) (by omega) (by omega)
def Bw(ws:List (List Nat)):List (List Nat):=if AF ws ((ws.length:Int)-1)=[]then sub ws 0 ((ws.length:Int)-1)else ws
def oG(g:Nat->List Nat)(ws:List (List Nat)):Nat->List Nat
 |0=>[]
 |i+1=>if AF ws i=[]then oG g ws i else oG g ws i++g i++[10]
def II(g:Nat->List Nat)(s:List Nat):List Nat:=if 2000<s.length then []else if 20<(Bw (AO 10 s)).length then []else oG g (Bw (AO 10 s)) (Bw (AO 10 s)).length
theorem AH0{g:Nat->List Nat}{s:List Nat}(h:2000<s.length):II g s=[]:=by simp[II,h]
theorem AR6{ws:List (List Nat)}:(Bw ws).length<=ws.length:=by unfold Bw;split;rw[J6];omega;exact Nat.le_refl _
theorem WB{ws:List (List Nat)}{i:Nat}(h:i<(Bw ws).length):AF (Bw ws) i∈ws:=by
 have:AF (Bw ws) i∈Bw ws:=by simp[AF,h]
 unfold Bw at this|-;split at this;rename_i q;rw[if_pos q];simp only[sub,Int.toNat_zero,List.drop_zero]at this|-;exact List.mem_of_mem_take this;rename_i q;rw[if_neg q];exact this
theorem Ta{g:Nat->List Nat}{us:List (List Nat)}(H:∀i,i<us.length->(g i).length<=100000):∀i,i<=us.length->(oG g us i).length<=100001*i
 |0,_=>by simp[oG]
 |i+1,h=>by have a:=Ta H i (by omega);have b:=H i (by omega);simp only[oG];split;omega;simp only[AW,AP,A5];omega
theorem R9{s:List Nat}:0<(AO 10 s).length/\(AO 10 s).length<=s.length+1/\∀i,i<(Bw (AO 10 s)).length->(AF (Bw (AO 10 s)) i).length<=s.length:=
 ⟨(Gn (b:=10) (s:=s) (acc:=[])).1,(Gn (b:=10) (s:=s) (acc:=[])).2,λi hi=>by
   have:(AF (Bw (AO 10 s)) i).length<=([]:List Nat).length+s.length:=MA (WB hi)
   simp only[A5]at this
   omega⟩
theorem RS{a:List Nat}:(a==([]:List Nat))=decide (a=[]):=by cases h:(a==([]:List Nat))<;>simp_all
set_option maxHeartbeats 1000000 in
theorem AV1[HA K]{s:List Nat}{g:Nat->List Nat}(H:s.length<=2000->∀i,i<(Bw (AO 10 s)).length->(g i).length<=100000/\K 672 [LS (AO 32 (AF (Bw (AO 10 s)) i))] [.s (g i)])(O:s.length<=1048576):K 667 [.s s] [.s (II g s)]:=by
 refine qb I667 ?_;by_cases o:2000<s.length;rw[AH0 o];exact wZ;by_cases h0:s=[];subst h0;exact wZ;have f:(s==([]:List Nat))=false:=by simpa using h0
 have H:=H (by omega);obtain⟨I,J,B⟩:=R9 (s:=s);have k:=AR6 (ws:=AO 10 s);have C:II g s=if 20<(Bw (AO 10 s)).length then []else oG g (Bw (AO 10 s)) (Bw (AO 10 s)).length:=by simp[II,o]
 simp(disch:=try exact dV) only[AD,f];refine cB (Mc (by omega)) ?_;rw[C];clear C;generalize AO 10 s=ws at*;obtain⟨us,l⟩:∃us,us=Bw ws:=⟨_,rfl⟩;rw[<-l]at H B k|-;have q:=RS (a:=AF ws ((ws.length:Int)-1));by_cases b:AF ws ((ws.length:Int)-1)=[]
 all_goals
  first
  |(have e:sub ws 0 ((ws.length:Int)-1)=us:=by rw[l,Bw,if_pos b]
    rw[decide_eq_true b]at q
    simp(disch:=try exact dV) only[AD,q,TE,e])
  |(have e:ws=us:=by rw[l,Bw,if_neg b]
    rw[decide_eq_false b]at q
    simp(disch:=try exact dV) only[AD,q,TE]
    rw[e])
  by_cases x:20<us.length
  .refine wW ?_
   rw[if_pos x]
  rw[if_neg x]
  refine wW ?_
  refine AN (λ_=>True) (λi=>[.u,.u,.u,.s (oG g us i),.u,.u,.u,.u,LS us,.n us.length,.n i,.u,.u]) us.length trivial rfl (λi hi _=>?_) (λ_=>?_)
  .have N:=Ta (λj G=>(H j G).1) i (by omega)
   obtain⟨F,M⟩:=H i hi
   have L:=B i hi
   have h:=RS (a:=AF us i)
   by_cases c:AF us i=[]
   .rw[decide_eq_true c]at h
    simp(disch:=try exact dV) only[AD,h]
    simp only[oG,if_pos c]
   .rw[decide_eq_false c]at h
    simp(disch:=try exact dV) only[AD,h]
    refine cW (Mc (by omega)) ?_
    refine cW M ?_
    simp only[oG,if_neg c]
  .exact wZ
set_option maxHeartbeats 1000000 in
theorem AgN[HA K]{s:List Nat}{g:Nat->List Nat}(H:s.length<=2000->∀i,i<(Bw (AO 10 s)).length->(g i).length<=100000/\K 674 [.s (AF (Bw (AO 10 s)) i)] [.s (g i)])(M:s.length<=1048576):K 668 [.s s] [.s (II g s)]:=by
 refine qb I668 ?_;by_cases l:2000<s.length;rw[AH0 l];exact wZ;have H:=H (by omega);obtain⟨F,G,I⟩:=R9 (s:=s);have f:=AR6 (ws:=AO 10 s);have x:II g s=if 20<(Bw (AO 10 s)).length then []else oG g (Bw (AO 10 s)) (Bw (AO 10 s)).length:=by simp[II,l]
 refine wW ?_;refine cB (AHD (by omega)) ?_;rw[x];clear x;generalize AO 10 s=ws at*;obtain⟨us,k⟩:∃us,us=Bw ws:=⟨_,rfl⟩;rw[<-k]at H I f|-;have q:=RS (a:=AF ws ((ws.length:Int)-1));by_cases b:AF ws ((ws.length:Int)-1)=[]
 all_goals
  first
  |(have e:sub ws 0 ((ws.length:Int)-1)=us:=by rw[k,Bw,if_pos b]
    rw[decide_eq_true b]at q
    simp(disch:=try exact dV) only[AD,q,TE,e])
  |(have e:ws=us:=by rw[k,Bw,if_neg b]
    rw[decide_eq_false b]at q
    simp(disch:=try exact dV) only[AD,q,TE]
    rw[e])
  by_cases o:20<us.length
  .refine wW ?_
   rw[if_pos o]
  rw[if_neg o]
  refine wW ?_
  refine AN (λ_=>True) (λi=>[.u,.u,LS us,.s (oG g us i),.n i,.u,.u,.u,.u,.u]) us.length trivial rfl (λi hi _=>?_) (λ_=>?_)
  .have L:=Ta (λj C=>(H j C).1) i (by omega)
   obtain⟨B,J⟩:=H i hi
   have h:=RS (a:=AF us i)
   by_cases c:AF us i=[]
   .rw[decide_eq_true c]at h
    simp(disch:=try exact dV) only[AD,h]
    simp only[oG,if_pos c]
   .rw[decide_eq_false c]at h
    simp(disch:=try exact dV) only[AD,h]
    refine cW J ?_
    simp only[oG,if_neg c]
  .exact wZ
end Go.Cat
namespace Go.Cat
variable{K:Nat->List D->List D->Prop}
set_option maxRecDepth 100000
def J4(f:List Nat->List Nat)(s:List Nat):List Nat:=II (λi=>f (AF (Bw (AO 10 s)) i)) s
theorem AjR[HA K][Da K][Jz K][Hk K][OV K]:∃f:List Nat->List Nat,(∀l,l.length<=2000->(∀c∈l,c<256)->Nw (f l))/\∀s,s.length<=1048576->(∀c∈s,c<256)->K 667 [.s s] [.s (J4 f s)]/\K 668 [.s s] [.s (J4 f s)]:=by
 obtain⟨f,H⟩:=Classical.axiomOfChoice λl:List Nat=>show ∃v:List Nat,l.length<=2000->(∀c∈l,c<256)->Nw v/\K 672 [LS (AO 32 l)] [.s v]/\K 674 [.s l] [.s v] by by_cases h:l.length<=2000/\∀c∈l,c<256;obtain⟨v,g⟩:=AhC (K:=K) h.1 h.2;exact⟨v,λ_ _=>g⟩;exact⟨[],λa b=>(h ⟨a,b⟩).elim⟩
 refine⟨f,λl a b=>(H l a b).1,λs e j=>?_⟩;have h:=λ(k:s.length<=2000) i (hi:i<(Bw (AO 10 s)).length)=>H (AF (Bw (AO 10 s)) i) (by have:=(R9 (s:=s)).2.2 i hi;omega) (OQ (P:=λc=>c<256) (by simp) j (WB hi));exact⟨AV1 (λa i b=>⟨(h a i b).1.1,(h a i b).2.1⟩) e,AgN (λa i b=>⟨(h a i b).1.1,(h a i b).2.2⟩) e⟩
end Go.Cat
namespace Go.Cat
set_option maxRecDepth 100000
variable{K:Nat->List D->List D->Prop}
def B8(s:List Nat):Prop:=∀c∈s,c<256
theorem Gh{a b:List Nat}(h:B8 a)(H:B8 b):B8 (a++b):=λc e=>(A9.1 e).elim (h c) (H c)
theorem QQ:B8 []:=λc h=>by cases h
theorem Qn{a:Nat}{b:List Nat}(H:a<256)(e:B8 b):B8 (a::b):=λc f=>by
 rcases A6.1 f with rfl|h
 exact H
 exact e c h
theorem KC{s:List Nat}{a b:Int}(h:B8 s):B8 (sub s a b):=λc H=>h c (List.mem_of_mem_take (List.mem_of_mem_drop H))
theorem AiZ[HA K]{d:D}(hd:El d):∃rs,(∃x j,rs=[.s x,j]/\((x.length:Int)<=3/\B8 x)/\El j)/\K 327 [d,.n 3] rs:=by
 refine qx I327 ?_;obtain⟨_,⟨y,N,rfl,P,g⟩,L⟩:=Jl (K:=K) hd (n:=4);obtain⟨_,⟨n,B,rfl,o,i⟩,M⟩:=Jl (K:=K) g (n:=3+1);have o:=o.2 (by omega);refine wW ?_;refine cW L ?_;refine cW M ?_;rw[Vx];refine Bd (λ(q:D×List Nat×Int)=>El q.1/\(0<=q.2.2/\(q.2.1.length:Int)+q.2.2<=3)/\∀c∈q.2.1,c<256) (λq=>[q.1,.u,.u,LB q.2.1,.n y,.n q.2.2,.u,.u,.u,.u]) (λq=>q.2.2.toNat) (B,[],n) ⟨i,by simp;omega,by simp⟩ rfl ?_;rintro⟨C,x,r⟩ ⟨h,J,e⟩;simp only at h J e|-;by_cases h0:0<r;obtain⟨_,⟨b,f,rfl,I,H⟩,k⟩:=M0 (K:=K) h;have fin:∀b:Int,(0<=b/\b<=255)->∀c∈x++[b.toNat],c<256:=by intro b I c a;rcases A9.1 a with a|a;exact e c a;simp at a;omega
 have O:∀{l:List Nat},(x++l).length=x.length+l.length:=by simp
 by_cases F:y=1;refine wW ?_;refine cB k ?_;simp(disch:=try exact dV) only[AD,F];exact⟨(f,x++[(b%2).toNat],r-1),by show(r-1).toNat<r.toNat;omega,⟨H,by simp;omega,fin _ (by omega)⟩,rfl⟩;by_cases G:y=2;refine wW ?_;refine cB k ?_;simp(disch:=try exact dV) only[AD,G];exact⟨(f,x++[(97+b%4).toNat],r-1),by show(r-1).toNat<r.toNat;omega,⟨H,by simp;omega,fin _ (by omega)⟩,rfl⟩;refine wW ?_;refine cW k ?_;exact⟨(f,x++[b.toNat],r-1),by show(r-1).toNat<r.toNat;omega,⟨H,by simp;omega,fin _ (by omega)⟩,rfl⟩;simp(disch:=try exact dV) only[AD,NU e];exact⟨x,C,rfl,⟨by omega,e⟩,h⟩
theorem AfT{x:Int}:B8 [(IntKind.u8.wrap x).toNat]:=Qn (by have:=u8r x;omega) QQ
theorem AiD[HA K]{d:D}(hd:El d){w:List Nat}(J:w.length<=1000000)(H:B8 w):∃rs,(∃x g,rs=[.s x,g]/\(x.length<=w.length+3/\B8 x)/\El g)/\K 315 [d,.s w] rs:=by refine qx I315 ?_;by_cases h0:w.length=0;obtain⟨_,⟨x,j,rfl,F,a⟩,e⟩:=AiZ (K:=K) hd;refine wW ?_;refine cW e ?_;exact⟨_,_,rfl,⟨by omega,F.2⟩,a⟩;obtain⟨_,⟨k,j,rfl,i,a⟩,e⟩:=Jl (K:=K) hd (n:=w.length);obtain⟨_,⟨y,I,rfl,L,h⟩,G⟩:=Jl (K:=K) a (n:=4);have i:=i.2 (by omega);refine wW ?_;refine cW e ?_;refine cW G ?_;by_cases o:y=0;simp(disch:=try exact dV) only[AD,o];refine⟨_,_,rfl,⟨?_,Gh (KC H) (KC H)⟩,h⟩;simp only[AW,vl];omega;by_cases q:y=1;obtain⟨_,⟨b,l,rfl,C,c⟩,f⟩:=M0 (K:=K) h;simp(disch:=try exact dV) only[AD,q];refine cB f ?_;simp(disch:=try exact dV) only[AD,AO6,AK9];refine⟨_,_,rfl,⟨?_,Gh (Gh (KC H) (Qn (by omega) QQ)) (KC H)⟩,c⟩;simp only[AW,vl,AP,A5];omega;by_cases B:y=2;simp(disch:=try exact dV) only[AD,B];refine⟨_,_,rfl,⟨?_,KC H⟩,h⟩;simp only[vl];omega;obtain⟨_,⟨b,l,rfl,C,c⟩,f⟩:=Jl (K:=K) h (n:=255);refine wW ?_;refine cB f ?_;simp(disch:=try exact dV) only[AD,Y2,AO6,AK9];refine⟨_,_,rfl,⟨?_,Gh (Gh (KC H) AfT) (KC H)⟩,c⟩;simp only[AW,vl,AP,A5];omega
end Go.Cat
namespace Go.Cat
set_option maxRecDepth 100000
variable{K:Nat->List D->List D->Prop}
theorem JM[HA K]{d:D}(hd:El d){l:List (List Nat)}(h0:0<l.length)(f:l.length<=1000)(H:∀y∈l,y.length<=25/\∀c∈y,c<256):∃rs,(∃x a,rs=[.s x,a]/\(x.length<=25/\B8 x)/\El a)/\K 318 [d,LS l] rs:=by obtain⟨_,⟨x,b,rfl,e,h⟩,k⟩:=AVX (K:=K) hd h0 (by omega);exact⟨_,⟨x,b,rfl,H x e,h⟩,k⟩
theorem AZ2[HA K]{d:D}(hd:El d):∃rs,(∃x q,rs=[.s x,q]/\(x.length<=80/\B8 x)/\El q)/\K 675 [d] rs:=by
 refine qx I675 ?_;obtain⟨_,⟨n,P,rfl,T,H⟩,M⟩:=Jl (K:=K) hd (n:=6);simp(disch:=try exact dV) only[AD,L0,LH];refine cB M ?_;obtain⟨_,⟨t,Q,rfl,J,g⟩,N⟩:=JM (K:=K) H (l:=[[40,46,40,46,46,41,41],[40,40,46,46,41,46,41],[40,46,46,41],[46],[40,40,46,46,41,40,46,46,41,41]]) (by simp) (by simp) (by decide);by_cases h0:n=0;obtain⟨_,⟨x,f,rfl,b,h⟩,k⟩:=JM (K:=K) H (l:=[[112,97,116,104,32],[107,105,110,100,115,32]]) (by simp) (by simp) (by decide);obtain⟨_,⟨y,B,rfl,j,e⟩,o⟩:=JM (K:=K) h (l:=[[117,117,100,100],[117,100,117,100],[117,117,100,117,100],[100,117],[]]) (by simp) (by simp) (by decide);simp(disch:=try exact dV) only[AD,h0,L0,LH];refine cB k ?_;simp(disch:=try exact dV) only[AD,L0,LH];refine cW o ?_;exact⟨_,_,rfl,⟨by simp;omega,Gh b.2 j.2⟩,e⟩;by_cases C:n=1;obtain⟨_,⟨x,f,rfl,b,h⟩,k⟩:=JM (K:=K) H (l:=[[112,97,105,114,32],[111,114,100,101,114,32],[100,105,115,116,97,110,99,101,32],[103,111,32]]) (by simp) (by simp) (by decide);obtain⟨_,⟨y,B,rfl,j,e⟩,o⟩:=JM (K:=K) h (l:=[[40,46,40,46,46,41,41],[40,40,46,46,41,46,41],[40,46,46,41],[46],[40,40,46,46,41,40,46,46,41,41]]) (by simp) (by simp) (by decide);obtain⟨_,⟨z,R,rfl,L,i⟩,O⟩:=JM (K:=K) e (l:=[[40,46,40,46,46,41,41],[40,40,46,46,41,46,41],[40,46,46,41],[46],[40,40,46,46,41,40,46,46,41,41]]) (by simp) (by simp) (by decide);simp(disch:=try exact dV) only[AD,C,L0,LH];refine cW k ?_;refine cW o ?_;refine cW O ?_;exact⟨_,_,rfl,⟨by simp;omega,Gh (Gh (Gh b.2 j.2) (Qn (by omega) QQ)) L.2⟩,i⟩;by_cases F:n=2;simp(disch:=try exact dV) only[AD,F];refine cW N ?_;exact⟨_,_,rfl,⟨by simp;omega,Gh (a:=[116,114,101,101,32]) (show ∀c∈[116,114,101,101,32],c<256 by decide) J.2⟩,g⟩;by_cases G:n=3
 obtain⟨_,⟨x,f,rfl,b,h⟩,k⟩:=JM (K:=K) H (l:=[[99,111,117,110,116,32,51],[99,111,117,110,116,32,57],[99,111,117,110,116,32,120],[102,114,105,101,122,101,32,49,44,50,44,49,44,50],[102,114,105,101,122,101,32,49,44,49],[115,111,114,116,32,49,44,50,44,48],[115,111,114,116,32,50,44,48,44,49],[115,105,101,118,101,32,109,97,116,99,104,105,110,103,115,32,50],[115,105,101,118,101,32,116,114,101,101,115,32,50]]) (by simp) (by simp) (by decide);simp(disch:=try exact dV) only[AD,G,L0,LH];refine cW k ?_;exact⟨_,_,rfl,⟨by omega,b.2⟩,h⟩;by_cases I:n=4;obtain⟨_,⟨x,f,rfl,b,h⟩,k⟩:=JM (K:=K) H (l:=[[112,97,116,104,32,98,105,110,97,114,121,32,117,117,100,100],[98,105,110,97,114,121,32,112,97,116,104,32,40,46,46,41],[109,97,116,99,104,105,110,103,32,112,97,116,104,32,48,45,49,95,50,45,51],[112,97,116,104,32,114,97,110,107,32,100,117],[100,105,97,103,111,110,97,108,115,32,98,105,110,97,114,121,32,52,58,95,48,50],[116,114,101,101,32,112,97,116,104,32,120]]) (by simp) (by simp) (by decide);simp(disch:=try exact dV) only[AD,I,L0,LH];refine cW k ?_;exact⟨_,_,rfl,⟨by simp;omega,Gh (a:=[99,111,110,118,101,114,116,32]) (show ∀c∈[99,111,110,118,101,114,116,32],c<256 by decide) b.2⟩,h⟩;obtain⟨_,⟨x,f,rfl,b,h⟩,k⟩:=JM (K:=K) H (l:=[[],[119,104,97,116],[112,97,116,104],[112,97,116,104,32,32,117,100],[112,97,105,114,32,40,46,46,41],[115,111,114,116,32,120]]) (by simp) (by simp) (by decide);simp(disch:=try exact dV) only[AD,L0,LH];refine cW k ?_;exact⟨_,_,rfl,⟨by omega,b.2⟩,h⟩
theorem AcL[HA K]{code:List Nat}(h:code.length<=1048576):∃s,(s.length<=1000/\B8 s)/\K 669 [LB code] [.s s]:=by
 have q:∃rs,(∃s,rs=[.s s]/\(s.length<=1000/\B8 s))/\K 669 [LB code] rs:=by
  refine qx I669 ?_;obtain⟨_,⟨d,rfl,hd⟩,I⟩:=AeT (K:=K) h;obtain⟨_,⟨n,l,rfl,j,e⟩,F⟩:=Jl (K:=K) hd (n:=4);have j:=j.2 (by omega);refine wW ?_;refine cW I ?_;refine cW F ?_;refine Bd (λ(q:D×List Nat×Int)=>El q.1/\(0<=q.2.2/\(q.2.1.length:Int)+81*q.2.2<=324)/\B8 q.2.1) (λq=>[.u,.u,q.1,.s q.2.1,.n q.2.2,.u,.u]) (λq=>q.2.2.toNat) (l,[],1+n) ⟨e,by simp;omega,QQ⟩ rfl ?_;rintro⟨J,x,r⟩ ⟨H,B,c⟩;simp only at H B c|-;by_cases h0:0<r;obtain⟨_,⟨y,i,rfl,f,a⟩,g⟩:=AZ2 (K:=K) H;refine wW ?_;refine cW g ?_;exact⟨(i,x++y++[10],r-1),by show(r-1).toNat<r.toNat;omega,⟨a,by simp;omega,Gh (Gh c f.2) (Qn (by omega) QQ)⟩,rfl⟩;obtain⟨_,⟨b,i,rfl,a⟩,g⟩:=AXD (K:=K) H (n:=14);obtain⟨_,⟨y,L,rfl,f,o⟩,G⟩:=AiD (K:=K) a (w:=x) (by omega) c;refine wW ?_;refine cB g ?_
  cases b;refine wW ?_;exact⟨_,rfl,by omega,c⟩;refine wW ?_;refine cW G ?_;exact⟨_,rfl,by omega,f.2⟩
 obtain⟨_,⟨s,rfl,C⟩,k⟩:=q;exact⟨s,C,k⟩
end Go.Cat
