/-
 Triangulations: any rows.
-/
import Derived.Test.YthoilpmggmenbaaGreatPfOrdC
import Derived.Test.YthoilpmggmenbaaGreatPfRdF
import Derived.Test.YthoilpmggmenbaaGreatPfSch
import Derived.Test.YthoilpmggmenbaaGreatPfSvC
set_option linter.unusedSimpArgs false
set_option linter.unusedVariables false
namespace Go.Cat
variable{K:Nat->List D->List D->Prop}
set_option maxRecDepth 100000
end Go.Cat
namespace Go.Cat
variable{K:Nat->List D->List D->Prop}
set_option maxRecDepth 100000
end Go.Cat
namespace Go.Cat
variable{K:Nat->List D->List D->Prop}
end Go.Cat
namespace Go.Cat
variable{K:Nat->List D->List D->Prop}
set_option maxRecDepth 100000
end Go.Cat
namespace Go.Cat
variable{K:Nat->List D->List D->Prop}
theorem AgR[HA K]{p:List (List Nat)}{x:List Nat}(h:p.length<=1000000):∃rs,(∃j:Int,rs=[.n j]/\decide (j>=0)=decide (x∈p)/\j<=1000000)/\K 654 [LS p,.s x] rs:=by
 refine qx I654 ?_;refine wW ?_;refine AN (λi=>x∉p.take i) (λi=>[LS p,.s x,.u,.u,.n p.length,.n i,.u,.u]) p.length (by simp) rfl (λi hi P=>?_) (λP=>?_);have a:p.take (i+1)=p.take i++[AG p i]:=by rw[CP hi];simp[AG,hi]
 have H:AG p i∈p:=by simp[AG,hi]
 cases c:(x==AG p i);simp(disch:=omega) only[AD,c];rw[a];intro q;rcases Ac.1 q with q|q;exact P q;simp only[List.mem_singleton]at q;rw[q]at c;simp at c;have e:x=AG p i:=by simpa using c
 simp(disch:=omega) only[AD,c];exact⟨_,rfl,by rw[e];simp[H],by omega⟩;rw[List.take_length]at P;refine wW ?_;exact⟨_,rfl,by simp[P],by omega⟩
theorem AE0[HA K]{p:List (List Nat)}{x:List Nat}(h:p.length<=1000000):K 651 [LS p,.s x] [.b (decide (x∈p))]:=by refine qb I651 ?_;obtain⟨_,⟨j,rfl,H,a⟩,k⟩:=AgR (K:=K) (x:=x) h;refine wW ?_;refine cW k ?_;exact Db (by rw[<-H])
end Go.Cat
namespace Go.Cat
set_option maxRecDepth 100000
theorem AkV:∀{w:List Nat}{h k:Int},Bl w h=some k->∀c∈w,c=117\/c=100
 |[],_,_,_,c,H=>by cases H
 |a::w,h,k,e,c,H=>by
  simp only[Bl]at e;split at e;rcases A7.1 H with rfl|q;left;assumption;exact AkV e c q;split at e;split at e
  cases e;rcases A7.1 H with rfl|q;right;assumption;exact AkV e c q
  cases e
theorem AkW{w:List Nat}(h:AK w=true):∀c∈w,c=117\/c=100:=by simp only[AK,AV,Aa]at h;exact AkV h.1
theorem AP4{w:List Nat}(h:AK w=true):10∉w:=λq=>by have:=AkW h 10 q;omega
theorem YU{r:List Int}:∀{i:Nat},10∉DS r i
 |0=>by simp[DS]
 |i+1=>by simp[DS,YU (i:=i),Fp]
theorem Yn{m:List Int}:∀i,∀x∈BV m i,10∉x
 |0,x,h=>by simp[BV]at h
 |i+1,x,h=>by simp only[BV]at h;split at h;rcases Ac.1 h with q|q;exact Yn i x q;rw[List.mem_singleton.1 q];simp[Fp];exact Yn i x h
theorem ZE{w:List Nat}(hd:AK w=true):∀i,10∉A8 w i
 |0=>AP4 hd
 |1=>by simp only[A8,Cv,List.mem_map];rintro⟨a,_,h⟩;unfold Fx at h;split at h<;>omega
 |2=>by simp only[A8,IT];split;exact Kh (by decide) (MX λ_=>Fp) _;decide
 |3=>MG
 |4=>by simp[A8,Fp,AC6]
 |5=>Kh (by decide) (MX λ_=>YU) _
 |6=>by simp only[A8,Fg];split;split;decide;exact Kh (by decide) (Yn _) _;decide
 |7=>YU
 |8=>by simp[A8,Fp]
 |_+9=>by simp[A8]
theorem AQ7{w:List Nat}(hd:AK w=true):∀i,10∉GR w i
 |0=>by simp[GR]
 |i+1=>by simp[GR,AQ7 hd i,ZE hd i,TY (ws:=Ah) (i:=i) (by decide)]
theorem AOF{w:List Nat}:∀i,10∉G9 w i
 |0=>by simp[G9,Fp]
 |i+1=>by simp[G9,AOF (w:=w) i,Fp,TY (ws:=Gs) (i:=i) (by decide)]
theorem ABJ{q:List Int}:∀i,10∉HB q i
 |0=>by simp[HB]
 |i+1=>by simp[HB,ABJ (q:=q) i,Td]
theorem AeB{q:List Int}:10∉IQ q:=by unfold IQ;split;simp[ABJ,Fp];decide
theorem ANW{t:List (List Nat)}(h:∀j:Nat,j<t.length->Az (AG t j)=true):∀i,i<=t.length->10∉FZ t i
 |0,_=>by simp[FZ]
 |i+1,hi=>by obtain⟨x,H,_⟩:=FL (h i (by omega));simp[FZ,ANW h i (by omega),H,MG]
theorem RD{k:Int}:10∉Da k:=by unfold Da;split;exact TY (by decide);decide
theorem ATX{k:Int}{f:List Nat}{t:List (List Nat)}{n o:List Int}{r:List (List Int)}:10∉Cu k f t n o r:=by unfold Cu;split;split;rename_i h;simp[RD,ANW h.2 t.length (Nat.le_refl _)];decide;split;split;rename_i h;simp[RD,Xw,AP4 h];decide;split;split;decide;simp[RD,Xw,AC6];split;simp[RD,Xw];decide
theorem Aa4{a b s:List Nat}:10∉Jg a b s:=by unfold Jg Cs;split;split;rename_i h;simp only[Cz,AV]at h;exact ZE h.1 _;decide;decide
end Go.Cat
namespace Go.Cat
variable{K:Nat->List D->List D->Prop}
set_option maxRecDepth 100000
class Ow(K:Nat->List D->List D->Prop):Prop where
 ex:∀s:List Nat,s.length<=1000000->(∀c∈s,c<256)->∃b,K 679 [.s s] [.s (CM s),.b b]
theorem XH[HA K]{k:Int}{f s:List Nat}{t:List (List Nat)}{n o:List Int}{r:List (List Int)}{w:Bool}(h:Mb f t n o r):K 687 [CL k f s t n o r,.b w] [.s (if w=true then Cu k f t n o r else [110,111])]:=by
 refine qb I687 ?_
 cases w
 .simp(disch:=try exact dV) only[AD,EH,FJ];try rfl
 simp(disch:=try exact dV) only[AD,EH,FJ];exact cZ (fc_s h)
theorem BK:(∀(a b:Nat)(l m:List Nat),(a::l==b::m)=(a==b&&l==m))/\(∀(a:Nat)(l:List Nat),(a::l==[])=false)/\(∀(b:Nat)(m:List Nat),([]==b::m)=false)/\(([]:List Nat)==[])=true/\(∀b,(true&&b)=b)/\∀b,(false&&b)=false:=
 ⟨λ_ _ _ _=>rfl,λ_ _=>rfl,λ_ _=>rfl,rfl,λ_=>rfl,λ_=>rfl⟩
theorem Q8:Nw []:=⟨by simp,by simp⟩
theorem OK:Nw [119,104,97,116]:=⟨by simp,by simp⟩
theorem P2{v:List Nat}(h:Nw v):Nw (IE v):=by unfold IE;split;exact⟨by simp,by simp⟩;exact h
theorem Uu{p:Bool}{k:Int}{f:List Nat}{t:List (List Nat)}{n o:List Int}{r:List (List Int)}:Nw (if p=true then Cu k f t n o r else [110,111]):=by split;exact⟨AgV,ATX⟩;exact⟨by simp,by simp⟩
def ABU(K:Nat->List D->List D->Prop)(a b:List D)(k ks:Nat):Prop:=∃(v:List Nat)(r:Bool),Nw v/\K k a [.s v,.b r]/\K ks b [.s (if r=true then v else [119,104,97,116])]
theorem AZQ[HA K][Ds K][KN K][Hi K]{a b:List Nat}(G:b.length<=2000):ABU K [.s a,.s b] [.s a,.s b] 677 681:=by
 have o:∀{a c:List Nat},a≠c->(a==c)=false:=λh=>by simpa using h
 by_cases H:a=[112,97,116,104]
 .subst H;have k:=AXZ (K:=K) (w:=b) (by omega);have ks:=AW0 (K:=K) (w:=b) (by omega);refine⟨if AK b=true then G9 b 9 else [],AK b,?_,?_,?_⟩;split;rename_i h;exact⟨by have:=SK h 9;omega,AOF 9⟩;exact Q8
  .refine qb Lp ?_;simp(disch:=try exact dV) only[AD,BK,Nat.reduceBEq];repeat(refine cB (by first|exact k|exact Bv (by omega)|fail) ?_;try simp(disch:=try exact dV) only[AD,BK,Nat.reduceBEq])
  refine qb LO ?_;simp(disch:=try exact dV) only[AD,BK,Nat.reduceBEq];refine cB (Br (by omega)) ?_
  cases h:AK b
  .simp(disch:=try exact dV) only[AD,BK,Nat.reduceBEq];try rfl
  rw[if_pos h]at ks;simp(disch:=try exact dV) only[AD,BK,Nat.reduceBEq];refine cB ks ?_;simp(disch:=try exact dV) only[AD,BK,Nat.reduceBEq];try rfl
 by_cases e:a=[107,105,110,100,115]
 .subst e;have k:=kl_i (K:=K) (w:=b) (by omega);have ks:=kl_s (K:=K) (w:=b) (by omega);refine⟨if AK b=true then GR b 9 else [],AK b,?_,?_,?_⟩;split;rename_i h;exact⟨by have:=Sb h 9;omega,AQ7 h 9⟩;exact Q8
  .refine qb Lp ?_;simp(disch:=try exact dV) only[AD,BK,Nat.reduceBEq];repeat(refine cB (by first|exact k|exact Bv (by omega)|fail) ?_;try simp(disch:=try exact dV) only[AD,BK,Nat.reduceBEq])
  refine qb LO ?_;simp(disch:=try exact dV) only[AD,BK,Nat.reduceBEq];refine cB (Br (by omega)) ?_
  cases h:AK b
  .simp(disch:=try exact dV) only[AD,BK,Nat.reduceBEq];try rfl
  rw[if_pos h]at ks;simp(disch:=try exact dV) only[AD,BK,Nat.reduceBEq];refine cB ks ?_;simp(disch:=try exact dV) only[AD,BK,Nat.reduceBEq];try rfl
 by_cases f:a=[116,114,101,101]
 .subst f;obtain⟨v,x,k,ks⟩:=AUV (K:=K) b;refine⟨v,Az b,x,?_,?_⟩
  .refine qb Lp ?_;simp(disch:=try exact dV) only[AD,BK,Nat.reduceBEq];repeat(refine cB (by first|exact k|exact Jk|fail) ?_;try simp(disch:=try exact dV) only[AD,BK,Nat.reduceBEq])
  refine qb LO ?_;simp(disch:=try exact dV) only[AD,BK,Nat.reduceBEq];refine cB Ez ?_
  cases h:Az b
  .simp(disch:=try exact dV) only[AD,BK,Nat.reduceBEq];try rfl
  simp(disch:=try exact dV) only[AD,BK,Nat.reduceBEq];refine cB ks ?_;simp(disch:=try exact dV) only[AD,BK,Nat.reduceBEq];try rfl
 by_cases g:a=[99,111,117,110,116]
 .subst g;obtain⟨v,x,k,ks⟩:=AgE (K:=K) (pR b);refine⟨IE v,C5 b,P2 x,?_,?_⟩
  .refine qb Lp ?_;simp(disch:=try exact dV) only[AD,BK,Nat.reduceBEq];repeat(refine cB (by first|exact NM (by omega)|exact k|exact OJ|fail) ?_;try simp(disch:=try exact dV) only[AD,BK,Nat.reduceBEq])
  refine qb LO ?_;simp(disch:=try exact dV) only[AD,BK,Nat.reduceBEq];refine cB (S1 (by omega)) ?_
  cases h:C5 b
  .simp(disch:=try exact dV) only[AD,BK,Nat.reduceBEq];try rfl
  simp(disch:=try exact dV) only[AD,BK,Nat.reduceBEq];repeat(refine cB (by first|exact ks|exact P1|fail) ?_;try simp(disch:=try exact dV) only[AD,BK,Nat.reduceBEq])
 have F:=Aa2 (K:=K) (s:=b) (by omega);have C:=QS (K:=K) (s:=b) (b:=44) (by omega);have l:(Bp (AP 44 b)).length<=1048576:=by have:=Ye (ps:=AP 44 b);have:=(Gj (b:=44) (s:=b) (acc:=[])).2;change (AP 44 b).length<=b.length+1 at this;omega
 generalize Bp (AP 44 b)=q at*;generalize Cl (AP 44 b)=z at*;by_cases i:a=[102,114,105,101,122,101]
 .subst i;have k:=AhW (K:=K) (q:=q) l;have ks:=AW9 (K:=K) (q:=q) l;refine⟨IE (IQ q),z,P2 ⟨AYS q,AeB⟩,?_,?_⟩
  .refine qb Lp ?_;simp(disch:=try exact dV) only[AD,BK,Nat.reduceBEq];repeat(refine cB (by first|exact F|exact k|exact OJ|fail) ?_;try simp(disch:=try exact dV) only[AD,BK,Nat.reduceBEq])
  refine qb LO ?_;simp(disch:=try exact dV) only[AD,BK,Nat.reduceBEq];refine cB C ?_
  cases z
  .simp(disch:=try exact dV) only[AD,BK,Nat.reduceBEq];try rfl
  simp(disch:=try exact dV) only[AD,BK,Nat.reduceBEq];repeat(refine cB (by first|exact ks|exact P1|fail) ?_;try simp(disch:=try exact dV) only[AD,BK,Nat.reduceBEq])
 by_cases j:a=[115,111,114,116]
 .subst j;have k:=AX5 (K:=K) (p:=q) l;have ks:=AYZ (K:=K) (p:=q) l;have B:Mb (DR q) [] (Hp q) (IK q) []:=by have H:=AYU q l;exact⟨by have:=AZ2 (p:=q);omega,by have:=H.ln;omega,by have:=H.lo;omega,by simp,by simp⟩
  refine⟨if C2 q=true then Cu (Ka q) (DR q) [] (Hp q) (IK q) []else [110,111],z,?_,?_,?_⟩;exact Uu
  .refine qb Lp ?_;simp(disch:=try exact dV) only[AD,BK,Nat.reduceBEq];refine cB F ?_;simp(disch:=try exact dV) only[AD,BK,Nat.reduceBEq];refine cB k ?_
   cases C2 q
   .simp(disch:=try exact dV) only[AD,BK,Nat.reduceBEq,EH,FJ];try rfl
   simp(disch:=try exact dV) only[AD,BK,Nat.reduceBEq,EH,FJ];refine cB (X8 B) ?_;simp(disch:=try exact dV) only[AD,BK,Nat.reduceBEq];try rfl
  refine qb LO ?_;simp(disch:=try exact dV) only[AD,BK,Nat.reduceBEq];refine cB C ?_
  cases z
  .simp(disch:=try exact dV) only[AD,BK,Nat.reduceBEq];try rfl
  simp(disch:=try exact dV) only[AD,BK,Nat.reduceBEq];refine cB ks ?_;simp(disch:=try exact dV) only[AD,BK,Nat.reduceBEq,EH,FJ];refine cB (XH B) ?_;simp(disch:=try exact dV) only[AD,BK,Nat.reduceBEq];try rfl
 refine⟨[],false,Q8,?_,?_⟩;refine qb Lp ?_;simp(disch:=try exact dV) only[AD,BK,Nat.reduceBEq,o H,o e,o f,o g,o i,o j];refine qb LO ?_;simp(disch:=try exact dV) only[AD,BK,Nat.reduceBEq,o H,o e,o f,o g,o i,o j];try rfl
end Go.Cat
