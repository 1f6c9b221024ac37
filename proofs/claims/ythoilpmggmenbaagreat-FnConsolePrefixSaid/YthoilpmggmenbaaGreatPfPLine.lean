/-
 PathLine answers as the reference does.
-/
import Derived.Test.YthoilpmggmenbaaGreatPfPart
set_option linter.unusedSimpArgs false
set_option linter.unusedVariables false
namespace Go.Cat
instance:HA (λ_ _ _=>True):=⟨λ_ _ _ _=>trivial⟩
variable{K:Nat->List D->List D->Prop}
open Classical in
noncomputable def E3(w:List Nat):List Int:=if h:∃m,PP w m then h.choose else []
theorem TU{w:List Nat}{m:List Int}(h:PP w m):E3 w=m:=by have H:∃m,PP w m:=⟨m,h⟩;simp only[E3,dif_pos H];exact AZE H.choose_spec h
theorem Y0{w:List Nat}(hd:AK w=true):PP w (E3 w):=by have:Has (λ_ _ _=>True) 373 AG6.v:=⟨λ_ _ _=>trivial⟩;obtain⟨_,⟨m,_,h⟩,_⟩:=Tp (K:=λ_ _ _=>True) hd;rw[TU h];exact h
noncomputable def EB(w:List Nat):List Int:=DB (DO w (λa=>(ED w (AB (E3 w) a).toNat:Int)) w.length) (CV w w.length)
theorem Ow{w:List Nat}(hd:AK w=true):(EB w).length<=8:=by have h:=ML hd;have H:=(Af hd).l;simp only[EB,P2];omega
theorem AD9[HA K]{w:List Nat}(hd:AK w=true):K 301 [.s w] [LI (EB w),.b true]:=AA5 (K:=K) hd (Y0 hd)
theorem R1[HA K]{w:List Nat}(hd:AK w=true):K 503 [.s w] [LI (EB w),.b true]/\K 301 [.s w] [LI (EB w),.b true]:=by
 obtain⟨_,⟨m,H,rfl⟩,k⟩:=AZP (K:=K) hd;have J:=AA5 (K:=K) hd H;have G:=H.1;have e:=TU H;refine⟨?_,by rw[EB,e];exact J⟩;have i:DB (DO w (λa=>(Ep w (AB m a).toNat:Int)) w.length) (CV w w.length)=EB w:=by
  have j:DO w (λa=>(Ep w (AB m a).toNat:Int)) w.length=(DO w (λa=>(ED w (AB m a).toNat:Int)) w.length).map (·+1):=by
   refine ATO λa g I=>?_;obtain⟨b,F,q⟩:=H.2 a g;have h:b<w.length:=by rcases q with q|q<;>have:=q.1<;>have:=q.2.1<;>omega
   have C:=Af hd;have c:AH w b=100:=by rcases C.ud b h with f|f;exfalso;rcases q with q|q;have o:=GS h f;have x:=q.2.2.1;have B:=q.2.2.2 b q.1 (Nat.le_refl _);omega;have o:=GS g I;have x:=q.2.2.1;have B:=q.2.2.2 a q.1 (Nat.le_refl _);omega;exact f
   have l:=ATC hd h;rw[if_pos c]at l;simp only[F,BM];omega
  rw[j,ARA,EB,e];rw[S1 (Nat.le_refl _)];exact Nat.le_refl _
 rw[i]at k;exact k
theorem OD{w:List Nat}(hd:AK w=true):(Co w).length<=17:=by have h:=(Af hd).l;have:=UM (w:=w) (out:=[-1]) (st:=[0]);simp only[Co,AP,A5]at *;omega
def Gj:List (List Nat):=[[112,101,97,107,115],[114,101,116,117,114,110,115],[114,105,115,101],[97,114,101,97],[100,101,112,116,104],[108,101,97,118,101,115],[98,108,111,99,107,115],[109,97,106,111,114],[102,97,108,108]]
theorem Tg{a b c d e f g h i:List Nat}:DK [.s a,.s b,.s c,.s d,.s e,.s f,.s g,.s h,.s i]=some (LS [a,b,c,d,e,f,g,h,i]):=rfl
theorem AZX[HA K]:K 499 [] [LS Gj]:=by refine qb I499 ?_;simp(disch:=try exact dV) only[AD,Tg];rfl
theorem Ah0[HA K]:K 498 [] [LS Gj]:=by refine qb I498 ?_;simp(disch:=try exact dV) only[AD,Tg];rfl
noncomputable def CE(w:List Nat):Nat->Int
 |0=>DP 117 100 (λ_=>1) w (w.length-1)
 |1=>JK w w.length
 |2=>Dj 117 w
 |3=>GV w w.length
 |4=>GQ w (w.length+1)
 |5=>H9 (Co w) (Co w).length
 |6=>(if CZ (EB w)=true then Ar (EB w) (EB w).length else []).length
 |7=>DP 100 117 (λj=>j+1) w (w.length-1)
 |8=>Dj 100 w.reverse
 |_=>-1
theorem Ak{a b:Nat}{x y:List Nat}(h:a≠b):((a::x)==(b::y))=false:=by rw[List.cons_beq_cons,beq_eq_false_iff_ne.2 h]<;>rfl
theorem Aj{a:Nat}{x y:List Nat}:((a::x)==(a::y))=(x==y):=by rw[List.cons_beq_cons,beq_self_eq_true,Bool.true_and]
theorem Al:(([]:List Nat)==[])=true:=rfl
theorem AVV[HA K]{w:List Nat}(hd:AK w=true):K 500 [.s [112,101,97,107,115],.s w] [.n (CE w 0)]:=by
 have h:=(Af hd).l;refine qw Jf ?_;repeat(refine cB (by first|exact Bz (by omega)|exact Al5 hd|fail) ?_;try simp(disch:=try exact dV) only[AD,hd,Ak,Aj,Al])
 rfl
theorem Ai6[HA K]{w:List Nat}(hd:AK w=true):K 500 [.s [114,101,116,117,114,110,115],.s w] [.n (CE w 1)]:=by
 have h:=(Af hd).l;refine qw Jf ?_;repeat(refine cB (by first|exact Bz (by omega)|exact AaZ hd|fail) ?_;try simp(disch:=try exact dV) only[AD,hd,Ak,Aj,Al])
 rfl
theorem AiS[HA K]{w:List Nat}(hd:AK w=true):K 500 [.s [114,105,115,101],.s w] [.n (CE w 2)]:=by
 have b:=(Af hd).l;refine qw Jf ?_;repeat(refine cB (Bz (by omega)) ?_;try simp(disch:=try exact dV) only[AD,hd,Ak,Aj,Al])
 refine Bd (λ(x:Nat)=>x<=Dj 117 w) (λx=>[.u,.s w,.u,.n x,.u,.u,.u,.u,.u,.u,.u,.u,.u,.u,.u,.u,.u,.u,.u,.u,.u]) (λx=>Dj 117 w-x) 0 (by omega) rfl ?_;intro x f;have e:=LV (c:=117) w;by_cases h:x<w.length;have a:=PW (c:=117) h;by_cases H:x<Dj 117 w;simp(disch:=try exact dV) only[AD,a.1 H];exact⟨x+1,by omega,by omega,by simp⟩;have:=a.2 (by omega);refine wW ?_;exact Dn (by simp only[CE];omega);refine wW ?_;exact Dn (by simp only[CE];omega)
theorem AiR[HA K]{w:List Nat}(hd:AK w=true):K 500 [.s [97,114,101,97],.s w] [.n (CE w 3)]:=by
 have h:=(Af hd).l;refine qw Jf ?_;repeat(refine cB (by first|exact Bz (by omega)|exact AgY hd|fail) ?_;try simp(disch:=try exact dV) only[AD,hd,Ak,Aj,Al])
 rfl
theorem Ad5[HA K]{w:List Nat}(hd:AK w=true):K 500 [.s [100,101,112,116,104],.s w] [.n (CE w 4)]:=by
 have h:=(Af hd).l;refine qw Jf ?_;repeat(refine cB (by first|exact Bz (by omega)|exact AI5 hd|exact dp_i hd|fail) ?_;try simp(disch:=try exact dV) only[AD,hd,Ak,Aj,Al])
 rfl
theorem AUB[HA K]{w:List Nat}(hd:AK w=true):K 500 [.s [108,101,97,118,101,115],.s w] [.n (CE w 5)]:=by
 have H:=(Af hd).l;refine qw Jf ?_;have h:=OD hd;repeat(refine cB (by first|exact Bz (by omega)|exact AAL hd|exact AdW (by omega)|fail) ?_;try simp(disch:=try exact dV) only[AD,hd,Ak,Aj,Al])
 rfl
theorem AcO[HA K]{w:List Nat}(hd:AK w=true):K 500 [.s [98,108,111,99,107,115],.s w] [.n (CE w 6)]:=by
 have H:=(Af hd).l;refine qw Jf ?_;have h:=Ow hd;repeat(refine cB (by first|exact Bz (by omega)|exact(R1 (K:=K) hd).1|exact AIA (by omega)|fail) ?_;try simp(disch:=try exact dV) only[AD,hd,Ak,Aj,Al])
 rfl
theorem AfM[HA K]{w:List Nat}(hd:AK w=true):K 500 [.s [109,97,106,111,114],.s w] [.n (CE w 7)]:=by
 have h:=(Af hd).l;refine qw Jf ?_;repeat(refine cB (by first|exact Bz (by omega)|exact AUS hd|fail) ?_;try simp(disch:=try exact dV) only[AD,hd,Ak,Aj,Al])
 rfl
theorem AbF[HA K]{w:List Nat}(hd:AK w=true):K 500 [.s [102,97,108,108],.s w] [.n (CE w 8)]:=by
 have e:=(Af hd).l;refine qw Jf ?_;repeat(refine cB (Bz (by omega)) ?_;try simp(disch:=try exact dV) only[AD,hd,Ak,Aj,Al])
 refine Bd (λ(x:Nat)=>x<=Dj 100 w.reverse) (λx=>[.u,.s w,.u,.u,.u,.u,.u,.n x,.u,.u,.u,.u,.u,.u,.u,.u,.u,.u,.u,.u,.u]) (λx=>Dj 100 w.reverse-x) 0 (by omega) rfl ?_;intro x f;have b:=LV (c:=100) w.reverse;rw[List.length_reverse]at b;by_cases h:x<w.length;have a:=PW (c:=100) (l:=w.reverse) (i:=x) (by simpa using h);rw[ACC h]at a;by_cases H:x<Dj 100 w.reverse;simp(disch:=try exact dV) only[AD,a.1 H];exact⟨x+1,by omega,by omega,by simp⟩;have:=a.2 (by omega);refine wW ?_;exact Dn (by simp only[CE];omega);refine wW ?_;exact Dn (by simp only[CE];omega)
theorem AT6[HA K]{w:List Nat}(hd:AK w=true):K 235 [.s [112,101,97,107,115],.s w] [.n (CE w 0)]:=by
 have h:=(Af hd).l;refine qw Jg ?_;repeat(refine cB (by first|exact Bu (by omega)|exact AUW hd|fail) ?_;try simp(disch:=try exact dV) only[AD,hd,Ak,Aj,Al])
 rfl
theorem AX0[HA K]{w:List Nat}(hd:AK w=true):K 235 [.s [114,101,116,117,114,110,115],.s w] [.n (CE w 1)]:=by
 have h:=(Af hd).l;refine qw Jg ?_;repeat(refine cB (by first|exact Bu (by omega)|exact Ad2 hd|fail) ?_;try simp(disch:=try exact dV) only[AD,hd,Ak,Aj,Al])
 rfl
theorem Ai7[HA K]{w:List Nat}(hd:AK w=true):K 235 [.s [114,105,115,101],.s w] [.n (CE w 2)]:=by
 have h:=(Af hd).l;refine qw Jg ?_;repeat(refine cB (by first|exact Bu (by omega)|exact AeI (by omega)|fail) ?_;try simp(disch:=try exact dV) only[AD,hd,Ak,Aj,Al])
 rfl
theorem AWZ[HA K]{w:List Nat}(hd:AK w=true):K 235 [.s [97,114,101,97],.s w] [.n (CE w 3)]:=by
 have h:=(Af hd).l;refine qw Jg ?_;repeat(refine cB (by first|exact Bu (by omega)|exact AWB hd|fail) ?_;try simp(disch:=try exact dV) only[AD,hd,Ak,Aj,Al])
 rfl
theorem AhK[HA K]{w:List Nat}(hd:AK w=true):K 235 [.s [100,101,112,116,104],.s w] [.n (CE w 4)]:=by
 have h:=(Af hd).l;refine qw Jg ?_;repeat(refine cB (by first|exact Bu (by omega)|exact Ze hd|exact dp_s hd|fail) ?_;try simp(disch:=try exact dV) only[AD,hd,Ak,Aj,Al])
 rfl
theorem AX5[HA K]{w:List Nat}(hd:AK w=true):K 235 [.s [108,101,97,118,101,115],.s w] [.n (CE w 5)]:=by
 have H:=(Af hd).l;refine qw Jg ?_;have h:=OD hd;repeat(refine cB (by first|exact Bu (by omega)|exact ATD hd|exact AXC (by omega)|fail) ?_;try simp(disch:=try exact dV) only[AD,hd,Ak,Aj,Al])
 rfl
theorem AkQ[HA K]{w:List Nat}(hd:AK w=true):K 235 [.s [98,108,111,99,107,115],.s w] [.n (CE w 6)]:=by
 have H:=(Af hd).l;refine qw Jg ?_;have h:=Ow hd;repeat(refine cB (by first|exact Bu (by omega)|exact AD9 hd|exact YR (by omega)|fail) ?_;try simp(disch:=try exact dV) only[AD,hd,Ak,Aj,Al])
 rfl
theorem AgS[HA K]{w:List Nat}(hd:AK w=true):K 235 [.s [109,97,106,111,114],.s w] [.n (CE w 7)]:=by
 have h:=(Af hd).l;refine qw Jg ?_;repeat(refine cB (by first|exact Bu (by omega)|exact Ac0 hd|fail) ?_;try simp(disch:=try exact dV) only[AD,hd,Ak,Aj,Al])
 rfl
theorem AZO[HA K]{w:List Nat}(hd:AK w=true):K 235 [.s [102,97,108,108],.s w] [.n (CE w 8)]:=by
 have h:=(Af hd).l;refine qw Jg ?_;repeat(refine cB (by first|exact Bu (by omega)|exact AgA (by omega)|fail) ?_;try simp(disch:=try exact dV) only[AD,hd,Ak,Aj,Al])
 rfl
theorem AcX[HA K]{w:List Nat}(hd:AK w=true):∀i:Nat,i<9->K 500 [.s (AF Gj i),.s w] [.n (CE w i)]
 |0,_=>AVV hd
 |1,_=>Ai6 hd
 |2,_=>AiS hd
 |3,_=>AiR hd
 |4,_=>Ad5 hd
 |5,_=>AUB hd
 |6,_=>AcO hd
 |7,_=>AfM hd
 |8,_=>AbF hd
 |i+9,h=>absurd h (by omega)
theorem AbM[HA K]{w:List Nat}(hd:AK w=true):∀i:Nat,i<9->K 235 [.s (AF Gj i),.s w] [.n (CE w i)]
 |0,_=>AT6 hd
 |1,_=>AX0 hd
 |2,_=>Ai7 hd
 |3,_=>AWZ hd
 |4,_=>AhK hd
 |5,_=>AX5 hd
 |6,_=>AkQ hd
 |7,_=>AgS hd
 |8,_=>AZO hd
 |i+9,h=>absurd h (by omega)
theorem Vo{w:List Nat}(hd:AK w=true):∀i:Nat,-1000<=CE w i/\CE w i<=1000
 |0=>by have H:=(Af hd).l;have:=Ly (a:=117) (b:=100) (g:=λ_=>1) (w:=w) (λ_ _=>by omega) (i:=w.length-1) (by omega);simp only[CE];omega
 |1=>by have H:=(Af hd).l;have:=Zb (w:=w) (i:=w.length);simp only[CE];omega
 |2=>by have H:=(Af hd).l;have:=LV (c:=117) w;simp only[CE];omega
 |3=>by have H:=(Af hd).l;have:=S2 H (i:=w.length) (by omega);simp only[CE];omega
 |4=>by have H:=(Af hd).l;have:=Zm (w:=w) (w.length+1);simp only[CE];omega
 |5=>by have H:=OD hd;have:=Xw (p:=Co w) (i:=(Co w).length);simp only[CE];omega
 |6=>by have H:=Ow hd;simp only[CE];split;rename_i h;simp only[CZ,AV,Ac]at h;have e:=Lq (p:=EB w) h.2;have f:=Jk h.2;omega;simp
 |7=>by have H:=(Af hd).l;have:=Ly (a:=100) (b:=117) (g:=λj=>j+1) (w:=w) (λ_ _=>by omega) (i:=w.length-1) (by omega);simp only[CE];omega
 |8=>by have H:=(Af hd).l;have:=LV (c:=100) w.reverse;rw[List.length_reverse]at this;simp only[CE];omega
 |i+9=>by simp only[CE];omega
theorem IM[HA K]{ws:List (List Nat)}(l:ws.length<=100000)(h:∀x∈ws,x.length<=100000):K 141 [LS ws] [.s (glue [32] ws)]:=by refine qw I141 ?_;exact cZ (JW l h (by simp))
theorem XJ{s a b c:List Nat}:glue s [a,b,c]=a++s++b++s++c:=by simp[glue,BH,AF]
theorem AfD{s a b c d:List Nat}:glue s [a,b,c,d]=a++s++b++s++c++s++d:=by simp[glue,BH,AF]
theorem ls_4{a b c d:List Nat}:DK [.s a,.s b,.s c,.s d]=some (LS [a,b,c,d]):=rfl
theorem VY{a b c:List Nat}:DK [.s a,.s b,.s c]=some (LS [a,b,c]):=rfl
noncomputable def Gf(w:List Nat):Nat->List Nat
 |0=>[112,97,116,104]++[32]++AQ (Fz w)++[32]++[114,97,110,107]++[32]++AQ (CN w)
 |i+1=>Gf w i++[32]++AF Gj i++[32]++AQ (CE w i)
theorem Yh{i:Nat}:(AF Gj i).length<=10:=KN (b:=10) (ws:=Gj) (by decide)
theorem Lm{w:List Nat}(hd:AK w=true):-1<=CN w/\CN w<=1430:=by simp only[CN,hd,if_true];obtain⟨g,l⟩:=NN hd;have h:=(Se w _ _ g).1;have H:=MR (u:=w.length/2) (d:=w.length/2) (by omega) (by omega);omega
theorem WK{w:List Nat}(hd:AK w=true):Fz w=(w.length:Int)/2:=by simp[Fz,hd]
theorem Rj{w:List Nat}(hd:AK w=true):∀i:Nat,(Gf w i).length<=60+i*40
 |0=>by have e:=(Af hd).l;have H:=Lm hd;have c:=WK hd;have a:=Aw (n:=CN w) (by omega);have b:=Aw (n:=Fz w) (by omega);simp only[Gf,AW,AP,A5];omega
 |i+1=>by have h:=Rj hd i;have H:=Vo hd i;have a:=Aw (n:=CE w i) (by omega);have b:=Yh (i:=i);simp only[Gf,AW,AP,A5];omega
theorem AkP[HA K]{w:List Nat}(h:w.length<=1048576):K 458 [.s w] [.s (if AK w=true then Gf w 9 else [])]:=by
 refine qw I458 ?_
 cases hd:AK w
 .repeat(refine cB (Bz (by omega)) ?_;try simp(disch:=try exact dV) only[AD,hd])
  rfl
 have j:=(Af hd).l;have H:=Lm hd;have c:=WK hd;have f:=Aw (n:=CN w) (by omega);have g:=Aw (n:=Fz w) (by omega);repeat(refine cB (by first|exact Bz (by omega)|exact Ah6 (by omega)|exact C8 (by omega)|exact AEG (by omega)|exact C8 (by omega)|fail) ?_;try simp(disch:=try exact dV) only[AD,hd,ls_4])
 have kl:=IM (K:=K) (ws:=[[112,97,116,104],AQ (Fz w),[114,97,110,107],AQ (CN w)]) (by simp) (by simp;omega);refine cB kl ?_;simp(disch:=try exact dV) only[AD,AfD];refine cB AZX ?_;have e:Gj.length=9:=rfl;refine wW ?_;refine AN (λ_=>True) (λi=>[.s w,.u,.s (Gf w i),.u,.u,LS Gj,.n 9,.n i,.u]) 9 trivial rfl (λi hi _=>?_) (λ_=>?_);have b1:=Vo hd i;have b:=Aw (n:=CE w i) (by omega);have B:=Yh (i:=i);have a:=Rj hd i;refine wW ?_;refine cW (AcX hd i hi) ?_;refine cB (C8 (by omega)) ?_;simp(disch:=try exact dV) only[AD,VY];have kl:=IM (K:=K) (ws:=[Gf w i,AF Gj i,AQ (CE w i)]) (by simp) (by simp;omega);refine cB kl ?_;simp(disch:=try exact dV) only[AD,XJ];rfl;exact wZ
theorem AmE[HA K]{w:List Nat}(h:w.length<=1048576):K 457 [.s w] [.s (if AK w=true then Gf w 9 else [])]:=by
 refine qw I457 ?_
 cases hd:AK w
 .repeat(refine cB (Bu (by omega)) ?_;try simp(disch:=try exact dV) only[AD,hd])
  rfl
 have j:=(Af hd).l;have f:=Lm hd;have H:=WK hd;have g:=Aw (n:=CN w) (by omega);have a:=Aw (n:=Fz w) (by omega);have k:=CB (K:=K) (n:=Fz w) (by omega);rw[H]at k a;repeat(refine cB (by first|exact Bu (by omega)|exact k|exact AT5 (by omega)|exact CB (by omega)|fail) ?_;try simp(disch:=try exact dV) only[AD,hd])
 refine cB Ah0 ?_;have e:Gj.length=9:=rfl;refine wW ?_;refine AN (λ_=>True) (λi=>[.s w,.u,.s (Gf w i),LS Gj,.n i,.u,.u]) 9 trivial (by simp[Gf,H]) (λi hi _=>?_) (λ_=>?_);have b1:=Vo hd i;have b:=Aw (n:=CE w i) (by omega);have B:=Yh (i:=i);have c:=Rj hd i;refine wW ?_;refine cW (AbM hd i hi) ?_;exact cZ (CB (by omega));exact wZ
end Go.Cat
namespace Go.Cat
variable{K:Nat->List D->List D->Prop}
def pat(p:List Int)(i j k:Nat):Prop:=i<j/\j<k/\k<p.length/\AB p k<AB p i/\AB p i<AB p j
def first(p:List Int)(t:Nat×Nat×Nat):Prop:=pat p t.1 t.2.1 t.2.2/\∀i j k,pat p i j k->¬(i<t.1\/(i=t.1/\(j<t.2.1\/(j=t.2.1/\k<t.2.2))))
theorem Ai9{p:List Int}{t u:Nat×Nat×Nat}(h:first p t)(g:first p u):t=u:=by
 obtain⟨a,b,c⟩:=t;obtain⟨d,e,f⟩:=u;have H:=h.2 d e f g.1;have i:=g.2 a b c h.1;simp only at H i;have:a=d:=by omega
 have:b=e:=by omega
 have:c=f:=by omega
 simp_all
open Classical in
noncomputable def IG(p:List Int):Bool:=Cb p&&decide (∃t,first p t)
open Classical in
noncomputable def IJ(p:List Int):List Int:=if h:Cb p=true/\∃t,first p t then [(h.2.choose.1:Int),h.2.choose.2.1,h.2.choose.2.2]else []
theorem AEO{p:List Int}{i j k:Nat}(H:Cb p=true)(h:first p (i,j,k)):IG p=true/\IJ p=[(i:Int),j,k]:=by
 have x:∃t,first p t:=⟨_,h⟩
 refine⟨by simp[IG,H,x],?_⟩;unfold IJ;rw[dif_pos ⟨H,x⟩];have:=Ai9 (Exists.choose_spec (⟨H,x⟩:Cb p=true/\∃t,first p t).2) h;rw[this]
theorem ADT{p:List Int}(h:∀i j k,¬pat p i j k):IG p=false/\IJ p=[]:=by
 have x:¬∃t,first p t:=λ⟨t,ht⟩=>h _ _ _ ht.1
 refine⟨by simp[IG,x],?_⟩;unfold IJ;rw[dif_neg (λq=>x q.2)]
theorem SM{p:List Int}(h:Cb p=false):IG p=false/\IJ p=[]:=by refine⟨by simp[IG,h],?_⟩;unfold IJ;rw[dif_neg (λq=>by rw[h]at q;cases q.1)]
theorem AkC{p:List Int}:(IJ p).length<=3:=by unfold IJ;split<;>simp
theorem Ai2[HA K]{p:List Int}(h:p.length<=1048576):K 50 [LI p] [LI (IJ p),.b (IG p)]:=by
 refine qw I50 ?_
 cases j:Cb p
 .repeat(refine cB (Pc (by omega)) ?_;try simp(disch:=omega) only[AD,j])
  obtain⟨f,g⟩:=SM j;rw[f,g]<;>rfl
 repeat(refine cB (Pc (by omega)) ?_;try simp(disch:=omega) only[AD,j])
 refine AN (λi=>∀a:Nat,a<i->∀b c,¬pat p a b c) (λi=>[LI p,.u,.u,.u,.u,.u,.u,.n p.length,.n i,.u,.u,.u,.u]) p.length (by simp) rfl (λi hi P=>?_) (λP=>?_)
 .refine wW ?_;refine AN (λm=>∀b:Nat,b<m->∀c,¬pat p i (i+1+b) c) (λm=>[LI p,.u,.u,.n i,.n ((i:Int)+1+m),.u,.u,.n p.length,.n i,.u,.u,.u,.u]) (p.length-(i+1)) (by simp) (by simp(disch:=omega) only[AD,Int.add_zero]) (λm F Q=>?_) (λQ=>?_)
  .refine wW ?_;refine AN (λk=>∀c:Nat,c<k->¬pat p i (i+1+m) (i+1+m+1+c)) (λk=>[LI p,.u,.u,.n i,.n ((i:Int)+1+m),.n ((i:Int)+1+m+1+k),.u,.n p.length,.n i,.u,.u,.u,.u]) (p.length-(i+1+m+1)) (by simp) (by simp(disch:=omega) only[AD,Int.add_zero]) (λk C R=>?_) (λR=>?_)
   .by_cases s:AB p ((i:Int)+1+m+1+k)<AB p i<;>by_cases x:AB p i<AB p ((i:Int)+1+m);refine wW ?_;have B:first p (i,i+1+m,i+1+m+1+k):=by refine⟨⟨by show i<i+1+m;omega,by show i+1+m<i+1+m+1+k;omega,by show i+1+m+1+k<p.length;omega,?_,?_⟩,?_⟩;exact_mod_cast s;exact_mod_cast x;rintro a b c q H;simp only at H;rcases H with H|⟨rfl,H|⟨rfl,H⟩⟩;exact P a H b c q;have:=q.1;have e:=Q (b-(a+1)) (by omega) c;rw[show a+1+(b-(a+1))=b by omega]at e;exact e q;have:=q.2.1;have e:=R (c-(a+1+m+1)) (by omega);rw[show a+1+m+1+(c-(a+1+m+1))=c by omega]at e;exact e q
    obtain⟨f,g⟩:=AEO j B;rw[f,g]<;>rfl
    all_goals
     simp(disch:=omega) only[AD,<-Int.add_assoc]
     refine Bg R λq=>?_
     have l:=q.2.2.2.1
     have o:=q.2.2.2.2
     have f:(((i+1+m+1+k:Nat)):Int)=(i:Int)+1+m+1+k:=by omega
     have g:(((i+1+m:Nat)):Int)=(i:Int)+1+m:=by omega
     rw[f]at l
     rw[g]at o
     omega
   simp(disch:=omega) only[AD,<-Int.add_assoc];refine Bg Q λc q=>?_;have l:=q.2.1;have o:=q.2.2.1;have e:=R (c-(i+1+m+1)) (by omega);rw[show i+1+m+1+(c-(i+1+m+1))=c by omega]at e;exact e q
  refine wW ?_;refine Bg P λb c q=>?_;have l:=q.1;have o:=q.2.1;have G:=q.2.2.1;have e:=Q (b-(i+1)) (by omega) c;rw[show i+1+(b-(i+1))=b by omega]at e;exact e q
 refine wW ?_;obtain⟨f,g⟩:=ADT (p:=p) λa b c q=>P a (by have:=q.1;have:=q.2.1;have:=q.2.2.1;omega) b c q;rw[f,g]<;>rfl
theorem ASB[HA K]{p:List Int}(h:p.length<=1048576):K 49 [LI p] [LI (IJ p),.b (IG p)]:=by
 refine qw I49 ?_
 cases j:Cb p
 .refine AN (λ_=>False\/True) (λi=>[LI p,.u,.u,.n i,.u,.u,.u,.u,.u,.u]) p.length (by simp) rfl (λi hi _=>?_) (λ_=>?_)
  .refine wW ?_;repeat(refine cB (Mh (by omega)) ?_;try simp(disch:=omega) only[AD,j])
   obtain⟨f,g⟩:=SM j;rw[f,g]<;>rfl
  refine wW ?_;obtain⟨f,g⟩:=SM j;rw[f,g]<;>rfl
 refine AN (λi=>∀a:Nat,a<i->∀b c,¬pat p a b c) (λi=>[LI p,.u,.u,.n i,.u,.u,.u,.u,.u,.u]) p.length (by simp) rfl (λi hi P=>?_) (λP=>?_)
 .refine wW ?_;repeat(refine cB (Mh (by omega)) ?_;try simp(disch:=omega) only[AD,j])
  refine AN (λm=>∀b:Nat,b<m->∀c,¬pat p i (i+1+b) c) (λm=>[LI p,.u,.u,.n i,.n ((i:Int)+1+m),.u,.u,.u,.u,.u]) (p.length-(i+1)) (by simp) (by simp(disch:=omega) only[AD,Int.add_zero]) (λm F Q=>?_) (λQ=>?_)
  .refine wW ?_;refine AN (λk=>∀c:Nat,c<k->¬pat p i (i+1+m) (i+1+m+1+c)) (λk=>[LI p,.u,.u,.n i,.n ((i:Int)+1+m),.n ((i:Int)+1+m+1+k),.u,.u,.u,.u]) (p.length-(i+1+m+1)) (by simp) (by simp(disch:=omega) only[AD,Int.add_zero]) (λk C R=>?_) (λR=>?_)
   .by_cases s:AB p ((i:Int)+1+m+1+k)<AB p i<;>by_cases x:AB p i<AB p ((i:Int)+1+m);refine wW ?_;have B:first p (i,i+1+m,i+1+m+1+k):=by refine⟨⟨by show i<i+1+m;omega,by show i+1+m<i+1+m+1+k;omega,by show i+1+m+1+k<p.length;omega,?_,?_⟩,?_⟩;exact_mod_cast s;exact_mod_cast x;rintro a b c q H;simp only at H;rcases H with H|⟨rfl,H|⟨rfl,H⟩⟩;exact P a H b c q;have:=q.1;have e:=Q (b-(a+1)) (by omega) c;rw[show a+1+(b-(a+1))=b by omega]at e;exact e q;have:=q.2.1;have e:=R (c-(a+1+m+1)) (by omega);rw[show a+1+m+1+(c-(a+1+m+1))=c by omega]at e;exact e q
    obtain⟨f,g⟩:=AEO j B;rw[f,g]<;>rfl
    all_goals
     simp(disch:=omega) only[AD,<-Int.add_assoc]
     refine Bg R λq=>?_
     have l:=q.2.2.2.1
     have o:=q.2.2.2.2
     have f:(((i+1+m+1+k:Nat)):Int)=(i:Int)+1+m+1+k:=by omega
     have g:(((i+1+m:Nat)):Int)=(i:Int)+1+m:=by omega
     rw[f]at l
     rw[g]at o
     omega
   simp(disch:=omega) only[AD,<-Int.add_assoc];refine Bg Q λc q=>?_;have l:=q.2.1;have o:=q.2.2.1;have e:=R (c-(i+1+m+1)) (by omega);rw[show i+1+m+1+(c-(i+1+m+1))=c by omega]at e;exact e q
  refine wW ?_;refine Bg P λb c q=>?_;have l:=q.1;have o:=q.2.1;have G:=q.2.2.1;have e:=Q (b-(i+1)) (by omega) c;rw[show i+1+(b-(i+1))=b by omega]at e;exact e q
 refine wW ?_;obtain⟨f,g⟩:=ADT (p:=p) λa b c q=>P a (by have:=q.1;have:=q.2.1;have:=q.2.2.1;omega) b c q;rw[f,g]<;>rfl
end Go.Cat
namespace Go.Cat
variable{K:Nat->List D->List D->Prop}
set_option maxRecDepth 100000
def H4(x:Int)(l:List Int):Bool:=l.any λz=>decide (z<x)
def d231(x:Int):List Int->Bool
 |[]=>false
 |y::l=>(decide (x<y)&&H4 x l)||d231 x l
def FD:List Int->Bool
 |[]=>false
 |x::l=>d231 x l||FD l
theorem AQY{x y:Int}{l:List Int}:H4 x (y::l)=(decide (y<x)||H4 x l):=rfl
theorem AJN{x y:Int}{l:List Int}:d231 x (y::l)=((decide (x<y)&&H4 x l)||d231 x l):=rfl
theorem AE0{x:Int}{l:List Int}:FD (x::l)=(d231 x l||FD l):=rfl
theorem AfJ[HA K]{a b c:Int}:K 206 [.n a,.n b,.n c] [.b (decide (c<a)&&decide (a<b))]:=by refine qb I206 ?_;by_cases h:c<a;by_cases H:a<b;have e:decide (c<a)=true:=decide_eq_true h;have f:decide (a<b)=true:=decide_eq_true H;rw[e,f];exact wZ;have e:decide (c<a)=true:=decide_eq_true h;have f:decide (a<b)=false:=decide_eq_false H;rw[e,f];exact wZ;have e:decide (c<a)=false:=decide_eq_false h;rw[e];exact wZ
def FH(p:List Int):Bool:=Cb p&&FD p
theorem Aa9[HA K]{p:List Int}(h:p.length<=1000000):K 205 [LI p,.f 206 []] [.b (FH p)]:=by
 refine qw I205 ?_;refine cB (Pc (by omega)) ?_
 cases o:Cb p;have e:FH p=false:=by simp[FH,o]
 rw[e];exact wZ;have e:FH p=FD p:=by simp[FH,o]
 rw[e];refine wW ?_;refine AN (λi=>FD (p.drop i)=FD p) (λi=>[LI p,.f 206 [],.u,.u,.u,.u,.u,.n p.length,.n i,.u,.u,.u,.u]) p.length (by simp) rfl (λi hi P=>?_) (λP=>?_);rw[Kk hi,AE0]at P;refine wW ?_;refine Ah (λj (_:Unit)=>d231 (AB p i) (p.drop (i+1+j))=d231 (AB p i) (p.drop (i+1))) (λj _=>[LI p,.f 206 [],.u,.n i,.n ((i:Int)+1+j),.u,.u,.n p.length,.n i,.u,.u,.u,.u]) (p.length-(i+1)) () (by simp) (by simp) (λj _ s Q=>?_) (λ_ Q=>?_);rw[Kk (show i+1+j<p.length by omega),AJN]at Q;rw[show((i+1+j:Nat):Int)=(i:Int)+1+j by omega]at Q;refine wW ?_;refine Ah (λk (_:Unit)=>H4 (AB p i) (p.drop (i+1+j+1+k))=H4 (AB p i) (p.drop (i+1+j+1))\/¬AB p i<AB p ((i:Int)+1+j)) (λk _=>[LI p,.f 206 [],.u,.n i,.n ((i:Int)+1+j),.n ((i:Int)+1+j+1+k),.u,.n p.length,.n i,.u,.u,.u,.u]) (p.length-(i+1+j+1)) () (.inl (by simp)) (by simp) (λk _ x R=>?_) (λ_ R=>?_);rw[Kk (show i+1+j+1+k<p.length by omega),AQY]at R;rw[show((i+1+j+1+k:Nat):Int)=(i:Int)+1+j+1+k by omega]at R;refine wW ?_;refine cB AfJ ?_;by_cases l:AB p ((i:Int)+1+j+1+k)<AB p i;have a:decide (AB p ((i:Int)+1+j+1+k)<AB p i)=true:=decide_eq_true l;by_cases H:AB p i<AB p ((i:Int)+1+j);have c:decide (AB p i<AB p ((i:Int)+1+j))=true:=decide_eq_true H;rw[a]at R;have R:=R.resolve_right (λq=>q H);rw[c,<-R]at Q;rw[<-Q]at P;simp only[Bool.true_or,Bool.true_and]at P;rw[a,c];refine wW ?_;rw[<-P];have c:decide (AB p i<AB p ((i:Int)+1+j))=false:=decide_eq_false H;rw[a,c];refine wW ?_;exact⟨(),.inr H,by simp;omega⟩;have a:decide (AB p ((i:Int)+1+j+1+k)<AB p i)=false:=decide_eq_false l;rw[a]at R;rw[a];refine wW ?_;refine⟨(),?_,by simp;omega⟩;rcases R with R|R;left;rw[show i+1+j+1+(k+1)=i+1+j+1+k+1 by omega];simpa using R;exact .inr R;refine wW ?_;refine⟨(),?_,by simp;omega⟩;have g:p.drop (i+1+j+1+(p.length-(i+1+j+1)))=[]:=by simp;omega
 rw[g]at R;rw[show i+1+(j+1)=i+1+j+1 by omega];rcases R with R|R;rw[<-R]at Q;simpa[H4]using Q;have c:decide (AB p i<AB p ((i:Int)+1+j))=false:=decide_eq_false R;rw[c]at Q;simpa using Q;refine wW ?_;have g:p.drop (i+1+(p.length-(i+1)))=[]:=by simp;omega
 rw[g]at Q;rw[<-Q]at P;simpa[d231]using P;rw[List.drop_length]at P;refine wW ?_;rw[<-P]<;>rfl
theorem AbZ[HA K]{p:List Int}(h:p.length<=1000000):K 187 [LI p] [.b (FH p)]:=by refine qw I187 ?_;exact cZ (Aa9 h)
theorem AlF[HA K]{p:List Int}(h:p.length<=1000000):K 186 [LI p] [.b (FH p)]:=by
 refine qw I186 ?_
 cases H:Cb p;have e:FH p=false:=by simp[FH,H]
 rw[e];refine AN (λi=>True) (λi=>[LI p,.u,.n i,.u,.u,.u,.u,.u,.u]) 0 trivial rfl (λi hi P=>?_) (λP=>?_);omega;by_cases h0:0<p.length;refine wW ?_;refine cB (Mh (by omega)) ?_;simp(disch:=omega) only[AD,H];exact wZ;have e:FH p=FD p:=by simp[FH,H]
 rw[e];refine AN (λi=>FD (p.drop i)=FD p) (λi=>[LI p,.u,.n i,.u,.u,.u,.u,.u,.u]) p.length (by simp) rfl (λi hi P=>?_) (λP=>?_);rw[Kk hi,AE0]at P;refine wW ?_;refine cB (Mh (by omega)) ?_;simp(disch:=omega) only[AD,H];refine Ah (λj (_:Unit)=>d231 (AB p i) (p.drop (i+1+j))=d231 (AB p i) (p.drop (i+1))) (λj _=>[LI p,.u,.n i,.n ((i:Int)+1+j),.u,.u,.u,.u,.u]) (p.length-(i+1)) () (by simp) (by simp) (λj _ o Q=>?_) (λ_ Q=>?_);rw[Kk (show i+1+j<p.length by omega),AJN]at Q;rw[show((i+1+j:Nat):Int)=(i:Int)+1+j by omega]at Q;refine wW ?_;refine Ah (λk (_:Unit)=>H4 (AB p i) (p.drop (i+1+j+1+k))=H4 (AB p i) (p.drop (i+1+j+1))\/¬AB p i<AB p ((i:Int)+1+j)) (λk _=>[LI p,.u,.n i,.n ((i:Int)+1+j),.n ((i:Int)+1+j+1+k),.u,.u,.u,.u]) (p.length-(i+1+j+1)) () (.inl (by simp)) (by simp) (λk _ s R=>?_) (λ_ R=>?_);rw[Kk (show i+1+j+1+k<p.length by omega),AQY]at R;rw[show((i+1+j+1+k:Nat):Int)=(i:Int)+1+j+1+k by omega]at R;by_cases l:AB p ((i:Int)+1+j+1+k)<AB p i;have a:decide (AB p ((i:Int)+1+j+1+k)<AB p i)=true:=decide_eq_true l;by_cases f:AB p i<AB p ((i:Int)+1+j);have c:decide (AB p i<AB p ((i:Int)+1+j))=true:=decide_eq_true f;rw[a]at R;have R:=R.resolve_right (λq=>q f);rw[c,<-R]at Q;rw[<-Q]at P;simp only[Bool.true_or,Bool.true_and]at P;refine wW ?_;rw[<-P];refine wW ?_;exact⟨(),.inr f,by simp;omega⟩;have a:decide (AB p ((i:Int)+1+j+1+k)<AB p i)=false:=decide_eq_false l;rw[a]at R;refine wW ?_;refine⟨(),?_,by simp;omega⟩;rcases R with R|R;left;rw[show i+1+j+1+(k+1)=i+1+j+1+k+1 by omega];simpa using R;exact .inr R;refine wW ?_;refine⟨(),?_,by simp;omega⟩;have g:p.drop (i+1+j+1+(p.length-(i+1+j+1)))=[]:=by simp;omega
 rw[g]at R;rw[show i+1+(j+1)=i+1+j+1 by omega];rcases R with R|R;rw[<-R]at Q;simpa[H4]using Q;have c:decide (AB p i<AB p ((i:Int)+1+j))=false:=decide_eq_false R;rw[c]at Q;simpa using Q;refine wW ?_;have g:p.drop (i+1+(p.length-(i+1)))=[]:=by simp;omega
 rw[g]at Q;rw[<-Q]at P;simpa[d231]using P;rw[List.drop_length]at P;refine wW ?_;rw[<-P]<;>rfl
theorem AXZ{p:List Int}(h:∃i j k,pat p i j k):∃t,first p t:=by obtain⟨i,hi,M⟩:=exists_least (J:=λi=>∃j k,pat p i j k) h;obtain⟨j,c,f⟩:=exists_least (J:=λj=>∃k,pat p i j k) hi;obtain⟨k,e,mk⟩:=exists_least (J:=λk=>pat p i j k) c;refine⟨(i,j,k),e,?_⟩;rintro I b a H (q|⟨rfl,q|⟨rfl,q⟩⟩);exact M I q ⟨b,a,H⟩;exact f b q ⟨a,H⟩;exact mk a q H
theorem AhW{p:List Int}{x:Int}:H4 x p=true↔∃k:Nat,k<p.length/\AB p k<x:=by simp only[H4,List.any_eq_true,Ac];constructor;rintro⟨z,a,h⟩;obtain⟨k,H,rfl⟩:=List.mem_iff_getElem.1 a;exact⟨k,H,by simpa[AB,H]using h⟩;rintro⟨k,H,h⟩;exact⟨p[k],List.getElem_mem H,by simpa[AB,H]using h⟩
theorem P7{x:Int}{l:List Int}:AB (x::l) ((0:Nat):Int)=x:=rfl
theorem HD{x:Int}{l:List Int}{k:Nat}:AB (x::l) ((k+1:Nat):Int)=AB l k:=by simp[AB]
theorem APL{x:Int}:∀{p:List Int},d231 x p=true↔∃j k:Nat,j<k/\k<p.length/\AB p k<x/\x<AB p j
 |[]=>by simp[d231]
 |y::l=>by
  simp only[d231,Bool.or_eq_true,AV,Ac,AhW,APL (p:=l)];constructor;rintro(⟨b,k,c,a⟩|⟨j,k,b,a,H,h⟩);exact⟨0,k+1,by omega,by simp;omega,by rw[HD];exact a,by rw[P7];exact b⟩;exact⟨j+1,k+1,by omega,by simp;omega,by rw[HD];exact H,by rw[HD];exact h⟩;rintro⟨j,k,b,a,H,h⟩
  cases k with
  |zero=>omega
  |succ k=>
   rw[HD]at H
   simp only[AP]at a
   cases j with
   |zero=>rw[P7]at h;exact .inl ⟨h,k,by omega,H⟩
   |succ j=>rw[HD]at h;exact .inr ⟨j,k,by omega,by omega,H,h⟩
theorem AR8:∀{p:List Int},FD p=true↔∃i j k,pat p i j k
 |[]=>by simp[FD,pat]
 |x::l=>by
  simp only[FD,Bool.or_eq_true,APL,AR8 (p:=l),pat];constructor;rintro(⟨j,k,b,c,a,h⟩|⟨i,j,k,b,c,a,h,H⟩);exact⟨0,j+1,k+1,by omega,by omega,by simp;omega,by rw[HD,P7];exact a,by rw[HD,P7];exact h⟩;exact⟨i+1,j+1,k+1,by omega,by omega,by simp;omega,by rw[HD,HD];exact h,by rw[HD,HD];exact H⟩;rintro⟨i,j,k,b,c,a,h,H⟩;simp only[AP]at a
  cases k with
  |zero=>omega
  |succ k=>
   cases j with
   |zero=>omega
   |succ j=>
    rw[HD]at h H
    cases i with
    |zero=>rw[P7]at h H;exact .inl ⟨j,k,by omega,by omega,h,H⟩
    |succ i=>rw[HD]at h H;exact .inr ⟨i,j,k,by omega,by omega,by omega,h,H⟩
theorem AW2{p:List Int}:IG p=FH p:=by unfold IG FH;congr 1;rw[Bool.eq_iff_iff];simp only[Ac,AR8];exact⟨λ⟨t,ht⟩=>⟨_,_,_,ht.1⟩,AXZ⟩
end Go.Cat
namespace Go.Cat
variable{K:Nat->List D->List D->Prop}
end Go.Cat
namespace Go.Cat
variable{K:Nat->List D->List D->Prop}
set_option maxRecDepth 100000
def Cq:List Int->Int->List Nat×List Int×Int
 |[],n=>([],[],n)
 |y::st,n=>if y=n then(100::(Cq st (n+1)).1,(Cq st (n+1)).2)else([],y::st,n)
def Dk:List Int->List Int->Int->List Nat
 |[],_,_=>[]
 |x::p,st,n=>117::((Cq (x::st) n).1++Dk p (Cq (x::st) n).2.1 (Cq (x::st) n).2.2)
def DH(p:List Int):Bool:=Cb p&&!(FD p)
def DT(p:List Int):List Nat:=if DH p=true then Dk p [] 0 else []
theorem APW:D.l []=LI []:=rfl
theorem AJW[HA K]{p:List Int}(h:p.length<=1000):K 156 [LI p] [.s (DT p),.b (DH p)]:=by
 refine qw AP0 ?_;refine cB (Mh (by omega)) ?_
 cases H:Cb p;have e:DH p=false:=by simp[DH,H]
 simp only[DT,e];exact wZ;refine wW ?_;refine cB (AlF (by omega)) ?_;have I:FH p=FD p:=by simp[FH,H]
 rw[I]
 cases B:FD p;have e:DH p=true:=by simp[DH,H,B]
 simp only[DT,e,if_true];simp(disch:=try exact dV) only[AD,APW];refine Ah (λi (x:List Nat×List Int×Int)=>x.1++Dk (p.drop i) x.2.1 x.2.2=Dk p [] 0/\x.1.length+x.2.1.length=2*i/\x.2.2+x.2.1.length=i) (λi x=>[LI p,.u,.u,.s x.1,LI x.2.1.reverse,.n x.2.2,.n i,.u,.u,.u]) p.length ([],[],0) ⟨by simp,by simp,by simp⟩ rfl (λi x hi P=>?_) (λx P=>?_);obtain⟨w,st,n⟩:=x;obtain⟨g,G,o⟩:=P;simp only at g G o;rw[Kk hi]at g;simp only[Dk]at g;obtain⟨R,a⟩:∃R,R=Cq (AB p i::st) n:=⟨_,rfl⟩;rw[<-a]at g;refine wW ?_;refine Bd (λ(x:List Nat×List Int×Int)=>x.1++(Cq x.2.1 x.2.2).1=w++[117]++R.1/\(Cq x.2.1 x.2.2).2=R.2/\x.1.length+x.2.1.length=2*i+2/\x.2.2+x.2.1.length=i+1) (λx=>[LI p,.u,.u,.s x.1,LI x.2.1.reverse,.n x.2.2,.n i,.u,.u,.u]) (λx=>x.2.1.length) (w++[117],AB p i::st,n) ⟨by rw[a],by rw[a],by simp;omega,by simp;omega⟩ (by simp) ?_;rintro⟨W,s1,N⟩ ⟨q,Q,c,f⟩;simp only at q Q c f|-
 cases s1 with
 |nil=>
  simp only[Cq,List.append_nil]at q Q
  simp only[List.reverse_nil]
  simp only[A5]at c f
  refine wW ?_
  refine⟨(W,[],N),⟨?_,by simp;omega,by simp;omega⟩,rfl⟩
  show W++Dk (p.drop (i+1)) [] N=_
  rw[<-g,<-Q,q];simp
 |cons y t=>
  have C:t.reverse.length=t.length:=by simp
  have j:AB (t.reverse++[y]) t.length=y:=by rw[<-C];exact LA
  have k:sub (t.reverse++[y]) 0 t.length=t.reverse:=by rw[<-C];exact MG
  have l:(((t.reverse++[y]).length:Nat):Int)=(t.length:Int)+1:=by simp
  simp only[List.reverse_cons]
  simp only[AP]at c f
  by_cases F:y=N
  .subst F
   simp only[Cq,if_true]at q Q
   simp(disch:=try exact dV) only[AD,l,j,k,Bq]
   refine⟨(W++[100],t,y+1),by simp,⟨by rw[<-q];simp,Q,by simp;omega,by simp only;omega⟩,rfl⟩
  .simp only[Cq,if_neg F,List.append_nil]at q Q
   simp(disch:=try exact dV) only[AD,l,j,k,Bq]
   refine⟨(W,y::t,N),⟨?_,by simp;omega,by simp;omega⟩,by simp⟩
   show W++Dk (p.drop (i+1)) (y::t) N=_
   rw[<-g,<-Q,q];simp
 obtain⟨w,st,n⟩:=x;obtain⟨g,G,o⟩:=P;rw[List.drop_length]at g;simp only[Dk,List.append_nil]at g;simp(disch:=try exact dV) only[AD,g];have e:DH p=false:=by simp[DH,H,B]
 simp only[DT,e];exact wZ
end Go.Cat
namespace Go.Cat
variable{K:Nat->List D->List D->Prop}
set_option maxRecDepth 100000
theorem AbP:∀{p st:List Int}{n:Int},(Dk p st n).length<=2*p.length+st.length:=by
 have pop:∀(st:List Int)(n:Int),(Cq st n).1.length+(Cq st n).2.1.length=st.length:=by
  intro st;induction st with
  |nil=>intro n;rfl
  |cons y st i=>
   intro n
   unfold Cq
   split
   .have:=i (n+1);simp only[AP];omega
   .simp
 intro p;induction p with
 |nil=>intro st n;simp[Dk]
 |cons x p i=>
  intro st n
  have h:=pop (x::st) n
  have H:=i (st:=(Cq (x::st) n).2.1) (n:=(Cq (x::st) n).2.2)
  simp only[Dk,AP,AW]at h|-
  omega
theorem AlW{p:List Int}:(DT p).length<=2*p.length:=by unfold DT;split;simpa using AbP (p:=p) (st:=[]) (n:=0);simp
end Go.Cat
