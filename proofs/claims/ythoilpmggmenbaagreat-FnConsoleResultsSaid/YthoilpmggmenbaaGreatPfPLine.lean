/-
 PathLine answers as the reference does.
-/
import Derived.Test.YthoilpmggmenbaaGreatPfPart
set_option linter.unusedSimpArgs false
set_option linter.unusedVariables false
namespace Go.Cat
instance:HA (λ_ _ _=>True):=⟨λ_ _ _ _=>trivial⟩
variable{K:Nat->List D->List D->Prop}
open Classical in
noncomputable def Ds(w:List Nat):List Int:=if h:∃m,PP w m then h.choose else []
theorem PT{w:List Nat}{m:List Int}(h:PP w m):Ds w=m:=by have H:∃m,PP w m:=⟨m,h⟩;simp only[Ds,dif_pos H];exact AbH H.choose_spec h
theorem VM{w:List Nat}(hd:AK w=true):PP w (Ds w):=by have:Has (λ_ _ _=>True) 373 AJW.v:=⟨λ_ _ _=>trivial⟩;obtain⟨_,⟨m,_,h⟩,_⟩:=Qz (K:=λ_ _ _=>True) hd;rw[PT h];exact h
noncomputable def De(w:List Nat):List Int:=Cq (Cr w (λa=>(D8 w (AB (Ds w) a).toNat:Int)) w.length) (CD w w.length)
theorem Mo{w:List Nat}(hd:AK w=true):(De w).length<=8:=by have h:=Ka hd;have H:=(A8 hd).l;simp only[De,Nz];omega
theorem AFX[HA K]{w:List Nat}(hd:AK w=true):K 301 [.s w] [LI (De w),.b true]:=Yf (K:=K) hd (VM hd)
theorem PC[HA K]{w:List Nat}(hd:AK w=true):K 503 [.s w] [LI (De w),.b true]/\K 301 [.s w] [LI (De w),.b true]:=by
 obtain⟨_,⟨m,H,rfl⟩,k⟩:=AOL (K:=K) hd;have J:=Yf (K:=K) hd H;have G:=H.1;have e:=PT H;refine⟨?_,by rw[De,e];exact J⟩;have i:Cq (Cr w (λa=>(E0 w (AB m a).toNat:Int)) w.length) (CD w w.length)=De w:=by
  have j:Cr w (λa=>(E0 w (AB m a).toNat:Int)) w.length=(Cr w (λa=>(D8 w (AB m a).toNat:Int)) w.length).map (·+1):=by
   refine AEN λa g I=>?_;obtain⟨b,F,q⟩:=H.2 a g;have h:b<w.length:=by rcases q with q|q<;>have:=q.1<;>have:=q.2.1<;>omega
   have C:=A8 hd;have c:AI w b=100:=by rcases C.ud b h with f|f;exfalso;rcases q with q|q;have o:=F6 h f;have x:=q.2.2.1;have B:=q.2.2.2 b q.1 (Nat.le_refl _);omega;have o:=F6 g I;have x:=q.2.2.1;have B:=q.2.2.2 a q.1 (Nat.le_refl _);omega;exact f
   have l:=ACD hd h;rw[if_pos c]at l;simp only[F,BM];omega
  rw[j,Yh,De,e];rw[RE (Nat.le_refl _)];exact Nat.le_refl _
 rw[i]at k;exact k
theorem LQ{w:List Nat}(hd:AK w=true):(Ca w).length<=17:=by have h:=(A8 hd).l;have:=Ui (w:=w) (out:=[-1]) (st:=[0]);simp only[Ca,AO,Aa]at *;omega
def GQ:List (List Nat):=[[112,101,97,107,115],[114,101,116,117,114,110,115],[114,105,115,101],[97,114,101,97],[100,101,112,116,104],[108,101,97,118,101,115],[98,108,111,99,107,115],[109,97,106,111,114],[102,97,108,108]]
theorem PV{a b c d e f g h i:List Nat}:EK [.s a,.s b,.s c,.s d,.s e,.s f,.s g,.s h,.s i]=some (LS [a,b,c,d,e,f,g,h,i]):=rfl
theorem AQ8[HA K]:K 499 [] [LS GQ]:=by refine qb I499 ?_;simp(disch:=try exact dV) only[AD,PV];rfl
theorem ATI[HA K]:K 498 [] [LS GQ]:=by refine qb I498 ?_;simp(disch:=try exact dV) only[AD,PV];rfl
noncomputable def Bp(w:List Nat):Nat->Int
 |0=>Cz 117 100 (λ_=>1) w (w.length-1)
 |1=>Hv w w.length
 |2=>DZ 117 w
 |3=>Fq w w.length
 |4=>Fa w (w.length+1)
 |5=>GP (Ca w) (Ca w).length
 |6=>(if CJ (De w)=true then Ak (De w) (De w).length else []).length
 |7=>Cz 100 117 (λj=>j+1) w (w.length-1)
 |8=>DZ 100 w.reverse
 |_=>-1
theorem BA{a b:Nat}{x y:List Nat}(h:a≠b):((a::x)==(b::y))=false:=by rw[List.cons_beq_cons,beq_eq_false_iff_ne.2 h]<;>rfl
theorem Ax{a:Nat}{x y:List Nat}:((a::x)==(a::y))=(x==y):=by rw[List.cons_beq_cons,beq_self_eq_true,Bool.true_and]
theorem Ay:(([]:List Nat)==[])=true:=rfl
theorem AUL[HA K]{w:List Nat}(hd:AK w=true):K 500 [.s [112,101,97,107,115],.s w] [.n (Bp w 0)]:=by
 have h:=(A8 hd).l;refine qw IU ?_;repeat(refine cB (by first|exact Bf (by omega)|exact AZB hd|fail) ?_;try simp(disch:=try exact dV) only[AD,hd,BA,Ax,Ay])
 rfl
theorem AS2[HA K]{w:List Nat}(hd:AK w=true):K 500 [.s [114,101,116,117,114,110,115],.s w] [.n (Bp w 1)]:=by
 have h:=(A8 hd).l;refine qw IU ?_;repeat(refine cB (by first|exact Bf (by omega)|exact AWJ hd|fail) ?_;try simp(disch:=try exact dV) only[AD,hd,BA,Ax,Ay])
 rfl
theorem AZW[HA K]{w:List Nat}(hd:AK w=true):K 500 [.s [114,105,115,101],.s w] [.n (Bp w 2)]:=by
 have b:=(A8 hd).l;refine qw IU ?_;repeat(refine cB (Bf (by omega)) ?_;try simp(disch:=try exact dV) only[AD,hd,BA,Ax,Ay])
 refine Bd (λ(x:Nat)=>x<=DZ 117 w) (λx=>[.u,.s w,.u,.n x,.u,.u,.u,.u,.u,.u,.u,.u,.u,.u,.u,.u,.u,.u,.u,.u,.u]) (λx=>DZ 117 w-x) 0 (by omega) rfl ?_;intro x f;have e:=KX (c:=117) w;by_cases h:x<w.length;have a:=M0 (c:=117) h;by_cases H:x<DZ 117 w;simp(disch:=try exact dV) only[AD,a.1 H];exact⟨x+1,by omega,by omega,by simp⟩;have:=a.2 (by omega);refine wW ?_;exact Dn (by simp only[Bp];omega);refine wW ?_;exact Dn (by simp only[Bp];omega)
theorem APP[HA K]{w:List Nat}(hd:AK w=true):K 500 [.s [97,114,101,97],.s w] [.n (Bp w 3)]:=by
 have h:=(A8 hd).l;refine qw IU ?_;repeat(refine cB (by first|exact Bf (by omega)|exact ATU hd|fail) ?_;try simp(disch:=try exact dV) only[AD,hd,BA,Ax,Ay])
 rfl
theorem AUE[HA K]{w:List Nat}(hd:AK w=true):K 500 [.s [100,101,112,116,104],.s w] [.n (Bp w 4)]:=by
 have h:=(A8 hd).l;refine qw IU ?_;repeat(refine cB (by first|exact Bf (by omega)|exact AHP hd|exact dp_i hd|fail) ?_;try simp(disch:=try exact dV) only[AD,hd,BA,Ax,Ay])
 rfl
theorem ASU[HA K]{w:List Nat}(hd:AK w=true):K 500 [.s [108,101,97,118,101,115],.s w] [.n (Bp w 5)]:=by
 have H:=(A8 hd).l;refine qw IU ?_;have h:=LQ hd;repeat(refine cB (by first|exact Bf (by omega)|exact Y9 hd|exact APK (by omega)|fail) ?_;try simp(disch:=try exact dV) only[AD,hd,BA,Ax,Ay])
 rfl
theorem AOI[HA K]{w:List Nat}(hd:AK w=true):K 500 [.s [98,108,111,99,107,115],.s w] [.n (Bp w 6)]:=by
 have H:=(A8 hd).l;refine qw IU ?_;have h:=Mo hd;repeat(refine cB (by first|exact Bf (by omega)|exact(PC (K:=K) hd).1|exact AHR (by omega)|fail) ?_;try simp(disch:=try exact dV) only[AD,hd,BA,Ax,Ay])
 rfl
theorem AQP[HA K]{w:List Nat}(hd:AK w=true):K 500 [.s [109,97,106,111,114],.s w] [.n (Bp w 7)]:=by
 have h:=(A8 hd).l;refine qw IU ?_;repeat(refine cB (by first|exact Bf (by omega)|exact AcM hd|fail) ?_;try simp(disch:=try exact dV) only[AD,hd,BA,Ax,Ay])
 rfl
theorem AQZ[HA K]{w:List Nat}(hd:AK w=true):K 500 [.s [102,97,108,108],.s w] [.n (Bp w 8)]:=by
 have e:=(A8 hd).l;refine qw IU ?_;repeat(refine cB (Bf (by omega)) ?_;try simp(disch:=try exact dV) only[AD,hd,BA,Ax,Ay])
 refine Bd (λ(x:Nat)=>x<=DZ 100 w.reverse) (λx=>[.u,.s w,.u,.u,.u,.u,.u,.n x,.u,.u,.u,.u,.u,.u,.u,.u,.u,.u,.u,.u,.u]) (λx=>DZ 100 w.reverse-x) 0 (by omega) rfl ?_;intro x f;have b:=KX (c:=100) w.reverse;rw[List.length_reverse]at b;by_cases h:x<w.length;have a:=M0 (c:=100) (l:=w.reverse) (i:=x) (by simpa using h);rw[Za h]at a;by_cases H:x<DZ 100 w.reverse;simp(disch:=try exact dV) only[AD,a.1 H];exact⟨x+1,by omega,by omega,by simp⟩;have:=a.2 (by omega);refine wW ?_;exact Dn (by simp only[Bp];omega);refine wW ?_;exact Dn (by simp only[Bp];omega)
theorem ASC[HA K]{w:List Nat}(hd:AK w=true):K 235 [.s [112,101,97,107,115],.s w] [.n (Bp w 0)]:=by
 have h:=(A8 hd).l;refine qw IK ?_;repeat(refine cB (by first|exact By (by omega)|exact AXQ hd|fail) ?_;try simp(disch:=try exact dV) only[AD,hd,BA,Ax,Ay])
 rfl
theorem APD[HA K]{w:List Nat}(hd:AK w=true):K 235 [.s [114,101,116,117,114,110,115],.s w] [.n (Bp w 1)]:=by
 have h:=(A8 hd).l;refine qw IK ?_;repeat(refine cB (by first|exact By (by omega)|exact AZJ hd|fail) ?_;try simp(disch:=try exact dV) only[AD,hd,BA,Ax,Ay])
 rfl
theorem AbE[HA K]{w:List Nat}(hd:AK w=true):K 235 [.s [114,105,115,101],.s w] [.n (Bp w 2)]:=by
 have h:=(A8 hd).l;refine qw IK ?_;repeat(refine cB (by first|exact By (by omega)|exact AWN (by omega)|fail) ?_;try simp(disch:=try exact dV) only[AD,hd,BA,Ax,Ay])
 rfl
theorem AdX[HA K]{w:List Nat}(hd:AK w=true):K 235 [.s [97,114,101,97],.s w] [.n (Bp w 3)]:=by
 have h:=(A8 hd).l;refine qw IK ?_;repeat(refine cB (by first|exact By (by omega)|exact ATA hd|fail) ?_;try simp(disch:=try exact dV) only[AD,hd,BA,Ax,Ay])
 rfl
theorem AbI[HA K]{w:List Nat}(hd:AK w=true):K 235 [.s [100,101,112,116,104],.s w] [.n (Bp w 4)]:=by
 have h:=(A8 hd).l;refine qw IK ?_;repeat(refine cB (by first|exact By (by omega)|exact AK6 hd|exact dp_s hd|fail) ?_;try simp(disch:=try exact dV) only[AD,hd,BA,Ax,Ay])
 rfl
theorem AbN[HA K]{w:List Nat}(hd:AK w=true):K 235 [.s [108,101,97,118,101,115],.s w] [.n (Bp w 5)]:=by
 have H:=(A8 hd).l;refine qw IK ?_;have h:=LQ hd;repeat(refine cB (by first|exact By (by omega)|exact Zs hd|exact APY (by omega)|fail) ?_;try simp(disch:=try exact dV) only[AD,hd,BA,Ax,Ay])
 rfl
theorem AbU[HA K]{w:List Nat}(hd:AK w=true):K 235 [.s [98,108,111,99,107,115],.s w] [.n (Bp w 6)]:=by
 have H:=(A8 hd).l;refine qw IK ?_;have h:=Mo hd;repeat(refine cB (by first|exact By (by omega)|exact AFX hd|exact VV (by omega)|fail) ?_;try simp(disch:=try exact dV) only[AD,hd,BA,Ax,Ay])
 rfl
theorem AV4[HA K]{w:List Nat}(hd:AK w=true):K 235 [.s [109,97,106,111,114],.s w] [.n (Bp w 7)]:=by
 have h:=(A8 hd).l;refine qw IK ?_;repeat(refine cB (by first|exact By (by omega)|exact ARG hd|fail) ?_;try simp(disch:=try exact dV) only[AD,hd,BA,Ax,Ay])
 rfl
theorem AR0[HA K]{w:List Nat}(hd:AK w=true):K 235 [.s [102,97,108,108],.s w] [.n (Bp w 8)]:=by
 have h:=(A8 hd).l;refine qw IK ?_;repeat(refine cB (by first|exact By (by omega)|exact AN4 (by omega)|fail) ?_;try simp(disch:=try exact dV) only[AD,hd,BA,Ax,Ay])
 rfl
theorem AT4[HA K]{w:List Nat}(hd:AK w=true):∀i:Nat,i<9->K 500 [.s (AH GQ i),.s w] [.n (Bp w i)]
 |0,_=>AUL hd
 |1,_=>AS2 hd
 |2,_=>AZW hd
 |3,_=>APP hd
 |4,_=>AUE hd
 |5,_=>ASU hd
 |6,_=>AOI hd
 |7,_=>AQP hd
 |8,_=>AQZ hd
 |i+9,h=>absurd h (by omega)
theorem AbR[HA K]{w:List Nat}(hd:AK w=true):∀i:Nat,i<9->K 235 [.s (AH GQ i),.s w] [.n (Bp w i)]
 |0,_=>ASC hd
 |1,_=>APD hd
 |2,_=>AbE hd
 |3,_=>AdX hd
 |4,_=>AbI hd
 |5,_=>AbN hd
 |6,_=>AbU hd
 |7,_=>AV4 hd
 |8,_=>AR0 hd
 |i+9,h=>absurd h (by omega)
theorem UH{w:List Nat}(hd:AK w=true):∀i:Nat,-1000<=Bp w i/\Bp w i<=1000
 |0=>by have H:=(A8 hd).l;have:=Jw (a:=117) (b:=100) (g:=λ_=>1) (w:=w) (λ_ _=>by omega) (i:=w.length-1) (by omega);simp only[Bp];omega
 |1=>by have H:=(A8 hd).l;have:=AA0 (w:=w) (i:=w.length);simp only[Bp];omega
 |2=>by have H:=(A8 hd).l;have:=KX (c:=117) w;simp only[Bp];omega
 |3=>by have H:=(A8 hd).l;have:=R7 H (i:=w.length) (by omega);simp only[Bp];omega
 |4=>by have H:=(A8 hd).l;have:=AAD (w:=w) (w.length+1);simp only[Bp];omega
 |5=>by have H:=LQ hd;have:=V1 (p:=Ca w) (i:=(Ca w).length);simp only[Bp];omega
 |6=>by have H:=Mo hd;simp only[Bp];split;rename_i h;simp only[CJ,AU,Ad]at h;have e:=Jj (p:=De w) h.2;have f:=Hk h.2;omega;simp
 |7=>by have H:=(A8 hd).l;have:=Jw (a:=100) (b:=117) (g:=λj=>j+1) (w:=w) (λ_ _=>by omega) (i:=w.length-1) (by omega);simp only[Bp];omega
 |8=>by have H:=(A8 hd).l;have:=KX (c:=100) w.reverse;rw[List.length_reverse]at this;simp only[Bp];omega
 |i+9=>by simp only[Bp];omega
theorem IP[HA K]{ws:List (List Nat)}(l:ws.length<=100000)(h:∀x∈ws,x.length<=100000):K 141 [LS ws] [.s (glue [32] ws)]:=by refine qw I141 ?_;exact cZ (Hs l h (by simp))
theorem Zc{s a b c:List Nat}:glue s [a,b,c]=a++s++b++s++c:=by simp[glue,BC,AH]
theorem APH{s a b c d:List Nat}:glue s [a,b,c,d]=a++s++b++s++c++s++d:=by simp[glue,BC,AH]
theorem ls_4{a b c d:List Nat}:EK [.s a,.s b,.s c,.s d]=some (LS [a,b,c,d]):=rfl
theorem XK{a b c:List Nat}:EK [.s a,.s b,.s c]=some (LS [a,b,c]):=rfl
noncomputable def Gq(w:List Nat):Nat->List Nat
 |0=>[112,97,116,104]++[32]++AN (FQ w)++[32]++[114,97,110,107]++[32]++AN (Bu w)
 |i+1=>Gq w i++[32]++AH GQ i++[32]++AN (Bp w i)
theorem UY{i:Nat}:(AH GQ i).length<=10:=Ib (b:=10) (ws:=GQ) (by decide)
theorem J5{w:List Nat}(hd:AK w=true):-1<=Bu w/\Bu w<=1430:=by simp only[Bu,hd,if_true];obtain⟨g,l⟩:=Lg hd;have h:=(Og w _ _ g).1;have H:=Jt (u:=w.length/2) (d:=w.length/2) (by omega) (by omega);omega
theorem Pf{w:List Nat}(hd:AK w=true):FQ w=(w.length:Int)/2:=by simp[FQ,hd]
theorem OT{w:List Nat}(hd:AK w=true):∀i:Nat,(Gq w i).length<=60+i*40
 |0=>by have e:=(A8 hd).l;have H:=J5 hd;have c:=Pf hd;have a:=Ar (n:=Bu w) (by omega);have b:=Ar (n:=FQ w) (by omega);simp only[Gq,AZ,AO,Aa];omega
 |i+1=>by have h:=OT hd i;have H:=UH hd i;have a:=Ar (n:=Bp w i) (by omega);have b:=UY (i:=i);simp only[Gq,AZ,AO,Aa];omega
theorem AUB[HA K]{w:List Nat}(h:w.length<=1048576):K 458 [.s w] [.s (if AK w=true then Gq w 9 else [])]:=by
 refine qw I458 ?_
 cases hd:AK w
 .repeat(refine cB (Bf (by omega)) ?_;try simp(disch:=try exact dV) only[AD,hd])
  rfl
 have j:=(A8 hd).l;have H:=J5 hd;have c:=Pf hd;have f:=Ar (n:=Bu w) (by omega);have g:=Ar (n:=FQ w) (by omega);repeat(refine cB (by first|exact Bf (by omega)|exact Ab2 (by omega)|exact C4 (by omega)|exact AAZ (by omega)|exact C4 (by omega)|fail) ?_;try simp(disch:=try exact dV) only[AD,hd,ls_4])
 have kl:=IP (K:=K) (ws:=[[112,97,116,104],AN (FQ w),[114,97,110,107],AN (Bu w)]) (by simp) (by simp;omega);refine cB kl ?_;simp(disch:=try exact dV) only[AD,APH];refine cB AQ8 ?_;have e:GQ.length=9:=rfl;refine wW ?_;refine AR (λ_=>True) (λi=>[.s w,.u,.s (Gq w i),.u,.u,LS GQ,.n 9,.n i,.u]) 9 trivial rfl (λi hi _=>?_) (λ_=>?_);have b1:=UH hd i;have b:=Ar (n:=Bp w i) (by omega);have B:=UY (i:=i);have a:=OT hd i;refine wW ?_;refine cW (AT4 hd i hi) ?_;refine cB (C4 (by omega)) ?_;simp(disch:=try exact dV) only[AD,XK];have kl:=IP (K:=K) (ws:=[Gq w i,AH GQ i,AN (Bp w i)]) (by simp) (by simp;omega);refine cB kl ?_;simp(disch:=try exact dV) only[AD,Zc];rfl;exact wZ
theorem AY6[HA K]{w:List Nat}(h:w.length<=1048576):K 457 [.s w] [.s (if AK w=true then Gq w 9 else [])]:=by
 refine qw I457 ?_
 cases hd:AK w
 .repeat(refine cB (By (by omega)) ?_;try simp(disch:=try exact dV) only[AD,hd])
  rfl
 have j:=(A8 hd).l;have f:=J5 hd;have H:=Pf hd;have g:=Ar (n:=Bu w) (by omega);have a:=Ar (n:=FQ w) (by omega);have k:=Bk (K:=K) (n:=FQ w) (by omega);rw[H]at k a;repeat(refine cB (by first|exact By (by omega)|exact k|exact Xx (by omega)|exact Bk (by omega)|fail) ?_;try simp(disch:=try exact dV) only[AD,hd])
 refine cB ATI ?_;have e:GQ.length=9:=rfl;refine wW ?_;refine AR (λ_=>True) (λi=>[.s w,.u,.s (Gq w i),LS GQ,.n i,.u,.u]) 9 trivial (by simp[Gq,H]) (λi hi _=>?_) (λ_=>?_);have b1:=UH hd i;have b:=Ar (n:=Bp w i) (by omega);have B:=UY (i:=i);have c:=OT hd i;refine wW ?_;refine cW (AbR hd i hi) ?_;exact cZ (Bk (by omega));exact wZ
end Go.Cat
namespace Go.Cat
variable{K:Nat->List D->List D->Prop}
def pat(p:List Int)(i j k:Nat):Prop:=i<j/\j<k/\k<p.length/\AB p k<AB p i/\AB p i<AB p j
def first(p:List Int)(t:Nat×Nat×Nat):Prop:=pat p t.1 t.2.1 t.2.2/\∀i j k,pat p i j k->¬(i<t.1\/(i=t.1/\(j<t.2.1\/(j=t.2.1/\k<t.2.2))))
end Go.Cat
namespace Go.Cat
variable{K:Nat->List D->List D->Prop}
set_option maxRecDepth 100000
def anyL(x:Int)(l:List Int):Bool:=l.any λz=>decide (z<x)
def d231(x:Int):List Int->Bool
 |[]=>false
 |y::l=>(decide (x<y)&&anyL x l)||d231 x l
def AJE:List Int->Bool
 |[]=>false
 |x::l=>d231 x l||AJE l
end Go.Cat
namespace Go.Cat
variable{K:Nat->List D->List D->Prop}
end Go.Cat
namespace Go.Cat
variable{K:Nat->List D->List D->Prop}
set_option maxRecDepth 100000
def Hd:List Int->Int->List Nat×List Int×Int
 |[],n=>([],[],n)
 |y::st,n=>if y=n then(100::(Hd st (n+1)).1,(Hd st (n+1)).2)else([],y::st,n)
def M8:List Int->List Int->Int->List Nat
 |[],_,_=>[]
 |x::p,st,n=>117::((Hd (x::st) n).1++M8 p (Hd (x::st) n).2.1 (Hd (x::st) n).2.2)
def Qk(p:List Int):Bool:=AYT p&&!(AJE p)
def Rj(p:List Int):List Nat:=if Qk p=true then M8 p [] 0 else []
end Go.Cat
namespace Go.Cat
variable{K:Nat->List D->List D->Prop}
set_option maxRecDepth 100000
end Go.Cat
