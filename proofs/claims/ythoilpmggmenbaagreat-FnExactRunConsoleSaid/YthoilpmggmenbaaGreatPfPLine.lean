/-
 PathLine answers as the reference does.
-/
import Derived.Test.YthoilpmggmenbaaGreatPfPlane
import Derived.Test.YthoilpmggmenbaaGreatPfPart
set_option linter.unusedSimpArgs false
set_option linter.unusedVariables false
namespace Go.Cat
instance:HA (λ_ _ _=>True):=⟨λ_ _ _ _=>trivial⟩
variable{K:Nat->List D->List D->Prop}
open Classical in
noncomputable def E1(w:List Nat):List Int:=if h:∃m,PP w m then h.choose else []
theorem Qb{w:List Nat}{m:List Int}(h:PP w m):E1 w=m:=by have H:∃m,PP w m:=⟨m,h⟩;simp only[E1,dif_pos H];exact AU0 H.choose_spec h
theorem X1{w:List Nat}(hd:AK w=true):PP w (E1 w):=by have:Has (λ_ _ _=>True) 373 ABW.v:=⟨λ_ _ _=>trivial⟩;obtain⟨_,⟨m,_,h⟩,_⟩:=Q3 (K:=λ_ _ _=>True) hd;rw[Qb h];exact h
noncomputable def Dw(w:List Nat):List Int:=DB (DK w (λa=>(EB w (AB (E1 w) a).toNat:Int)) w.length) (CT w w.length)
theorem Oc{w:List Nat}(hd:AK w=true):(Dw w).length<=8:=by have h:=Ld hd;have H:=(Af hd).l;simp only[Dw,P5];omega
theorem Zu[HA K]{w:List Nat}(hd:AK w=true):K 301 [.s w] [LI (Dw w),.b true]:=AB9 (K:=K) hd (X1 hd)
theorem RT[HA K]{w:List Nat}(hd:AK w=true):K 503 [.s w] [LI (Dw w),.b true]/\K 301 [.s w] [LI (Dw w),.b true]:=by
 obtain⟨_,⟨m,H,rfl⟩,k⟩:=Ai7 (K:=K) hd;have J:=AB9 (K:=K) hd H;have G:=H.1;have e:=Qb H;refine⟨?_,by rw[Dw,e];exact J⟩;have i:DB (DK w (λa=>(Eg w (AB m a).toNat:Int)) w.length) (CT w w.length)=Dw w:=by
  have j:DK w (λa=>(Eg w (AB m a).toNat:Int)) w.length=(DK w (λa=>(EB w (AB m a).toNat:Int)) w.length).map (·+1):=by
   refine AO2 λa g I=>?_;obtain⟨b,F,q⟩:=H.2 a g;have h:b<w.length:=by rcases q with q|q<;>have:=q.1<;>have:=q.2.1<;>omega
   have C:=Af hd;have c:AH w b=100:=by rcases C.ud b h with f|f;exfalso;rcases q with q|q;have o:=GN h f;have x:=q.2.2.1;have B:=q.2.2.2 b q.1 (Nat.le_refl _);omega;have o:=GN g I;have x:=q.2.2.1;have B:=q.2.2.2 a q.1 (Nat.le_refl _);omega;exact f
   have l:=AJL hd h;rw[if_pos c]at l;simp only[F,BM];omega
  rw[j,ARC,Dw,e];rw[Q9 (Nat.le_refl _)];exact Nat.le_refl _
 rw[i]at k;exact k
theorem Nq{w:List Nat}(hd:AK w=true):(Cp w).length<=17:=by have h:=(Af hd).l;have:=Vo (w:=w) (out:=[-1]) (st:=[0]);simp only[Cp,AO,A6]at *;omega
def Gs:List (List Nat):=[[112,101,97,107,115],[114,101,116,117,114,110,115],[114,105,115,101],[97,114,101,97],[100,101,112,116,104],[108,101,97,118,101,115],[98,108,111,99,107,115],[109,97,106,111,114],[102,97,108,108]]
theorem RO{a b c d e f g h i:List Nat}:Dv [.s a,.s b,.s c,.s d,.s e,.s f,.s g,.s h,.s i]=some (LS [a,b,c,d,e,f,g,h,i]):=rfl
theorem Ae9[HA K]:K 499 [] [LS Gs]:=by refine qb I499 ?_;simp(disch:=try exact dV) only[AD,RO];rfl
theorem AUR[HA K]:K 498 [] [LS Gs]:=by refine qb I498 ?_;simp(disch:=try exact dV) only[AD,RO];rfl
noncomputable def CC(w:List Nat):Nat->Int
 |0=>DI 117 100 (λ_=>1) w (w.length-1)
 |1=>JD w w.length
 |2=>Dp 117 w
 |3=>GX w w.length
 |4=>G6 w (w.length+1)
 |5=>HN (Cp w) (Cp w).length
 |6=>(if CW (Dw w)=true then Ar (Dw w) (Dw w).length else []).length
 |7=>DI 100 117 (λj=>j+1) w (w.length-1)
 |8=>Dp 100 w.reverse
 |_=>-1
theorem Ak{a b:Nat}{x y:List Nat}(h:a≠b):((a::x)==(b::y))=false:=by rw[List.cons_beq_cons,beq_eq_false_iff_ne.2 h]<;>rfl
theorem Ai{a:Nat}{x y:List Nat}:((a::x)==(a::y))=(x==y):=by rw[List.cons_beq_cons,beq_self_eq_true,Bool.true_and]
theorem Al:(([]:List Nat)==[])=true:=rfl
theorem AXC[HA K]{w:List Nat}(hd:AK w=true):K 500 [.s [112,101,97,107,115],.s w] [.n (CC w 0)]:=by
 have h:=(Af hd).l;refine qw JE ?_;repeat(refine cB (by first|exact Bv (by omega)|exact AWG hd|fail) ?_;try simp(disch:=try exact dV) only[AD,hd,Ak,Ai,Al])
 rfl
theorem AdE[HA K]{w:List Nat}(hd:AK w=true):K 500 [.s [114,101,116,117,114,110,115],.s w] [.n (CC w 1)]:=by
 have h:=(Af hd).l;refine qw JE ?_;repeat(refine cB (by first|exact Bv (by omega)|exact AWH hd|fail) ?_;try simp(disch:=try exact dV) only[AD,hd,Ak,Ai,Al])
 rfl
theorem AWZ[HA K]{w:List Nat}(hd:AK w=true):K 500 [.s [114,105,115,101],.s w] [.n (CC w 2)]:=by
 have b:=(Af hd).l;refine qw JE ?_;repeat(refine cB (Bv (by omega)) ?_;try simp(disch:=try exact dV) only[AD,hd,Ak,Ai,Al])
 refine Bj (λ(x:Nat)=>x<=Dp 117 w) (λx=>[.u,.s w,.u,.n x,.u,.u,.u,.u,.u,.u,.u,.u,.u,.u,.u,.u,.u,.u,.u,.u,.u]) (λx=>Dp 117 w-x) 0 (by omega) rfl ?_;intro x f;have e:=Lk (c:=117) w;by_cases h:x<w.length;have a:=Pz (c:=117) h;by_cases H:x<Dp 117 w;simp(disch:=try exact dV) only[AD,a.1 H];exact⟨x+1,by omega,by omega,by simp⟩;have:=a.2 (by omega);refine wW ?_;exact Dn (by simp only[CC];omega);refine wW ?_;exact Dn (by simp only[CC];omega)
theorem AZY[HA K]{w:List Nat}(hd:AK w=true):K 500 [.s [97,114,101,97],.s w] [.n (CC w 3)]:=by
 have h:=(Af hd).l;refine qw JE ?_;repeat(refine cB (by first|exact Bv (by omega)|exact ATP hd|fail) ?_;try simp(disch:=try exact dV) only[AD,hd,Ak,Ai,Al])
 rfl
theorem AiI[HA K]{w:List Nat}(hd:AK w=true):K 500 [.s [100,101,112,116,104],.s w] [.n (CC w 4)]:=by
 have h:=(Af hd).l;refine qw JE ?_;repeat(refine cB (by first|exact Bv (by omega)|exact AKJ hd|exact dp_i hd|fail) ?_;try simp(disch:=try exact dV) only[AD,hd,Ak,Ai,Al])
 rfl
theorem Ag6[HA K]{w:List Nat}(hd:AK w=true):K 500 [.s [108,101,97,118,101,115],.s w] [.n (CC w 5)]:=by
 have H:=(Af hd).l;refine qw JE ?_;have h:=Nq hd;repeat(refine cB (by first|exact Bv (by omega)|exact ABX hd|exact AgI (by omega)|fail) ?_;try simp(disch:=try exact dV) only[AD,hd,Ak,Ai,Al])
 rfl
theorem AUX[HA K]{w:List Nat}(hd:AK w=true):K 500 [.s [98,108,111,99,107,115],.s w] [.n (CC w 6)]:=by
 have H:=(Af hd).l;refine qw JE ?_;have h:=Oc hd;repeat(refine cB (by first|exact Bv (by omega)|exact(RT (K:=K) hd).1|exact AC2 (by omega)|fail) ?_;try simp(disch:=try exact dV) only[AD,hd,Ak,Ai,Al])
 rfl
theorem Ai1[HA K]{w:List Nat}(hd:AK w=true):K 500 [.s [109,97,106,111,114],.s w] [.n (CC w 7)]:=by
 have h:=(Af hd).l;refine qw JE ?_;repeat(refine cB (by first|exact Bv (by omega)|exact AfF hd|fail) ?_;try simp(disch:=try exact dV) only[AD,hd,Ak,Ai,Al])
 rfl
theorem AhN[HA K]{w:List Nat}(hd:AK w=true):K 500 [.s [102,97,108,108],.s w] [.n (CC w 8)]:=by
 have e:=(Af hd).l;refine qw JE ?_;repeat(refine cB (Bv (by omega)) ?_;try simp(disch:=try exact dV) only[AD,hd,Ak,Ai,Al])
 refine Bj (λ(x:Nat)=>x<=Dp 100 w.reverse) (λx=>[.u,.s w,.u,.u,.u,.u,.u,.n x,.u,.u,.u,.u,.u,.u,.u,.u,.u,.u,.u,.u,.u]) (λx=>Dp 100 w.reverse-x) 0 (by omega) rfl ?_;intro x f;have b:=Lk (c:=100) w.reverse;rw[List.length_reverse]at b;by_cases h:x<w.length;have a:=Pz (c:=100) (l:=w.reverse) (i:=x) (by simpa using h);rw[AON h]at a;by_cases H:x<Dp 100 w.reverse;simp(disch:=try exact dV) only[AD,a.1 H];exact⟨x+1,by omega,by omega,by simp⟩;have:=a.2 (by omega);refine wW ?_;exact Dn (by simp only[CC];omega);refine wW ?_;exact Dn (by simp only[CC];omega)
theorem AaW[HA K]{w:List Nat}(hd:AK w=true):K 235 [.s [112,101,97,107,115],.s w] [.n (CC w 0)]:=by
 have h:=(Af hd).l;refine qw JN ?_;repeat(refine cB (by first|exact Br (by omega)|exact AY2 hd|fail) ?_;try simp(disch:=try exact dV) only[AD,hd,Ak,Ai,Al])
 rfl
theorem AaE[HA K]{w:List Nat}(hd:AK w=true):K 235 [.s [114,101,116,117,114,110,115],.s w] [.n (CC w 1)]:=by
 have h:=(Af hd).l;refine qw JN ?_;repeat(refine cB (by first|exact Br (by omega)|exact AaT hd|fail) ?_;try simp(disch:=try exact dV) only[AD,hd,Ak,Ai,Al])
 rfl
theorem AS6[HA K]{w:List Nat}(hd:AK w=true):K 235 [.s [114,105,115,101],.s w] [.n (CC w 2)]:=by
 have h:=(Af hd).l;refine qw JN ?_;repeat(refine cB (by first|exact Br (by omega)|exact AgL (by omega)|fail) ?_;try simp(disch:=try exact dV) only[AD,hd,Ak,Ai,Al])
 rfl
theorem AiD[HA K]{w:List Nat}(hd:AK w=true):K 235 [.s [97,114,101,97],.s w] [.n (CC w 3)]:=by
 have h:=(Af hd).l;refine qw JN ?_;repeat(refine cB (by first|exact Br (by omega)|exact AU7 hd|fail) ?_;try simp(disch:=try exact dV) only[AD,hd,Ak,Ai,Al])
 rfl
theorem Ad0[HA K]{w:List Nat}(hd:AK w=true):K 235 [.s [100,101,112,116,104],.s w] [.n (CC w 4)]:=by
 have h:=(Af hd).l;refine qw JN ?_;repeat(refine cB (by first|exact Br (by omega)|exact AP7 hd|exact dp_s hd|fail) ?_;try simp(disch:=try exact dV) only[AD,hd,Ak,Ai,Al])
 rfl
theorem AcT[HA K]{w:List Nat}(hd:AK w=true):K 235 [.s [108,101,97,118,101,115],.s w] [.n (CC w 5)]:=by
 have H:=(Af hd).l;refine qw JN ?_;have h:=Nq hd;repeat(refine cB (by first|exact Br (by omega)|exact AOE hd|exact AXG (by omega)|fail) ?_;try simp(disch:=try exact dV) only[AD,hd,Ak,Ai,Al])
 rfl
theorem AjE[HA K]{w:List Nat}(hd:AK w=true):K 235 [.s [98,108,111,99,107,115],.s w] [.n (CC w 6)]:=by
 have H:=(Af hd).l;refine qw JN ?_;have h:=Oc hd;repeat(refine cB (by first|exact Br (by omega)|exact Zu hd|exact UH (by omega)|fail) ?_;try simp(disch:=try exact dV) only[AD,hd,Ak,Ai,Al])
 rfl
theorem AhF[HA K]{w:List Nat}(hd:AK w=true):K 235 [.s [109,97,106,111,114],.s w] [.n (CC w 7)]:=by
 have h:=(Af hd).l;refine qw JN ?_;repeat(refine cB (by first|exact Br (by omega)|exact AjD hd|fail) ?_;try simp(disch:=try exact dV) only[AD,hd,Ak,Ai,Al])
 rfl
theorem AUS[HA K]{w:List Nat}(hd:AK w=true):K 235 [.s [102,97,108,108],.s w] [.n (CC w 8)]:=by
 have h:=(Af hd).l;refine qw JN ?_;repeat(refine cB (by first|exact Br (by omega)|exact AT0 (by omega)|fail) ?_;try simp(disch:=try exact dV) only[AD,hd,Ak,Ai,Al])
 rfl
theorem AjZ[HA K]{w:List Nat}(hd:AK w=true):∀i:Nat,i<9->K 500 [.s (AG Gs i),.s w] [.n (CC w i)]
 |0,_=>AXC hd
 |1,_=>AdE hd
 |2,_=>AWZ hd
 |3,_=>AZY hd
 |4,_=>AiI hd
 |5,_=>Ag6 hd
 |6,_=>AUX hd
 |7,_=>Ai1 hd
 |8,_=>AhN hd
 |i+9,h=>absurd h (by omega)
theorem AiH[HA K]{w:List Nat}(hd:AK w=true):∀i:Nat,i<9->K 235 [.s (AG Gs i),.s w] [.n (CC w i)]
 |0,_=>AaW hd
 |1,_=>AaE hd
 |2,_=>AS6 hd
 |3,_=>AiD hd
 |4,_=>Ad0 hd
 |5,_=>AcT hd
 |6,_=>AjE hd
 |7,_=>AhF hd
 |8,_=>AUS hd
 |i+9,h=>absurd h (by omega)
theorem Xk{w:List Nat}(hd:AK w=true):∀i:Nat,-1000<=CC w i/\CC w i<=1000
 |0=>by have H:=(Af hd).l;have:=Ln (a:=117) (b:=100) (g:=λ_=>1) (w:=w) (λ_ _=>by omega) (i:=w.length-1) (by omega);simp only[CC];omega
 |1=>by have H:=(Af hd).l;have:=AGI (w:=w) (i:=w.length);simp only[CC];omega
 |2=>by have H:=(Af hd).l;have:=Lk (c:=117) w;simp only[CC];omega
 |3=>by have H:=(Af hd).l;have:=Rr H (i:=w.length) (by omega);simp only[CC];omega
 |4=>by have H:=(Af hd).l;have:=AA3 (w:=w) (w.length+1);simp only[CC];omega
 |5=>by have H:=Nq hd;have:=Uq (p:=Cp w) (i:=(Cp w).length);simp only[CC];omega
 |6=>by have H:=Oc hd;simp only[CC];split;rename_i h;simp only[CW,AV,Aa]at h;have e:=LC (p:=Dw w) h.2;have f:=JG h.2;omega;simp
 |7=>by have H:=(Af hd).l;have:=Ln (a:=100) (b:=117) (g:=λj=>j+1) (w:=w) (λ_ _=>by omega) (i:=w.length-1) (by omega);simp only[CC];omega
 |8=>by have H:=(Af hd).l;have:=Lk (c:=100) w.reverse;rw[List.length_reverse]at this;simp only[CC];omega
 |i+9=>by simp only[CC];omega
theorem Hk[HA K]{ws:List (List Nat)}(l:ws.length<=100000)(h:∀x∈ws,x.length<=100000):K 141 [LS ws] [.s (glue [32] ws)]:=by refine qw I141 ?_;exact cZ (J1 l h (by simp))
theorem Uo{s a b c:List Nat}:glue s [a,b,c]=a++s++b++s++c:=by simp[glue,BE,AG]
theorem Ae5{s a b c d:List Nat}:glue s [a,b,c,d]=a++s++b++s++c++s++d:=by simp[glue,BE,AG]
theorem ls_4{a b c d:List Nat}:Dv [.s a,.s b,.s c,.s d]=some (LS [a,b,c,d]):=rfl
theorem Vb{a b c:List Nat}:Dv [.s a,.s b,.s c]=some (LS [a,b,c]):=rfl
noncomputable def G9(w:List Nat):Nat->List Nat
 |0=>[112,97,116,104]++[32]++AQ (GI w)++[32]++[114,97,110,107]++[32]++AQ (CI w)
 |i+1=>G9 w i++[32]++AG Gs i++[32]++AQ (CC w i)
theorem U9{i:Nat}:(AG Gs i).length<=10:=KB (b:=10) (ws:=Gs) (by decide)
theorem Ls{w:List Nat}(hd:AK w=true):-1<=CI w/\CI w<=1430:=by simp only[CI,hd,if_true];obtain⟨g,l⟩:=Nt hd;have h:=(Sy w _ _ g).1;have H:=MK (u:=w.length/2) (d:=w.length/2) (by omega) (by omega);omega
theorem VI{w:List Nat}(hd:AK w=true):GI w=(w.length:Int)/2:=by simp[GI,hd]
theorem SK{w:List Nat}(hd:AK w=true):∀i:Nat,(G9 w i).length<=60+i*40
 |0=>by have e:=(Af hd).l;have H:=Ls hd;have c:=VI hd;have a:=Ax (n:=CI w) (by omega);have b:=Ax (n:=GI w) (by omega);simp only[G9,A4,AO,A6];omega
 |i+1=>by have h:=SK hd i;have H:=Xk hd i;have a:=Ax (n:=CC w i) (by omega);have b:=U9 (i:=i);simp only[G9,A4,AO,A6];omega
theorem AXZ[HA K]{w:List Nat}(h:w.length<=1048576):K 458 [.s w] [.s (if AK w=true then G9 w 9 else [])]:=by
 refine qw I458 ?_
 cases hd:AK w
 .repeat(refine cB (Bv (by omega)) ?_;try simp(disch:=try exact dV) only[AD,hd])
  rfl
 have j:=(Af hd).l;have H:=Ls hd;have c:=VI hd;have f:=Ax (n:=CI w) (by omega);have g:=Ax (n:=GI w) (by omega);repeat(refine cB (by first|exact Bv (by omega)|exact AX7 (by omega)|exact C4 (by omega)|exact ACG (by omega)|exact C4 (by omega)|fail) ?_;try simp(disch:=try exact dV) only[AD,hd,ls_4])
 have kl:=Hk (K:=K) (ws:=[[112,97,116,104],AQ (GI w),[114,97,110,107],AQ (CI w)]) (by simp) (by simp;omega);refine cB kl ?_;simp(disch:=try exact dV) only[AD,Ae5];refine cB Ae9 ?_;have e:Gs.length=9:=rfl;refine wW ?_;refine AN (λ_=>True) (λi=>[.s w,.u,.s (G9 w i),.u,.u,LS Gs,.n 9,.n i,.u]) 9 trivial rfl (λi hi _=>?_) (λ_=>?_);have b1:=Xk hd i;have b:=Ax (n:=CC w i) (by omega);have B:=U9 (i:=i);have a:=SK hd i;refine wW ?_;refine cW (AjZ hd i hi) ?_;refine cB (C4 (by omega)) ?_;simp(disch:=try exact dV) only[AD,Vb];have kl:=Hk (K:=K) (ws:=[G9 w i,AG Gs i,AQ (CC w i)]) (by simp) (by simp;omega);refine cB kl ?_;simp(disch:=try exact dV) only[AD,Uo];rfl;exact wZ
theorem AW0[HA K]{w:List Nat}(h:w.length<=1048576):K 457 [.s w] [.s (if AK w=true then G9 w 9 else [])]:=by
 refine qw I457 ?_
 cases hd:AK w
 .repeat(refine cB (Br (by omega)) ?_;try simp(disch:=try exact dV) only[AD,hd])
  rfl
 have j:=(Af hd).l;have f:=Ls hd;have H:=VI hd;have g:=Ax (n:=CI w) (by omega);have a:=Ax (n:=GI w) (by omega);have k:=By (K:=K) (n:=GI w) (by omega);rw[H]at k a;repeat(refine cB (by first|exact Br (by omega)|exact k|exact AQ3 (by omega)|exact By (by omega)|fail) ?_;try simp(disch:=try exact dV) only[AD,hd])
 refine cB AUR ?_;have e:Gs.length=9:=rfl;refine wW ?_;refine AN (λ_=>True) (λi=>[.s w,.u,.s (G9 w i),LS Gs,.n i,.u,.u]) 9 trivial (by simp[G9,H]) (λi hi _=>?_) (λ_=>?_);have b1:=Xk hd i;have b:=Ax (n:=CC w i) (by omega);have B:=U9 (i:=i);have c:=SK hd i;refine wW ?_;refine cW (AiH hd i hi) ?_;exact cZ (By (by omega));exact wZ
end Go.Cat
