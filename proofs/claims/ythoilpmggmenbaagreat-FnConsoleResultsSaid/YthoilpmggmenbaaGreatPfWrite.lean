/-
 Objects of paths as texts: WriteAs of both sides.
-/
import Derived.Test.YthoilpmggmenbaaGreatPfWr1
import Derived.Test.YthoilpmggmenbaaGreatPfSrt
set_option linter.unusedSimpArgs false
set_option linter.unusedVariables false
namespace Go.Cat
variable{K:Nat->List D->List D->Prop}
def BK:List (List Nat):=[[112,97,116,104],[98,114,97,99,107,101,116,115],[112,108,97,110,101],[98,105,110,97,114,121],[100,105,97,103,111,110,97,108,115],[112,97,114,116,105,116,105,111,110],[109,97,116,99,104,105,110,103],[112,101,114,109,117,116,97,116,105,111,110],[114,97,110,107]]
theorem YC[HA K]:K 14 [] [LS BK]:=by refine qb I14 ?_;simp(disch:=omega) only[AD,PV];rfl
theorem AZ9[HA K]:K 13 [] [LS BK]:=by refine qb I13 ?_;simp(disch:=omega) only[AD,PV];rfl
theorem Ww[HA K]{w:List Nat}(hd:AK w=true):K 535 [.s w] [.s (Ft w).t,.b true]:=by obtain⟨x,rfl,h⟩:=Hq hd;have l:=BT.pl x;rw[GO];refine qw I535 ?_;repeat(refine cB (by first|exact Bf (by omega)|exact Nf h|exact I9 (by omega)|fail) ?_;try simp(disch:=omega) only[AD,hd])
theorem Qa[HA K]{w:List Nat}(hd:AK w=true):K 530 [.s w] [.s (Ft w).t,.b true]:=by obtain⟨x,rfl,h⟩:=Hq hd;have l:=BT.pl x;rw[GO];refine qw I530 ?_;repeat(refine cB (by first|exact By (by omega)|exact Mf h|fail) ?_;try simp(disch:=omega) only[AD,hd])
noncomputable def A9(w:List Nat):Nat->List Nat
 |0=>w
 |1=>Cj w
 |2=>Hb (Ca w)
 |3=>(Ft w).t
 |4=>AN ((w.length:Int)/2+2)++[58,32]++C0 (BG (Ft w))
 |5=>IH (De w)
 |6=>F4 (Ds w)
 |7=>DS (CT w) (CT w).length
 |8=>AN ((w.length:Int)/2)++[58]++AN (Bu w)
 |_=>[]
theorem AI9{x:BT}(h:x.n<=8):(BG x).length<=7:=by have:=NU (x:=x) (l:=0) (r:=(x.n:Int)+1);rw[ADQ];omega
theorem Vz{d:List (List Int)}:(C0 d).length<=1000:=by
 unfold C0;split;simp;split;simp;split;rename_i _ H a;have b:∀x∈Cf d,x.length<=40:=by intro x c;obtain⟨r,h,rfl⟩:=List.mem_map.1 c;obtain⟨f,q,Q⟩:=Ns (Aj.1 a r h);have b1:=Af.1 q;have b2:=Af.1 Q;have l:=Ar (n:=AB r 0) (by omega);have L:=Ar (n:=AB r 1) (by omega);simp only[AZ];omega
 have e:=Gu (sep:=[32]) b (Cf d).length;have:=Pt (d:=d);simp only[glue,AO,Aa]at*;omega;simp
theorem AV9[HA K]{w:List Nat}(hd:AK w=true):PP w (Ds w)/\K 373 [.s w] [LI (Ds w)]:=by obtain⟨_,⟨m,rfl,h⟩,k⟩:=Qz (K:=K) hd;rw[PT h];exact⟨h,k⟩
theorem UT[HA K]{w:List Nat}(hd:AK w=true):K 373 [.s w] [LI (Ds w)]/\K 356 [.s w] [LI (Ds w),.b true]:=by obtain⟨h,k⟩:=AV9 (K:=K) hd;exact⟨k,TD hd h⟩
theorem UC{w:List Nat}(hd:AK w=true):(Ds w).length<=16:=by have H:=(A8 hd).l;unfold Ds;split;rename_i h;have:=h.choose_spec.1;omega;simp
theorem ATF[HA K]{w:List Nat}(hd:AK w=true):K 524 [.s [112,97,116,104],.s w] [.s (A9 w 0),.b true]:=by
 have h:=(A8 hd).l;refine qw Ge ?_;repeat(refine cB (Bf (by omega)) ?_;try simp(disch:=omega) only[AD,hd,BA,Ax,Ay])
 all_goals rfl
theorem Ab0[HA K]{w:List Nat}(hd:AK w=true):K 524 [.s [98,114,97,99,107,101,116,115],.s w] [.s (A9 w 1),.b true]:=by
 have h:=(A8 hd).l;refine qw Ge ?_;repeat(refine cB (by first|exact Bf (by omega)|exact AHP hd|fail) ?_;try simp(disch:=omega) only[AD,hd,BA,Ax,Ay])
 all_goals rfl
theorem AbF[HA K]{w:List Nat}(hd:AK w=true):K 524 [.s [112,108,97,110,101],.s w] [.s (A9 w 2),.b true]:=by
 have H:=(A8 hd).l;have h:=LQ hd;refine qw Ge ?_;repeat(refine cB (by first|exact Bf (by omega)|exact Y9 hd|exact AOD (by omega)|fail) ?_;try simp(disch:=omega) only[AD,hd,BA,Ax,Ay])
 all_goals rfl
theorem AcS[HA K]{w:List Nat}(hd:AK w=true):K 524 [.s [98,105,110,97,114,121],.s w] [.s (A9 w 3),.b true]:=by
 have h:=(A8 hd).l;refine qw Ge ?_;repeat(refine cB (by first|exact Bf (by omega)|exact Ww hd|fail) ?_;try simp(disch:=omega) only[AD,hd,BA,Ax,Ay])
 all_goals rfl
theorem AdK[HA K]{w:List Nat}(hd:AK w=true):K 524 [.s [100,105,97,103,111,110,97,108,115],.s w] [.s (A9 w 4),.b true]:=by
 have g:=(A8 hd).l;obtain⟨x,rfl,h⟩:=Hq hd;have c:=BT.pl x;have a:=AI9 h;have H:=Vz (d:=BG x);have f:=Ar (n:=(x.p.length:Int)/2+2) (by omega);have k:=Rh (K:=K) (d:=BG x) (by omega) (λr e=>by have:=L9 r (UA.1 e);simp only[C7]at this;omega);refine qw Ge ?_;repeat(refine cB (by first|exact Bf (by omega)|exact Nf h|exact I9 (by omega)|exact Ql h|exact C4 (by omega)|exact k|fail) ?_;try simp(disch:=try exact dV) only[AD,hd,BA,Ax,Ay])
 simp only[A9,GO]
theorem AT5[HA K]{w:List Nat}(hd:AK w=true):K 524 [.s [112,97,114,116,105,116,105,111,110],.s w] [.s (A9 w 5),.b true]:=by
 have H:=(A8 hd).l;have h:=Mo hd;refine qw Ge ?_;repeat(refine cB (by first|exact Bf (by omega)|exact(PC (K:=K) hd).1|exact TZ (by omega)|fail) ?_;try simp(disch:=omega) only[AD,hd,BA,Ax,Ay])
 all_goals rfl
theorem ATR[HA K]{w:List Nat}(hd:AK w=true):K 524 [.s [109,97,116,99,104,105,110,103],.s w] [.s (A9 w 6),.b true]:=by
 have H:=(A8 hd).l;have h:=UC hd;refine qw Ge ?_;repeat(refine cB (by first|exact Bf (by omega)|exact(UT (K:=K) hd).1|exact TM (by omega)|fail) ?_;try simp(disch:=omega) only[AD,hd,BA,Ax,Ay])
 all_goals rfl
theorem AOT[HA K]{w:List Nat}(hd:AK w=true):K 524 [.s [112,101,114,109,117,116,97,116,105,111,110],.s w] [.s (A9 w 7),.b true]:=by
 have H:=(A8 hd).l;have a:=RP (w:=w);have h:=Vb H;refine qw Ge ?_;repeat(refine cB (by first|exact Bf (by omega)|exact AdB hd|fail) ?_;try simp(disch:=omega) only[AD,hd,BA,Ax,Ay])
 refine AR (λ_=>True) (λi=>[.u,.u,.u,.u,.u,.u,.u,.u,.s (DS (CT w) i),.u,.u,.u,.u,.u,.u,.u,.u,.u,.u,.u,LI (CT w),.n (CT w).length,.n i,.u,.u]) (CT w).length trivial rfl (λi hi _=>?_) (λ_=>?_);have c:=h i;have e:=JC (r:=CT w) (λj _=>by have:=h j;omega) i (by omega);have f:=Ar (n:=AB (CT w) i+1) (by omega);refine wW ?_;exact cZ (C4 (by omega));exact wZ
theorem Aa5[HA K]{w:List Nat}(hd:AK w=true):K 524 [.s [114,97,110,107],.s w] [.s (A9 w 8),.b true]:=by
 have c:=(A8 hd).l;have h:=J5 hd;have H:=Ar (n:=Bu w) (by omega);have a:=Ar (n:=(w.length:Int)/2) (by omega);refine qw Ge ?_;repeat(refine cB (by first|exact Bf (by omega)|exact C4 (by omega)|exact AAZ (by omega)|exact C4 (by omega)|fail) ?_;try simp(disch:=try exact dV) only[AD,hd,BA,Ax,Ay])
 all_goals rfl
theorem ASJ[HA K]{w:List Nat}(hd:AK w=true):K 523 [.s [112,97,116,104],.s w] [.s (A9 w 0),.b true]:=by
 have h:=(A8 hd).l;refine qw Hw ?_;repeat(refine cB (By (by omega)) ?_;try simp(disch:=omega) only[AD,hd,BA,Ax,Ay])
 all_goals rfl
theorem AVJ[HA K]{w:List Nat}(hd:AK w=true):K 523 [.s [98,114,97,99,107,101,116,115],.s w] [.s (A9 w 1),.b true]:=by
 have h:=(A8 hd).l;refine qw Hw ?_;repeat(refine cB (by first|exact By (by omega)|exact AK6 hd|fail) ?_;try simp(disch:=omega) only[AD,hd,BA,Ax,Ay])
 all_goals rfl
theorem AbX[HA K]{w:List Nat}(hd:AK w=true):K 523 [.s [112,108,97,110,101],.s w] [.s (A9 w 2),.b true]:=by
 have H:=(A8 hd).l;have h:=LQ hd;refine qw Hw ?_;repeat(refine cB (by first|exact By (by omega)|exact Zs hd|exact AcG (by omega)|fail) ?_;try simp(disch:=omega) only[AD,hd,BA,Ax,Ay])
 all_goals rfl
theorem AZK[HA K]{w:List Nat}(hd:AK w=true):K 523 [.s [98,105,110,97,114,121],.s w] [.s (A9 w 3),.b true]:=by
 have h:=(A8 hd).l;refine qw Hw ?_;repeat(refine cB (by first|exact By (by omega)|exact Qa hd|fail) ?_;try simp(disch:=omega) only[AD,hd,BA,Ax,Ay])
 all_goals rfl
theorem AUT[HA K]{w:List Nat}(hd:AK w=true):K 523 [.s [100,105,97,103,111,110,97,108,115],.s w] [.s (A9 w 4),.b true]:=by
 have g:=(A8 hd).l;obtain⟨x,rfl,h⟩:=Hq hd;have c:=BT.pl x;have a:=AI9 h;have H:=Vz (d:=BG x);have f:=Ar (n:=(x.p.length:Int)/2+2) (by omega);have k:=ADJ (K:=K) (d:=BG x) (by omega) (λr e=>by have:=L9 r (UA.1 e);simp only[C7]at this;omega);refine qw Hw ?_;repeat(refine cB (by first|exact By (by omega)|exact Mf h|exact QF h|exact Bk (by omega)|exact k|fail) ?_;try simp(disch:=try exact dV) only[AD,hd,BA,Ax,Ay])
 simp only[A9,GO]
theorem AS4[HA K]{w:List Nat}(hd:AK w=true):K 523 [.s [112,97,114,116,105,116,105,111,110],.s w] [.s (A9 w 5),.b true]:=by
 have H:=(A8 hd).l;have h:=Mo hd;refine qw Hw ?_;repeat(refine cB (by first|exact By (by omega)|exact AFX hd|exact AUY (by omega)|fail) ?_;try simp(disch:=omega) only[AD,hd,BA,Ax,Ay])
 all_goals rfl
theorem AY0[HA K]{w:List Nat}(hd:AK w=true):K 523 [.s [109,97,116,99,104,105,110,103],.s w] [.s (A9 w 6),.b true]:=by
 have H:=(A8 hd).l;have h:=UC hd;refine qw Hw ?_;repeat(refine cB (by first|exact By (by omega)|exact TD hd (VM hd)|exact AUQ (by omega)|fail) ?_;try simp(disch:=omega) only[AD,hd,BA,Ax,Ay])
 all_goals rfl
theorem AWK[HA K]{w:List Nat}(hd:AK w=true):K 523 [.s [112,101,114,109,117,116,97,116,105,111,110],.s w] [.s (A9 w 7),.b true]:=by
 have H:=(A8 hd).l;have a:=RP (w:=w);have h:=Vb H;refine qw Hw ?_;repeat(refine cB (by first|exact By (by omega)|exact AcL hd|fail) ?_;try simp(disch:=omega) only[AD,hd,BA,Ax,Ay])
 refine AR (λ_=>True) (λi=>[.u,.u,.u,.u,.u,.u,.u,.u,.u,.u,LI (CT w),.s (DS (CT w) i),.n i,.u,.u,.u,.u,.u,.u,.u,.u,.u,.u,.u,.u]) (CT w).length trivial rfl (λi hi _=>?_) (λ_=>?_);have c:=h i;have e:=JC (r:=CT w) (λj _=>by have:=h j;omega) i (by omega);have f:=Ar (n:=AB (CT w) i+1) (by omega);refine wW ?_;exact cZ (Bk (by omega));exact wZ
theorem AU2[HA K]{w:List Nat}(hd:AK w=true):K 523 [.s [114,97,110,107],.s w] [.s (A9 w 8),.b true]:=by
 have c:=(A8 hd).l;have h:=J5 hd;have H:=Ar (n:=Bu w) (by omega);have a:=Ar (n:=(w.length:Int)/2) (by omega);refine qw Hw ?_;repeat(refine cB (by first|exact By (by omega)|exact Bk (by omega)|exact Xx (by omega)|exact Bk (by omega)|fail) ?_;try simp(disch:=try exact dV) only[AD,hd,BA,Ax,Ay])
 all_goals rfl
def BP(k:List Nat):Nat:=BK.findIdx (·==k)
theorem U0{k:List Nat}(h:BP k<9):k=AH BK (BP k):=by
 have a:BK.findIdx (·==k)<BK.length:=h;have:=List.findIdx_getElem (w:=a);have H:BK[BK.findIdx (·==k)]=k:=by simpa using this
 rw[<-H];simp only[BP,AH,BM,Ap];rw[H,GB a,H]<;>rfl
theorem TB{k:List Nat}(h:¬BP k<9){x:List Nat}(H:x∈BK):(k==x)=false:=by cases hc:(k==x);rfl;exfalso;apply h;exact List.findIdx_lt_length_of_exists ⟨x,H,by simp at hc;simp[hc]⟩
noncomputable def EZ(k w:List Nat):Bool:=AK w&&decide (BP k<9)
noncomputable def ET(k w:List Nat):List Nat:=if EZ k w=true then A9 w (BP k)else []
theorem AAT[HA K]{w:List Nat}(hd:AK w=true):∀i:Nat,i<9->K 524 [.s (AH BK i),.s w] [.s (A9 w i),.b true]
 |0,_=>ATF hd
 |1,_=>Ab0 hd
 |2,_=>AbF hd
 |3,_=>AcS hd
 |4,_=>AdK hd
 |5,_=>AT5 hd
 |6,_=>ATR hd
 |7,_=>AOT hd
 |8,_=>Aa5 hd
 |i+9,h=>absurd h (by omega)
theorem V3[HA K]{k w:List Nat}(h:w.length<=1000000000):K 524 [.s k,.s w] [.s (ET k w),.b (EZ k w)]:=by
 cases hd:AK w
 .have e:EZ k w=false:=by simp[EZ,hd]
  have a:ET k w=[]:=by simp[ET,e]
  rw[e,a];refine qw Ge ?_;repeat(refine cB (Bf h) ?_;try simp(disch:=omega) only[AD,hd])
 by_cases H:BP k<9;have e:EZ k w=true:=by simp[EZ,hd,H]
 have a:ET k w=A9 w (BP k):=by simp[ET,e]
 have:=AAT (K:=K) hd (BP k) H;rw[<-U0 H]at this;rw[e,a];exact this;have e:EZ k w=false:=by simp[EZ,hd,H]
 have a:ET k w=[]:=by simp[ET,e]
 have o:=λ(x:List Nat)(c:x∈BK)=>TB H c;have q:=o [112,97,116,104] (by simp[BK]);have Q:=o [98,114,97,99,107,101,116,115] (by simp[BK]);have f:=o [112,108,97,110,101] (by simp[BK]);have g:=o [98,105,110,97,114,121] (by simp[BK]);have i:=o [100,105,97,103,111,110,97,108,115] (by simp[BK]);have j:=o [112,97,114,116,105,116,105,111,110] (by simp[BK]);have l:=o [109,97,116,99,104,105,110,103] (by simp[BK]);have B:=o [112,101,114,109,117,116,97,116,105,111,110] (by simp[BK]);have C:=o [114,97,110,107] (by simp[BK]);rw[e,a];refine qw Ge ?_;repeat(refine cB (Bf h) ?_;try simp(disch:=omega) only[AD,hd,q,Q,f,g,i,j,l,B,C])
theorem ARC[HA K]{w:List Nat}(hd:AK w=true):∀i:Nat,i<9->K 523 [.s (AH BK i),.s w] [.s (A9 w i),.b true]
 |0,_=>ASJ hd
 |1,_=>AVJ hd
 |2,_=>AbX hd
 |3,_=>AZK hd
 |4,_=>AUT hd
 |5,_=>AS4 hd
 |6,_=>AY0 hd
 |7,_=>AWK hd
 |8,_=>AU2 hd
 |i+9,h=>absurd h (by omega)
end Go.Cat
namespace Go.Cat
variable{K:Nat->List D->List D->Prop}
noncomputable def Gx(w:List Nat):Nat->List Nat
 |0=>[107,105,110,100,115]
 |i+1=>Gx w i++[32]++AH BK i++[32]++([91]++A9 w i++[93])
theorem UO{w:List Nat}(hd:AK w=true):∀i:Nat,(A9 w i).length<=5000
 |0=>by have H:=(A8 hd).l;simp only[A9];omega
 |1=>by have H:=(A8 hd).l;have:=M6 (w:=w);simp only[A9];omega
 |2=>by have H:=LQ hd;simp only[A9,Hb];split;rename_i h;obtain⟨a,b⟩:=OX h;have:=LW (sep:=[44]) (WW b);have c:=U3 (p:=Ca w);have e:(E7 (Ca w)).length*(20+[44].length)<=9*21:=Nat.mul_le_mul (by omega) (by simp);omega;simp
 |3=>by obtain⟨x,rfl,f⟩:=Hq hd;have:=BT.tl x;simp only[A9,GO];omega
 |4=>by have H:=(A8 hd).l;have a:=Vz (d:=BG (Ft w));have b:=Ar (n:=(w.length:Int)/2+2) (by omega);simp only[A9,AZ,AO,Aa];omega
 |5=>by have a:=LW (sep:=[124]) (SI (p:=De w));have b:=Rs (p:=De w);have c:=TW (p:=De w);have e:(Dt (De w)).length*(160+[124].length)<=8*161:=Nat.mul_le_mul (by omega) (by simp);simp only[A9,IH];omega
 |6=>by have H:=UC hd;simp only[A9,F4];split;rename_i h;split;simp;have a:=LW (sep:=[32]) (NY h (Ds w).length (Nat.le_refl _));have b:=NA (m:=Ds w) (Ds w).length;have e:(BV (Ds w) (Ds w).length).length*(41+[32].length)<=16*42:=Nat.mul_le_mul (by omega) (by simp);omega;simp
 |7=>by have H:=(A8 hd).l;have a:=RP (w:=w);have c:=JC (r:=CT w) (λj _=>by have:=Vb H j;omega) (CT w).length (Nat.le_refl _);simp only[A9];omega
 |8=>by have H:=(A8 hd).l;have a:=J5 hd;have c:=Ar (n:=Bu w) (by omega);have e:=Ar (n:=(w.length:Int)/2) (by omega);simp only[A9,AZ,AO,Aa];omega
 |i+9=>by simp[A9]
theorem VG{i:Nat}:(AH BK i).length<=12:=Ib (b:=12) (ws:=BK) (by decide)
theorem R6{w:List Nat}(hd:AK w=true):∀i:Nat,(Gx w i).length<=5+i*5020
 |0=>by simp[Gx]
 |i+1=>by have h:=R6 hd i;have H:=UO hd i;have a:=VG (i:=i);simp only[Gx,AZ,AO,Aa];omega
theorem YN:∀i:Nat,i<9->BP (AH BK i)=i
 |0,_=>by decide
 |1,_=>by decide
 |2,_=>by decide
 |3,_=>by decide
 |4,_=>by decide
 |5,_=>by decide
 |6,_=>by decide
 |7,_=>by decide
 |8,_=>by decide
 |i+9,h=>absurd h (by omega)
theorem kl_i[HA K]{w:List Nat}(h:w.length<=1048576):K 526 [.s w] [.s (if AK w=true then Gx w 9 else [])]:=by
 refine qw I526 ?_
 cases hd:AK w
 .repeat(refine cB (Bf (by omega)) ?_;try simp(disch:=try exact dV) only[AD,hd])
  rfl
 repeat(refine cB (Bf (by omega)) ?_;try simp(disch:=try exact dV) only[AD,hd])
 refine cB YC ?_;have e:BK.length=9:=rfl;refine wW ?_;refine AR (λ_=>True) (λi=>[.s w,.u,.s (Gx w i),.u,.u,.u,LS BK,.n 9,.n i,.u]) 9 trivial rfl (λi hi _=>?_) (λ_=>?_);have b1:=UO hd i;have b:=VG (i:=i);have B:=R6 hd i;refine wW ?_;refine cB (AAT hd i hi) ?_;simp(disch:=try exact dV) only[AD,XK];have kl:=IP (K:=K) (ws:=[Gx w i,AH BK i,[91]++A9 w i++[93]]) (by simp) (by simp;omega);refine cB kl ?_;simp(disch:=try exact dV) only[AD,Zc];rfl;exact wZ
theorem kl_s[HA K]{w:List Nat}(h:w.length<=1048576):K 525 [.s w] [.s (if AK w=true then Gx w 9 else [])]:=by
 refine qw I525 ?_
 cases hd:AK w
 .repeat(refine cB (By (by omega)) ?_;try simp(disch:=try exact dV) only[AD,hd])
  rfl
 repeat(refine cB (By (by omega)) ?_;try simp(disch:=try exact dV) only[AD,hd])
 refine cB AZ9 ?_;have e:BK.length=9:=rfl;refine wW ?_;refine AR (λ_=>True) (λi=>[.s w,.u,.s (Gx w i),LS BK,.n i,.u,.u,.u]) 9 trivial rfl (λi hi _=>?_) (λ_=>?_);have b1:=UO hd i;have b:=VG (i:=i);have B:=R6 hd i;refine wW ?_;refine cW (ARC hd i hi) ?_;simp[Gx];exact wZ
end Go.Cat
namespace Go.Cat
inductive AT where
 |nil
 |node(b:Nat)(l r:AT)
namespace AT
def ptr:AT->Value
 |nil=>.pointer none
 |node b _ _=>.pointer (some ⟨b,0,none⟩)
def In(h:Array Obj):AT->Prop
 |nil=>True
 |node b l r=>(∃e,h[b]?=some (.cells #[l.ptr,r.ptr] e (0,0)))/\l.In h/\r.In h
def bl:AT->List Nat
 |nil=>[]
 |node b l r=>b::(l.bl++r.bl)
def size:AT->Nat
 |nil=>0
 |node _ l r=>l.size+r.size+1
def find:AT->Int->AT
 |nil,_=>nil
 |node b l r,v=>if v<0 then nil else if v<l.size then l.find v else if v=l.size then node b l r else r.find (v-l.size-1)
def GS:AT->Int->AT->AT
 |nil,_,_=>nil
 |node b l r,v,x=>if v<0 then node b l r else if v<l.size then node b (l.GS v x) r else if v=l.size then x else node b l (r.GS (v-l.size-1) x)
theorem In.mono{h a:Array Obj}:∀{T:AT},T.In h->(∀b∈T.bl,a[b]?=h[b]?)->T.In a
 |nil,_,_=>trivial
 |node b l r,⟨⟨e,c⟩,f,g⟩,s=>⟨⟨e,by rw[s b (by simp[bl]),c]⟩,f.mono λx H=>s x (by simp[bl,H]),g.mono λx H=>s x (by simp[bl,H])⟩
theorem In.lt{h:Array Obj}:∀{T:AT},T.In h->∀b∈T.bl,b<h.size
 |node b l r,⟨⟨e,a⟩,c,f⟩,x,H=>by simp only[bl,AY,Ac]at H;rcases H with rfl|H|H;exact Cd a;exact c.lt x H;exact f.lt x H
theorem LK{h:Array Obj}:∀{T:AT}{v:Int},T.In h->(T.find v).In h
 |nil,_,_=>trivial
 |node b l r,v,hi=>by simp only[find];split;trivial;split;exact LK hi.2.1;split;exact hi;exact LK hi.2.2
theorem Ig:∀{T:AT}{v:Int}{x:Nat},x∈(T.find v).bl->x∈T.bl
 |nil,_,_,h=>h
 |node b l r,v,x,h=>by simp only[find]at h;split at h;simp[bl]at h;split at h;simp[bl,Ig h];split at h;exact h;simp[bl,Ig h]
theorem QL:∀{T:AT}{v:Int},T.bl.Nodup->(T.find v).bl.Nodup
 |nil,_,h=>h
 |node b l r,v,h=>by simp only[find];have H:=h;simp only[bl,List.nodup_cons,List.nodup_append]at H;split;exact List.nodup_nil;split;exact QL H.2.1;split;exact h;exact QL H.2.2.1
theorem Re:∀{T:AT}{v:Int}{x:AT},x.ptr=(T.find v).ptr->T.find v≠nil->(T.GS v x).ptr=T.ptr
 |nil,_,_,_,h=>(h rfl).elim
 |node b l r,v,x,H,h=>by simp only[GS];simp only[find]at H h;split;rfl;rename_i a;rw[if_neg a]at H h;split;rfl;rename_i c;rw[if_neg c]at H h;split;rename_i e;rw[if_pos e]at H;exact H;rfl
theorem QU{h j:Array Obj}{x:AT}:∀{T:AT}{v:Int},T.In h->T.bl.Nodup->T.find v≠nil->x.In j->x.ptr=(T.find v).ptr->(∀b∈T.bl,b∉(T.find v).bl->j[b]?=h[b]?)->(T.GS v x).In j
 |nil,_,_,_,h,_,_,_=>(h rfl).elim
 |node b l r,v,hi,F,H,k,a,s=>by simp only[bl,List.nodup_cons,Ac,not_or,List.nodup_append]at F;obtain⟨⟨I,J⟩,L,M,N⟩:=F;simp only[GS];simp only[find]at H a s;by_cases o:v<0;rw[if_pos o]at H;exact(H rfl).elim;rw[if_neg o]at H a s|-;by_cases B:v<l.size;rw[if_pos B]at H a s|-;obtain⟨⟨e,g⟩,G,i⟩:=hi;refine⟨⟨e,?_⟩,QU G L H k a λy c f=>s y (by simp[bl,c]) f,i.mono λy c=>s y (by simp[bl,c]) λq=>N y (Ig q) y c rfl⟩;rw[s b (by simp[bl]) (λq=>I (Ig q)),g,Re a H];rw[if_neg B]at H a s|-;by_cases C:v=l.size;rw[if_pos C];exact k;rw[if_neg C]at H a s|-;obtain⟨⟨e,g⟩,G,i⟩:=hi;refine⟨⟨e,?_⟩,G.mono λy c=>s y (by simp[bl,c]) λq=>N y c y (Ig q) rfl,QU i M H k a λy c f=>s y (by simp[bl,c]) f⟩;rw[s b (by simp[bl]) (λq=>J (Ig q)),g,Re a H]
def sh:AT->BT
 |nil=>.lf
 |node _ l r=>.nd l.sh r.sh
theorem HF:∀T:AT,T.size=T.sh.n
 |nil=>rfl
 |node _ l r=>by simp only[size,sh,BT.n,HF l,HF r]
theorem rd{fid:Nat->Nat}{h:Array Obj}{Z:Nat->Prop}:∀{T:AT},T.In h->(∀b∈T.bl,¬Z b)->Rd fid h Z T.sh.d T.ptr
 |nil,_,_=>by simp[sh,BT.d,ptr,Rd]
 |node b l r,⟨⟨e,c⟩,f,g⟩,a=>by simp only[sh,BT.d,ptr,Rd];refine⟨b,0,_,e,(0,0),rfl,c,a b (by simp[bl]),?_⟩;simp only[List.drop_zero,AP];exact⟨rd f λx H=>a x (by simp[bl,H]),rd g λx H=>a x (by simp[bl,H]),trivial⟩
end AT
theorem BT.MG:∀(x:BT),∀c∈x.t,c<256
 |.lf,c,h=>by simp[BT.t]at h;omega
 |.nd l r,c,h=>by simp only[BT.t,AY,Ac,Cy,or_false]at h;rcases h with rfl|h|h|rfl;omega;exact BT.MG l c h;exact BT.MG r c h;omega
def Av:BT->Int->Option BT
 |.lf,_=>none
 |.nd l r,v=>if v<0 then none else if v<l.n then(Av l v).map λx=>.nd x r else if v=l.n then(match l with
   |.lf=>none
   |.nd a b=>some (.nd a (.nd b r)))else(Av r (v-l.n-1)).map λx=>.nd l x
def CC:BT->Int->Option BT
 |.lf,_=>none
 |.nd l r,v=>if v<0 then none else if v<l.n then(CC l v).map λx=>.nd x r else if v=l.n then(match r with
   |.lf=>none
   |.nd b c=>some (.nd (.nd l b) c))else(CC r (v-l.n-1)).map λx=>.nd l x
theorem FU:∀{x:BT}{v:Int}{y:BT},Av x v=some y->y.n=x.n
 |.lf,_,_,h=>by cases h
 |.nd l r,v,y,h=>by
  simp only[Av]at h;split at h
  cases h;split at h;obtain⟨z,H,rfl⟩:=Ae.1 h;simp only[BT.n,FU H];split at h
  cases l with
  |lf=>cases h
  |nd a b=>
   simp only[AL]at h
   subst h
   simp only[BT.n];omega
  obtain⟨z,H,rfl⟩:=Ae.1 h;simp only[BT.n,FU H]
theorem J9:∀{x:BT}{v:Int}{y:BT},CC x v=some y->y.n=x.n
 |.lf,_,_,h=>by cases h
 |.nd l r,v,y,h=>by
  simp only[CC]at h;split at h
  cases h;split at h;obtain⟨z,H,rfl⟩:=Ae.1 h;simp only[BT.n,J9 H];split at h
  cases r with
  |lf=>cases h
  |nd a b=>
   simp only[AL]at h
   subst h
   simp only[BT.n];omega
  obtain⟨z,H,rfl⟩:=Ae.1 h;simp only[BT.n,J9 H]
open AT in
theorem VP:∀{T:AT}{v:Int},T.find v=nil->Av T.sh v=none
 |nil,_,_=>rfl
 |node b l r,v,h=>by simp only[find]at h;simp only[sh,Av,<-HF];split;rfl;rename_i c;rw[if_neg c]at h;split;rename_i H;rw[if_pos H]at h;rw[VP h]<;>rfl;rename_i H;rw[if_neg H]at h;split;rename_i a;rw[if_pos a]at h;cases h;rename_i a;rw[if_neg a]at h;rw[VP h]<;>rfl
open AT in
theorem Sc:∀{T:AT}{v:Int}{b:Nat}{r:AT},T.find v=node b nil r->Av T.sh v=none
 |nil,_,_,_,h=>by simp[find]at h
 |node b l r,v,B,R,h=>by simp only[find]at h;simp only[sh,Av,<-HF];split;rfl;rename_i c;rw[if_neg c]at h;split;rename_i H;rw[if_pos H]at h;rw[Sc h]<;>rfl;rename_i H;rw[if_neg H]at h;split;rename_i a;rw[if_pos a]at h;injection h with _ e _;subst e;rfl;rename_i a;rw[if_neg a]at h;rw[Sc h]<;>rfl
open AT in
theorem WT:∀{T:AT}{v:Int}{b b1 nb:Nat}{a2 b2 c2:AT},T.find v=node b (node b1 a2 b2) c2->Av T.sh v=some (T.GS v (node b a2 (node nb b2 c2))).sh
 |nil,_,_,_,_,_,_,_,h=>by simp[find]at h
 |node B l r,v,b,b1,nb,a2,b2,c2,h=>by simp only[find]at h;simp only[sh,Av,<-HF,GS];split;rename_i H;rw[if_pos H]at h;cases h;rename_i H;rw[if_neg H]at h;split;rename_i a;rw[if_pos a]at h;rw[WT (nb:=nb) h]<;>rfl;rename_i a;rw[if_neg a]at h;split;rename_i c;rw[if_pos c]at h;injection h with _ e f;subst e f;rfl;rename_i c;rw[if_neg c]at h;rw[WT (nb:=nb) h]<;>rfl
open AT in
theorem W6:∀{T:AT}{v:Int},T.find v=nil->CC T.sh v=none
 |nil,_,_=>rfl
 |node b l r,v,h=>by simp only[find]at h;simp only[sh,CC,<-HF];split;rfl;rename_i c;rw[if_neg c]at h;split;rename_i H;rw[if_pos H]at h;rw[W6 h]<;>rfl;rename_i H;rw[if_neg H]at h;split;rename_i a;rw[if_pos a]at h;cases h;rename_i a;rw[if_neg a]at h;rw[W6 h]<;>rfl
open AT in
theorem S1:∀{T:AT}{v:Int}{b:Nat}{l:AT},T.find v=node b l nil->CC T.sh v=none
 |nil,_,_,_,h=>by simp[find]at h
 |node b l r,v,B,R,h=>by simp only[find]at h;simp only[sh,CC,<-HF];split;rfl;rename_i c;rw[if_neg c]at h;split;rename_i H;rw[if_pos H]at h;rw[S1 h]<;>rfl;rename_i H;rw[if_neg H]at h;split;rename_i a;rw[if_pos a]at h;injection h with _ _ e;subst e;rfl;rename_i a;rw[if_neg a]at h;rw[S1 h]<;>rfl
open AT in
theorem VJ:∀{T:AT}{v:Int}{b b1 nb:Nat}{a2 b2 c2:AT},T.find v=node b a2 (node b1 b2 c2)->CC T.sh v=some (T.GS v (node b (node nb a2 b2) c2)).sh
 |nil,_,_,_,_,_,_,_,h=>by simp[find]at h
 |node B l r,v,b,b1,nb,a2,b2,c2,h=>by simp only[find]at h;simp only[sh,CC,<-HF,GS];split;rename_i H;rw[if_pos H]at h;cases h;rename_i H;rw[if_neg H]at h;split;rename_i a;rw[if_pos a]at h;rw[VJ (nb:=nb) h]<;>rfl;rename_i a;rw[if_neg a]at h;split;rename_i c;rw[if_pos c]at h;injection h with _ e f;subst e f;rfl;rename_i c;rw[if_neg c]at h;rw[VJ (nb:=nb) h]<;>rfl
open Go.RowKit in
section
open Go.RowKit
def Gr(w w':World):Prop:=w.heap.size<=w'.heap.size/\(∀b,b<w.heap.size->w'.heap[b]?=w.heap[b]?)/\w'.os=w.os/\w'.tape=w.tape/\w'.output=w.output
theorem Gr.refl(w:World):Gr w w:=⟨Nat.le_refl _,λ_ _=>rfl,rfl,rfl,rfl⟩
theorem Gr.trans{a b c:World}(h:Gr a b)(k:Gr b c):Gr a c:=
 ⟨Nat.le_trans h.1 k.1,λx H=>(k.2.1 x (Nat.lt_of_lt_of_le H h.1)).trans (h.2.1 x H),k.2.2.1.trans h.2.2.1,k.2.2.2.1.trans h.2.2.2.1,k.2.2.2.2.trans h.2.2.2.2⟩
theorem Gr.drew(w:World):Gr w w.drew:=⟨Nat.le_refl _,λ_ _=>rfl,rfl,rfl,rfl⟩
theorem Gr.alloc(w:World)(o:Obj):Gr w (w.alloc o):=by have h:=Dh w o (λ_=>False);exact⟨h.size,λb H=>h.same b H id,rfl,rfl,rfl⟩
theorem AT.IS(T:AT):∃u,T.ptr=.pointer u:=by cases T<;>exact⟨_,rfl⟩
theorem AFA{s:List Nat}{S:ByteArray}(b:BJ s=.string S)(g:∀c∈s,c<256):S.size=s.length/\∀i,(h:i<S.size)->∀c,s[i]?=some c->(S[i].toNat:Int)=c:=by
 unfold BJ at b;injection b with b;subst b;have a:(ByteArray.mk (s.map λc=>UInt8.ofNat c).toArray).size=s.length:=by simp[ByteArray.size]
 refine⟨a,λi h c f=>?_⟩;have hi:i<s.length:=by rw[a]at h;exact h
 have e:s[i]=c:=by simpa[hi]using f
 have H:=g _ (List.getElem_mem hi);show((((s.map λc=>UInt8.ofNat c).toArray)[i]'(by simpa using hi)).toNat:Int)=c;simp only[List.getElem_toArray,List.getElem_map];rw[e]at H|-;simp[UInt8.toNat_ofNat,Nat.mod_eq_of_lt H]
theorem I6{w:World}{b:Nat}{l r:AT}(h:(AT.node b l r).In w.heap):w.cell? ⟨b,0,none⟩=some l.ptr/\w.cell? ⟨b,1,none⟩=some r.ptr/\w.frozen? ⟨b,0,none⟩=false/\w.frozen? ⟨b,1,none⟩=false:=by obtain⟨⟨e,h⟩,_⟩:=h;simp[World.cell?,World.frozen?,h]
theorem Nv{w w':World}{T:AT}(h:T.In w.heap)(g:Gr w w'):T.In w'.heap:=h.mono λb H=>g.2.1 b (h.lt b H)
theorem BU{p:Prop}(h:p):Hid p:=h
def Ln(P:Program)(f:Nat):Prop:=∀(T:AT)(w:World),T.In w.heap->T.sh.n<=8->Calls P f #[T.ptr] w λe w'=>e=.returned (.int .i64 (T.size:Int))/\Hid (Gr w w')
def TXT(P:Program)(f:Nat):Prop:=∀(T:AT)(w:World),T.In w.heap->T.sh.n<=8->Calls P f #[T.ptr] w λe w'=>e=.returned (BJ T.sh.t)/\Hid (Gr w w')
theorem MJ{w:World}{b k:Nat}{cs:Array Value}{e:TypeId}{u:Value}(h:w.heap[b]?=some (.cells cs e (0,0))):(w.setCell ⟨b,k,none⟩ u).heap[b]?=some (.cells (cs.setIfInBounds k u) e (0,0))/\(∀x,x≠b->(w.setCell ⟨b,k,none⟩ u).heap[x]?=w.heap[x]?)/\(w.setCell ⟨b,k,none⟩ u).heap.size=w.heap.size:=by refine⟨?_,λx H=>?_,by simp[World.setCell]⟩;simp only[World.setCell,Array.getElem?_modify,if_true,h];rfl;simp only[World.setCell,Array.getElem?_modify];rw[if_neg (Ne.symm H)]
theorem ACK{P:Program}{fid:Nat->Nat}{f:Nat}{T:AT}{r:D}(h:G5 P fid f ⟨[.v],[.v],[],none⟩ [T.sh.d] [r])(w:World)(hi:T.In w.heap):
  Calls P f #[T.ptr] w λe w'=>∃v,e=.returned v/\Rd fid w'.heap (λ_=>False) r v/\Gr w w':=by
 refine(h w (λ_=>False) [T.ptr] [] List.nodup_nil (λb H=>H.elim) ?_ trivial).mono ?_
 .simp only[BO,AE];exact⟨[],[],rfl,⟨rfl,AT.rd hi λb _ x=>by simp at x⟩,rfl⟩
 .rintro e w' ⟨v,vs,B,rfl,o,l,a,g,i,j,_,_,c⟩;match vs,l with
  |[V],_=>
   have s:v=V:=o
   subst s
   simp only[Sg.outs,List.map_nil,List.append_nil,BO,AE]at c
   obtain⟨B1,B2,rfl,⟨rfl,k⟩,rfl⟩:=c
   refine⟨v,rfl,k.mono λb _ q=>q.elim,a.size,λb H=>a.same b H (by simp),g,i,j⟩
theorem R3{P:Program}{fid:Nat->Nat}{f:Nat}{s r:List Nat}{v:Int}{o:Bool}(q:(∀c∈r,c<256)/\r.length<=9223372036854775807)
  (h:(∀c∈s,c<256)/\s.length<=9223372036854775807->∀w,Calls P f #[BJ s,.int .i64 v] w λe w'=>e=.returned (.tuple #[BJ r,.bool o])/\Gr w w'):G5 P fid f ⟨[.v,.v],[.v,.v],[],none⟩ [.s s,.n v] [.s r,.b o]:=by
 intro w X args B l hX H _;match args,H with
 |[],H=>simp[BO]at H
 |[_],H=>simp[BO]at H
 |_::_::_::_,H=>simp[BO]at H
 |[V,v1],H=>
  simp only[BO,AE,Rd]at H
  obtain⟨B1,B2,rfl,⟨rfl,rfl,x⟩,C,F,rfl,⟨rfl,rfl⟩,rfl⟩:=H
  refine(h x w).mono ?_
  rintro e w' ⟨rfl,g,G,a,i,j⟩
  refine⟨_,[BJ r,.bool o],[],rfl,rfl,rfl,⟨g,λb k _=>G b k⟩,a,i,j,List.nodup_nil,by simp,?_⟩
  simp only[Sg.outs,List.map_nil,List.append_nil,BO,AE,Rd]
  exact⟨[],[],rfl,⟨rfl,trivial,q⟩,[],[],rfl,⟨rfl,trivial⟩,rfl⟩
end
section
open Go.RowKit
theorem ASS{P:Program}{fid:Nat->Nat}{f:Nat}{s:List Nat}{v:Int}(o:(∀c∈s,c<256)/\s.length<=9223372036854775807)(h:G5 P fid f ⟨[.v,.v],[.v,.v],[],none⟩ [.s s,.n v] [.z,.z])(w:World):
  Calls P f #[BJ s,.int .i64 v] w λe w'=>e=.returned (.tuple #[.pointer none,.pointer none])/\Hid (Gr w w'):=by
 refine(h w (λ_=>False) [BJ s,.int .i64 v] [] List.nodup_nil (λb H=>H.elim) ?_ trivial).mono ?_
 .simp only[BO,AE,Rd];exact⟨[],[],rfl,⟨rfl,trivial,o⟩,[],[],rfl,⟨rfl,trivial⟩,rfl⟩
 .rintro e w' ⟨v,vs,B,rfl,q,l,a,i,j,k,_,_,g⟩;match vs,l with
  |[V,v1],_=>
   have x:v=.tuple #[V,v1]:=q
   subst x
   simp only[Sg.outs,List.map_nil,List.append_nil,BO,AE,Rd]at g
   obtain⟨B1,B2,rfl,⟨rfl,rfl⟩,C,F,rfl,⟨rfl,rfl⟩,rfl⟩:=g
   exact⟨rfl,a.size,λb H=>a.same b H (by simp),i,j,k⟩
end
class E3(K:Nat->List D->List D->Prop):Prop where
 rr:∀(x:BT)(v:Int),x.n<=8->-1000000000<=v->v<=9223372036854775807->K 200 [.s x.t,.n v] [.s ((Av x v).elim [] BT.t),.b (Av x v).isSome]
 rl:∀(x:BT)(v:Int),x.n<=8->-1000000000<=v->v<=9223372036854775807->K 202 [.s x.t,.n v] [.s ((CC x v).elim [] BT.t),.b (CC x v).isSome]
 rrn:∀(s:List Nat)(v:Int),Bq s=false->K 200 [.s s,.n v] [.s [],.b false]
 rln:∀(s:List Nat)(v:Int),Bq s=false->K 202 [.s s,.n v] [.s [],.b false]
variable{K:Nat->List D->List D->Prop}
theorem AQ9[HA K]{s:List Nat}{v:Int}(h:Bq s=false):K 210 [.s s,.n v] [.z,.z]:=by refine qw I210 ?_;exact cZ (PL h)
end Go.Cat
