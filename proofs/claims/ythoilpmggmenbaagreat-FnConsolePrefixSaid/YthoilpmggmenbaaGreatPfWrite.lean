/-
 Objects of paths as texts: WriteAs of both sides.
-/
import Derived.Test.YthoilpmggmenbaaGreatPfWr1
import Derived.Test.YthoilpmggmenbaaGreatPfSrt
set_option linter.unusedSimpArgs false
set_option linter.unusedVariables false
namespace Go.Cat
variable{K:Nat->List D->List D->Prop}
def Ai:List (List Nat):=[[112,97,116,104],[98,114,97,99,107,101,116,115],[112,108,97,110,101],[98,105,110,97,114,121],[100,105,97,103,111,110,97,108,115],[112,97,114,116,105,116,105,111,110],[109,97,116,99,104,105,110,103],[112,101,114,109,117,116,97,116,105,111,110],[114,97,110,107]]
theorem AAZ[HA K]:K 14 [] [LS Ai]:=by refine qb I14 ?_;simp(disch:=omega) only[AD,Tg];rfl
theorem Js[HA K]:K 13 [] [LS Ai]:=by refine qb I13 ?_;simp(disch:=omega) only[AD,Tg];rfl
theorem AJU[HA K]{w:List Nat}(hd:AK w=true):K 535 [.s w] [.s (JA w).t,.b true]:=by obtain⟨x,rfl,h⟩:=Kr hd;have l:=BT.pl x;rw[Hi];refine qw I535 ?_;repeat(refine cB (by first|exact Bz (by omega)|exact Pt h|exact KZ (by omega)|fail) ?_;try simp(disch:=omega) only[AD,hd])
theorem AME[HA K]{w:List Nat}(hd:AK w=true):K 530 [.s w] [.s (JA w).t,.b true]:=by obtain⟨x,rfl,h⟩:=Kr hd;have l:=BT.pl x;rw[Hi];refine qw I530 ?_;repeat(refine cB (by first|exact Bu (by omega)|exact Ob h|fail) ?_;try simp(disch:=omega) only[AD,hd])
noncomputable def A8(w:List Nat):Nat->List Nat
 |0=>w
 |1=>Cv w
 |2=>IZ (Co w)
 |3=>(JA w).t
 |4=>AQ ((w.length:Int)/2+2)++[58,32]++Cc (BO (JA w))
 |5=>Jd (EB w)
 |6=>Fo (E3 w)
 |7=>DW (C6 w) (C6 w).length
 |8=>AQ ((w.length:Int)/2)++[58]++AQ (CN w)
 |_=>[]
theorem ASW{x:BT}(h:x.n<=8):(BO x).length<=7:=by have:=O1 (x:=x) (l:=0) (r:=(x.n:Int)+1);rw[AR4];omega
theorem VF{d:List (List Int)}:(Cc d).length<=1000:=by
 unfold Cc;split;simp;split;simp;split;rename_i _ H a;have b:∀x∈Cw d,x.length<=40:=by intro x c;obtain⟨r,h,rfl⟩:=List.mem_map.1 c;obtain⟨f,q,Q⟩:=PF (Ao.1 a r h);have b1:=A7.1 q;have b2:=A7.1 Q;have l:=Aw (n:=AB r 0) (by omega);have L:=Aw (n:=AB r 1) (by omega);simp only[AW];omega
 have e:=IN (sep:=[32]) b (Cw d).length;have:=Tk (d:=d);simp only[glue,AP,A5]at*;omega;simp
theorem AYU[HA K]{w:List Nat}(hd:AK w=true):PP w (E3 w)/\K 373 [.s w] [LI (E3 w)]:=by obtain⟨_,⟨m,rfl,h⟩,k⟩:=Tp (K:=K) hd;rw[TU h];exact⟨h,k⟩
theorem YZ[HA K]{w:List Nat}(hd:AK w=true):K 373 [.s w] [LI (E3 w)]/\K 356 [.s w] [LI (E3 w),.b true]:=by obtain⟨h,k⟩:=AYU (K:=K) hd;exact⟨k,Xc hd h⟩
theorem WG{w:List Nat}(hd:AK w=true):(E3 w).length<=16:=by have H:=(Af hd).l;unfold E3;split;rename_i h;have:=h.choose_spec.1;omega;simp
theorem AWF[HA K]{w:List Nat}(hd:AK w=true):K 524 [.s [112,97,116,104],.s w] [.s (A8 w 0),.b true]:=by
 have h:=(Af hd).l;refine qw Hm ?_;repeat(refine cB (Bz (by omega)) ?_;try simp(disch:=omega) only[AD,hd,Ak,Aj,Al])
 all_goals rfl
theorem AfL[HA K]{w:List Nat}(hd:AK w=true):K 524 [.s [98,114,97,99,107,101,116,115],.s w] [.s (A8 w 1),.b true]:=by
 have h:=(Af hd).l;refine qw Hm ?_;repeat(refine cB (by first|exact Bz (by omega)|exact AI5 hd|fail) ?_;try simp(disch:=omega) only[AD,hd,Ak,Aj,Al])
 all_goals rfl
theorem AZ7[HA K]{w:List Nat}(hd:AK w=true):K 524 [.s [112,108,97,110,101],.s w] [.s (A8 w 2),.b true]:=by
 have H:=(Af hd).l;have h:=OD hd;refine qw Hm ?_;repeat(refine cB (by first|exact Bz (by omega)|exact AAL hd|exact AfQ (by omega)|fail) ?_;try simp(disch:=omega) only[AD,hd,Ak,Aj,Al])
 all_goals rfl
theorem AbX[HA K]{w:List Nat}(hd:AK w=true):K 524 [.s [98,105,110,97,114,121],.s w] [.s (A8 w 3),.b true]:=by
 have h:=(Af hd).l;refine qw Hm ?_;repeat(refine cB (by first|exact Bz (by omega)|exact AJU hd|fail) ?_;try simp(disch:=omega) only[AD,hd,Ak,Aj,Al])
 all_goals rfl
theorem AZA[HA K]{w:List Nat}(hd:AK w=true):K 524 [.s [100,105,97,103,111,110,97,108,115],.s w] [.s (A8 w 4),.b true]:=by
 have g:=(Af hd).l;obtain⟨x,rfl,h⟩:=Kr hd;have c:=BT.pl x;have a:=ASW h;have H:=VF (d:=BO x);have f:=Aw (n:=(x.p.length:Int)/2+2) (by omega);have k:=RH (K:=K) (d:=BO x) (by omega) (λr e=>by have:=N6 r (UO.1 e);simp only[Cg]at this;omega);refine qw Hm ?_;repeat(refine cB (by first|exact Bz (by omega)|exact Pt h|exact KZ (by omega)|exact Ro h|exact C8 (by omega)|exact k|fail) ?_;try simp(disch:=try exact dV) only[AD,hd,Ak,Aj,Al])
 simp only[A8,Hi]
theorem Af3[HA K]{w:List Nat}(hd:AK w=true):K 524 [.s [112,97,114,116,105,116,105,111,110],.s w] [.s (A8 w 5),.b true]:=by
 have H:=(Af hd).l;have h:=Ow hd;refine qw Hm ?_;repeat(refine cB (by first|exact Bz (by omega)|exact(R1 (K:=K) hd).1|exact Vl (by omega)|fail) ?_;try simp(disch:=omega) only[AD,hd,Ak,Aj,Al])
 all_goals rfl
theorem AXE[HA K]{w:List Nat}(hd:AK w=true):K 524 [.s [109,97,116,99,104,105,110,103],.s w] [.s (A8 w 6),.b true]:=by
 have H:=(Af hd).l;have h:=WG hd;refine qw Hm ?_;repeat(refine cB (by first|exact Bz (by omega)|exact(YZ (K:=K) hd).1|exact VU (by omega)|fail) ?_;try simp(disch:=omega) only[AD,hd,Ak,Aj,Al])
 all_goals rfl
theorem AeN[HA K]{w:List Nat}(hd:AK w=true):K 524 [.s [112,101,114,109,117,116,97,116,105,111,110],.s w] [.s (A8 w 7),.b true]:=by
 have H:=(Af hd).l;have a:=Sx (w:=w);have h:=Uc H;refine qw Hm ?_;repeat(refine cB (by first|exact Bz (by omega)|exact AdG hd|fail) ?_;try simp(disch:=omega) only[AD,hd,Ak,Aj,Al])
 refine AN (λ_=>True) (λi=>[.u,.u,.u,.u,.u,.u,.u,.u,.s (DW (C6 w) i),.u,.u,.u,.u,.u,.u,.u,.u,.u,.u,.u,LI (C6 w),.n (C6 w).length,.n i,.u,.u]) (C6 w).length trivial rfl (λi hi _=>?_) (λ_=>?_);have c:=h i;have e:=K8 (r:=C6 w) (λj _=>by have:=h j;omega) i (by omega);have f:=Aw (n:=AB (C6 w) i+1) (by omega);refine wW ?_;exact cZ (C8 (by omega));exact wZ
theorem AVC[HA K]{w:List Nat}(hd:AK w=true):K 524 [.s [114,97,110,107],.s w] [.s (A8 w 8),.b true]:=by
 have c:=(Af hd).l;have h:=Lm hd;have H:=Aw (n:=CN w) (by omega);have a:=Aw (n:=(w.length:Int)/2) (by omega);refine qw Hm ?_;repeat(refine cB (by first|exact Bz (by omega)|exact C8 (by omega)|exact AEG (by omega)|exact C8 (by omega)|fail) ?_;try simp(disch:=try exact dV) only[AD,hd,Ak,Aj,Al])
 all_goals rfl
theorem AbR[HA K]{w:List Nat}(hd:AK w=true):K 523 [.s [112,97,116,104],.s w] [.s (A8 w 0),.b true]:=by
 have h:=(Af hd).l;refine qw Hl ?_;repeat(refine cB (Bu (by omega)) ?_;try simp(disch:=omega) only[AD,hd,Ak,Aj,Al])
 all_goals rfl
theorem AeV[HA K]{w:List Nat}(hd:AK w=true):K 523 [.s [98,114,97,99,107,101,116,115],.s w] [.s (A8 w 1),.b true]:=by
 have h:=(Af hd).l;refine qw Hl ?_;repeat(refine cB (by first|exact Bu (by omega)|exact Ze hd|fail) ?_;try simp(disch:=omega) only[AD,hd,Ak,Aj,Al])
 all_goals rfl
theorem AXL[HA K]{w:List Nat}(hd:AK w=true):K 523 [.s [112,108,97,110,101],.s w] [.s (A8 w 2),.b true]:=by
 have H:=(Af hd).l;have h:=OD hd;refine qw Hl ?_;repeat(refine cB (by first|exact Bu (by omega)|exact ATD hd|exact AX9 (by omega)|fail) ?_;try simp(disch:=omega) only[AD,hd,Ak,Aj,Al])
 all_goals rfl
theorem AjV[HA K]{w:List Nat}(hd:AK w=true):K 523 [.s [98,105,110,97,114,121],.s w] [.s (A8 w 3),.b true]:=by
 have h:=(Af hd).l;refine qw Hl ?_;repeat(refine cB (by first|exact Bu (by omega)|exact AME hd|fail) ?_;try simp(disch:=omega) only[AD,hd,Ak,Aj,Al])
 all_goals rfl
theorem AZ9[HA K]{w:List Nat}(hd:AK w=true):K 523 [.s [100,105,97,103,111,110,97,108,115],.s w] [.s (A8 w 4),.b true]:=by
 have g:=(Af hd).l;obtain⟨x,rfl,h⟩:=Kr hd;have c:=BT.pl x;have a:=ASW h;have H:=VF (d:=BO x);have f:=Aw (n:=(x.p.length:Int)/2+2) (by omega);have k:=ANN (K:=K) (d:=BO x) (by omega) (λr e=>by have:=N6 r (UO.1 e);simp only[Cg]at this;omega);refine qw Hl ?_;repeat(refine cB (by first|exact Bu (by omega)|exact Ob h|exact RW h|exact CB (by omega)|exact k|fail) ?_;try simp(disch:=try exact dV) only[AD,hd,Ak,Aj,Al])
 simp only[A8,Hi]
theorem AfR[HA K]{w:List Nat}(hd:AK w=true):K 523 [.s [112,97,114,116,105,116,105,111,110],.s w] [.s (A8 w 5),.b true]:=by
 have H:=(Af hd).l;have h:=Ow hd;refine qw Hl ?_;repeat(refine cB (by first|exact Bu (by omega)|exact AD9 hd|exact AW8 (by omega)|fail) ?_;try simp(disch:=omega) only[AD,hd,Ak,Aj,Al])
 all_goals rfl
theorem AW3[HA K]{w:List Nat}(hd:AK w=true):K 523 [.s [109,97,116,99,104,105,110,103],.s w] [.s (A8 w 6),.b true]:=by
 have H:=(Af hd).l;have h:=WG hd;refine qw Hl ?_;repeat(refine cB (by first|exact Bu (by omega)|exact Xc hd (Y0 hd)|exact AfK (by omega)|fail) ?_;try simp(disch:=omega) only[AD,hd,Ak,Aj,Al])
 all_goals rfl
theorem AUN[HA K]{w:List Nat}(hd:AK w=true):K 523 [.s [112,101,114,109,117,116,97,116,105,111,110],.s w] [.s (A8 w 7),.b true]:=by
 have H:=(Af hd).l;have a:=Sx (w:=w);have h:=Uc H;refine qw Hl ?_;repeat(refine cB (by first|exact Bu (by omega)|exact AcT hd|fail) ?_;try simp(disch:=omega) only[AD,hd,Ak,Aj,Al])
 refine AN (λ_=>True) (λi=>[.u,.u,.u,.u,.u,.u,.u,.u,.u,.u,LI (C6 w),.s (DW (C6 w) i),.n i,.u,.u,.u,.u,.u,.u,.u,.u,.u,.u,.u,.u]) (C6 w).length trivial rfl (λi hi _=>?_) (λ_=>?_);have c:=h i;have e:=K8 (r:=C6 w) (λj _=>by have:=h j;omega) i (by omega);have f:=Aw (n:=AB (C6 w) i+1) (by omega);refine wW ?_;exact cZ (CB (by omega));exact wZ
theorem AeF[HA K]{w:List Nat}(hd:AK w=true):K 523 [.s [114,97,110,107],.s w] [.s (A8 w 8),.b true]:=by
 have c:=(Af hd).l;have h:=Lm hd;have H:=Aw (n:=CN w) (by omega);have a:=Aw (n:=(w.length:Int)/2) (by omega);refine qw Hl ?_;repeat(refine cB (by first|exact Bu (by omega)|exact CB (by omega)|exact AT5 (by omega)|exact CB (by omega)|fail) ?_;try simp(disch:=try exact dV) only[AD,hd,Ak,Aj,Al])
 all_goals rfl
def BG(k:List Nat):Nat:=Ai.findIdx (·==k)
theorem N7{k:List Nat}(h:BG k<9):k=AF Ai (BG k):=by
 have a:Ai.findIdx (·==k)<Ai.length:=h;have:=List.findIdx_getElem (w:=a);have H:Ai[Ai.findIdx (·==k)]=k:=by simpa using this
 rw[<-H];simp only[BG,AF,BM,Ap];rw[H,Eg a,H]<;>rfl
theorem QC{k:List Nat}(h:¬BG k<9){x:List Nat}(H:x∈Ai):(k==x)=false:=by cases hc:(k==x);rfl;exfalso;apply h;exact List.findIdx_lt_length_of_exists ⟨x,H,by simp at hc;simp[hc]⟩
noncomputable def DD(k w:List Nat):Bool:=AK w&&decide (BG k<9)
noncomputable def Cz(k w:List Nat):List Nat:=if DD k w=true then A8 w (BG k)else []
theorem ACK[HA K]{w:List Nat}(hd:AK w=true):∀i:Nat,i<9->K 524 [.s (AF Ai i),.s w] [.s (A8 w i),.b true]
 |0,_=>AWF hd
 |1,_=>AfL hd
 |2,_=>AZ7 hd
 |3,_=>AbX hd
 |4,_=>AZA hd
 |5,_=>Af3 hd
 |6,_=>AXE hd
 |7,_=>AeN hd
 |8,_=>AVC hd
 |i+9,h=>absurd h (by omega)
theorem VD[HA K]{k w:List Nat}(h:w.length<=1000000000):K 524 [.s k,.s w] [.s (Cz k w),.b (DD k w)]:=by
 cases hd:AK w
 .have e:DD k w=false:=by simp[DD,hd]
  have a:Cz k w=[]:=by simp[Cz,e]
  rw[e,a];refine qw Hm ?_;repeat(refine cB (Bz h) ?_;try simp(disch:=omega) only[AD,hd])
 by_cases H:BG k<9;have e:DD k w=true:=by simp[DD,hd,H]
 have a:Cz k w=A8 w (BG k):=by simp[Cz,e]
 have:=ACK (K:=K) hd (BG k) H;rw[<-N7 H]at this;rw[e,a];exact this;have e:DD k w=false:=by simp[DD,hd,H]
 have a:Cz k w=[]:=by simp[Cz,e]
 have o:=λ(x:List Nat)(c:x∈Ai)=>QC H c;have q:=o [112,97,116,104] (by simp[Ai]);have Q:=o [98,114,97,99,107,101,116,115] (by simp[Ai]);have f:=o [112,108,97,110,101] (by simp[Ai]);have g:=o [98,105,110,97,114,121] (by simp[Ai]);have i:=o [100,105,97,103,111,110,97,108,115] (by simp[Ai]);have j:=o [112,97,114,116,105,116,105,111,110] (by simp[Ai]);have l:=o [109,97,116,99,104,105,110,103] (by simp[Ai]);have B:=o [112,101,114,109,117,116,97,116,105,111,110] (by simp[Ai]);have C:=o [114,97,110,107] (by simp[Ai]);rw[e,a];refine qw Hm ?_;repeat(refine cB (Bz h) ?_;try simp(disch:=omega) only[AD,hd,q,Q,f,g,i,j,l,B,C])
theorem APU[HA K]{w:List Nat}(hd:AK w=true):∀i:Nat,i<9->K 523 [.s (AF Ai i),.s w] [.s (A8 w i),.b true]
 |0,_=>AbR hd
 |1,_=>AeV hd
 |2,_=>AXL hd
 |3,_=>AjV hd
 |4,_=>AZ9 hd
 |5,_=>AfR hd
 |6,_=>AW3 hd
 |7,_=>AUN hd
 |8,_=>AeF hd
 |i+9,h=>absurd h (by omega)
theorem AA7[HA K]{k w:List Nat}(h:w.length<=1000000000):K 523 [.s k,.s w] [.s (Cz k w),.b (DD k w)]:=by
 cases hd:AK w
 .have e:DD k w=false:=by simp[DD,hd]
  have a:Cz k w=[]:=by simp[Cz,e]
  rw[e,a];refine qw Hl ?_;repeat(refine cB (Bu h) ?_;try simp(disch:=omega) only[AD,hd])
 by_cases H:BG k<9;have e:DD k w=true:=by simp[DD,hd,H]
 have a:Cz k w=A8 w (BG k):=by simp[Cz,e]
 have:=APU (K:=K) hd (BG k) H;rw[<-N7 H]at this;rw[e,a];exact this;have e:DD k w=false:=by simp[DD,hd,H]
 have a:Cz k w=[]:=by simp[Cz,e]
 have o:=λ(x:List Nat)(c:x∈Ai)=>QC H c;have q:=o [112,97,116,104] (by simp[Ai]);have Q:=o [98,114,97,99,107,101,116,115] (by simp[Ai]);have f:=o [112,108,97,110,101] (by simp[Ai]);have g:=o [98,105,110,97,114,121] (by simp[Ai]);have i:=o [100,105,97,103,111,110,97,108,115] (by simp[Ai]);have j:=o [112,97,114,116,105,116,105,111,110] (by simp[Ai]);have l:=o [109,97,116,99,104,105,110,103] (by simp[Ai]);have B:=o [112,101,114,109,117,116,97,116,105,111,110] (by simp[Ai]);have C:=o [114,97,110,107] (by simp[Ai]);rw[e,a];refine qw Hl ?_;repeat(refine cB (Bu h) ?_;try simp(disch:=omega) only[AD,hd,q,Q,f,g,i,j,l,B,C])
end Go.Cat
namespace Go.Cat
variable{K:Nat->List D->List D->Prop}
theorem WY[HA K]{ws:List (List Nat)}{k:List Nat}(h:ws.length<=1099511627776):K 378 [LS ws,.s k] [.b (ws.contains k)]:=by
 refine qw Vn ?_;refine AN (λi=>k∉ws.take i) (λi=>[LS ws,.s k,.u,.n i,.u,.u]) ws.length (by simp) rfl (λi hi P=>?_) (λP=>?_);have a:ws.take (i+1)=ws.take i++[AF ws i]:=by rw[CQ hi];simp[AF,hi]
 have H:AF ws i∈ws:=by simp[AF,hi]
 cases c:(AF ws i==k);simp(disch:=omega) only[AD,c];rw[a];intro q;rcases A9.1 q with q|q;exact P q;simp only[List.mem_singleton]at q;rw[q]at c;simp at c;have e:AF ws i=k:=by simpa using c
 simp(disch:=omega) only[AD,c];refine Db ?_;rw[<-e];simpa using H;refine wW ?_;refine Db ?_;rw[List.take_length]at P;simpa using P
theorem AX1{k:List Nat}:Ai.contains k=decide (BG k<9):=by
 by_cases h:BG k<9;have e:=N7 h;have H:AF Ai (BG k)∈Ai:=by have:BG k<Ai.length:=h;simp[AF,this]
 rw[<-e]at H;simp[h,H];have:k∉Ai:=by intro q;have:=QC h q;simp at this
 simp[h,this]
noncomputable def G8(w:List Nat):Nat->List Nat
 |0=>[107,105,110,100,115]
 |i+1=>G8 w i++[32]++AF Ai i++[32]++([91]++A8 w i++[93])
theorem Q6{w:List Nat}(hd:AK w=true):∀i:Nat,(A8 w i).length<=5000
 |0=>by have H:=(Af hd).l;simp only[A8];omega
 |1=>by have H:=(Af hd).l;have:=Ok (w:=w);simp only[A8];omega
 |2=>by have H:=OD hd;simp only[A8,IZ];split;rename_i h;obtain⟨a,b⟩:=TI h;have:=Np (sep:=[44]) (ZB b);have c:=Uw (p:=Co w);have e:(Ex (Co w)).length*(20+[44].length)<=9*21:=Nat.mul_le_mul (by omega) (by simp);omega;simp
 |3=>by obtain⟨x,rfl,f⟩:=Kr hd;have:=BT.tl x;simp only[A8,Hi];omega
 |4=>by have H:=(Af hd).l;have a:=VF (d:=BO (JA w));have b:=Aw (n:=(w.length:Int)/2+2) (by omega);simp only[A8,AW,AP,A5];omega
 |5=>by have a:=Np (sep:=[124]) (VR (p:=EB w));have b:=Wt (p:=EB w);have c:=XP (p:=EB w);have e:(E9 (EB w)).length*(160+[124].length)<=8*161:=Nat.mul_le_mul (by omega) (by simp);simp only[A8,Jd];omega
 |6=>by have H:=WG hd;simp only[A8,Fo];split;rename_i h;split;simp;have a:=Np (sep:=[32]) (Ou h (E3 w).length (Nat.le_refl _));have b:=O9 (m:=E3 w) (E3 w).length;have e:(BW (E3 w) (E3 w).length).length*(41+[32].length)<=16*42:=Nat.mul_le_mul (by omega) (by simp);omega;simp
 |7=>by have H:=(Af hd).l;have a:=Sx (w:=w);have c:=K8 (r:=C6 w) (λj _=>by have:=Uc H j;omega) (C6 w).length (Nat.le_refl _);simp only[A8];omega
 |8=>by have H:=(Af hd).l;have a:=Lm hd;have c:=Aw (n:=CN w) (by omega);have e:=Aw (n:=(w.length:Int)/2) (by omega);simp only[A8,AW,AP,A5];omega
 |i+9=>by simp[A8]
theorem Uk{i:Nat}:(AF Ai i).length<=12:=KN (b:=12) (ws:=Ai) (by decide)
theorem RN{w:List Nat}(hd:AK w=true):∀i:Nat,(G8 w i).length<=5+i*5020
 |0=>by simp[G8]
 |i+1=>by have h:=RN hd i;have H:=Q6 hd i;have a:=Uk (i:=i);simp only[G8,AW,AP,A5];omega
theorem ABR:∀i:Nat,i<9->BG (AF Ai i)=i
 |0,_=>by decide
 |1,_=>by decide
 |2,_=>by decide
 |3,_=>by decide
 |4,_=>by decide
 |5,_=>by decide
 |6,_=>by decide
 |7,_=>by decide
 |8,_=>by decide
 |i+9,h=>absurd h (by omega)
theorem kl_i[HA K]{w:List Nat}(h:w.length<=1048576):K 526 [.s w] [.s (if AK w=true then G8 w 9 else [])]:=by
 refine qw I526 ?_
 cases hd:AK w
 .repeat(refine cB (Bz (by omega)) ?_;try simp(disch:=try exact dV) only[AD,hd])
  rfl
 repeat(refine cB (Bz (by omega)) ?_;try simp(disch:=try exact dV) only[AD,hd])
 refine cB AAZ ?_;have e:Ai.length=9:=rfl;refine wW ?_;refine AN (λ_=>True) (λi=>[.s w,.u,.s (G8 w i),.u,.u,.u,LS Ai,.n 9,.n i,.u]) 9 trivial rfl (λi hi _=>?_) (λ_=>?_);have b1:=Q6 hd i;have b:=Uk (i:=i);have B:=RN hd i;refine wW ?_;refine cB (ACK hd i hi) ?_;simp(disch:=try exact dV) only[AD,VY];have kl:=IM (K:=K) (ws:=[G8 w i,AF Ai i,[91]++A8 w i++[93]]) (by simp) (by simp;omega);refine cB kl ?_;simp(disch:=try exact dV) only[AD,XJ];rfl;exact wZ
theorem kl_s[HA K]{w:List Nat}(h:w.length<=1048576):K 525 [.s w] [.s (if AK w=true then G8 w 9 else [])]:=by
 refine qw I525 ?_
 cases hd:AK w
 .repeat(refine cB (Bu (by omega)) ?_;try simp(disch:=try exact dV) only[AD,hd])
  rfl
 repeat(refine cB (Bu (by omega)) ?_;try simp(disch:=try exact dV) only[AD,hd])
 refine cB Js ?_;have e:Ai.length=9:=rfl;refine wW ?_;refine AN (λ_=>True) (λi=>[.s w,.u,.s (G8 w i),LS Ai,.n i,.u,.u,.u]) 9 trivial rfl (λi hi _=>?_) (λ_=>?_);have b1:=Q6 hd i;have b:=Uk (i:=i);have B:=RN hd i;refine wW ?_;refine cW (APU hd i hi) ?_;simp[G8];exact wZ
end Go.Cat
namespace Go.Cat
inductive AT where
 |nil
 |node(b:Nat)(l r:AT)
namespace AT
def ptr:AT->Value
 |nil=>.pointer none
 |node b _ _=>.pointer (some ⟨b,0,none⟩)
def In(h:Array Obj):AT->Prop
 |nil=>True
 |node b l r=>(∃e,h[b]?=some (.cells #[l.ptr,r.ptr] e (0,0)))/\l.In h/\r.In h
def bl:AT->List Nat
 |nil=>[]
 |node b l r=>b::(l.bl++r.bl)
def size:AT->Nat
 |nil=>0
 |node _ l r=>l.size+r.size+1
def find:AT->Int->AT
 |nil,_=>nil
 |node b l r,v=>if v<0 then nil else if v<l.size then l.find v else if v=l.size then node b l r else r.find (v-l.size-1)
def HY:AT->Int->AT->AT
 |nil,_,_=>nil
 |node b l r,v,x=>if v<0 then node b l r else if v<l.size then node b (l.HY v x) r else if v=l.size then x else node b l (r.HY (v-l.size-1) x)
theorem In.mono{h a:Array Obj}:∀{T:AT},T.In h->(∀b∈T.bl,a[b]?=h[b]?)->T.In a
 |nil,_,_=>trivial
 |node b l r,⟨⟨e,c⟩,f,g⟩,s=>⟨⟨e,by rw[s b (by simp[bl]),c]⟩,f.mono λx H=>s x (by simp[bl,H]),g.mono λx H=>s x (by simp[bl,H])⟩
theorem In.lt{h:Array Obj}:∀{T:AT},T.In h->∀b∈T.bl,b<h.size
 |node b l r,⟨⟨e,a⟩,c,f⟩,x,H=>by simp only[bl,A6,A9]at H;rcases H with rfl|H|H;exact Cu a;exact c.lt x H;exact f.lt x H
theorem Md{h:Array Obj}:∀{T:AT}{v:Int},T.In h->(T.find v).In h
 |nil,_,_=>trivial
 |node b l r,v,hi=>by simp only[find];split;trivial;split;exact Md hi.2.1;split;exact hi;exact Md hi.2.2
theorem KW:∀{T:AT}{v:Int}{x:Nat},x∈(T.find v).bl->x∈T.bl
 |nil,_,_,h=>h
 |node b l r,v,x,h=>by simp only[find]at h;split at h;simp[bl]at h;split at h;simp[bl,KW h];split at h;exact h;simp[bl,KW h]
theorem Ti:∀{T:AT}{v:Int},T.bl.Nodup->(T.find v).bl.Nodup
 |nil,_,h=>h
 |node b l r,v,h=>by simp only[find];have H:=h;simp only[bl,List.nodup_cons,List.nodup_append]at H;split;exact List.nodup_nil;split;exact Ti H.2.1;split;exact h;exact Ti H.2.2.1
theorem Qy:∀{T:AT}{v:Int}{x:AT},x.ptr=(T.find v).ptr->T.find v≠nil->(T.HY v x).ptr=T.ptr
 |nil,_,_,_,h=>(h rfl).elim
 |node b l r,v,x,H,h=>by simp only[HY];simp only[find]at H h;split;rfl;rename_i a;rw[if_neg a]at H h;split;rfl;rename_i c;rw[if_neg c]at H h;split;rename_i e;rw[if_pos e]at H;exact H;rfl
theorem Tm{h j:Array Obj}{x:AT}:∀{T:AT}{v:Int},T.In h->T.bl.Nodup->T.find v≠nil->x.In j->x.ptr=(T.find v).ptr->(∀b∈T.bl,b∉(T.find v).bl->j[b]?=h[b]?)->(T.HY v x).In j
 |nil,_,_,_,h,_,_,_=>(h rfl).elim
 |node b l r,v,hi,F,H,k,a,s=>by simp only[bl,List.nodup_cons,A9,not_or,List.nodup_append]at F;obtain⟨⟨I,J⟩,L,M,N⟩:=F;simp only[HY];simp only[find]at H a s;by_cases o:v<0;rw[if_pos o]at H;exact(H rfl).elim;rw[if_neg o]at H a s|-;by_cases B:v<l.size;rw[if_pos B]at H a s|-;obtain⟨⟨e,g⟩,G,i⟩:=hi;refine⟨⟨e,?_⟩,Tm G L H k a λy c f=>s y (by simp[bl,c]) f,i.mono λy c=>s y (by simp[bl,c]) λq=>N y (KW q) y c rfl⟩;rw[s b (by simp[bl]) (λq=>I (KW q)),g,Qy a H];rw[if_neg B]at H a s|-;by_cases C:v=l.size;rw[if_pos C];exact k;rw[if_neg C]at H a s|-;obtain⟨⟨e,g⟩,G,i⟩:=hi;refine⟨⟨e,?_⟩,G.mono λy c=>s y (by simp[bl,c]) λq=>N y c y (KW q) rfl,Tm i M H k a λy c f=>s y (by simp[bl,c]) f⟩;rw[s b (by simp[bl]) (λq=>J (KW q)),g,Qy a H]
def sh:AT->BT
 |nil=>.lf
 |node _ l r=>.nd l.sh r.sh
theorem IU:∀T:AT,T.size=T.sh.n
 |nil=>rfl
 |node _ l r=>by simp only[size,sh,BT.n,IU l,IU r]
theorem rd{fid:Nat->Nat}{h:Array Obj}{Z:Nat->Prop}:∀{T:AT},T.In h->(∀b∈T.bl,¬Z b)->Rd fid h Z T.sh.d T.ptr
 |nil,_,_=>by simp[sh,BT.d,ptr,Rd]
 |node b l r,⟨⟨e,c⟩,f,g⟩,a=>by simp only[sh,BT.d,ptr,Rd];refine⟨b,0,_,e,(0,0),rfl,c,a b (by simp[bl]),?_⟩;simp only[List.drop_zero,AS];exact⟨rd f λx H=>a x (by simp[bl,H]),rd g λx H=>a x (by simp[bl,H]),trivial⟩
end AT
theorem BT.M8:∀(x:BT),∀c∈x.t,c<256
 |.lf,c,h=>by simp[BT.t]at h;omega
 |.nd l r,c,h=>by simp only[BT.t,A6,A9,Di,or_false]at h;rcases h with rfl|h|h|rfl;omega;exact BT.M8 l c h;exact BT.M8 r c h;omega
def BB:BT->Int->Option BT
 |.lf,_=>none
 |.nd l r,v=>if v<0 then none else if v<l.n then(BB l v).map λx=>.nd x r else if v=l.n then(match l with
   |.lf=>none
   |.nd a b=>some (.nd a (.nd b r)))else(BB r (v-l.n-1)).map λx=>.nd l x
def CW:BT->Int->Option BT
 |.lf,_=>none
 |.nd l r,v=>if v<0 then none else if v<l.n then(CW l v).map λx=>.nd x r else if v=l.n then(match r with
   |.lf=>none
   |.nd b c=>some (.nd (.nd l b) c))else(CW r (v-l.n-1)).map λx=>.nd l x
theorem Fx:∀{x:BT}{v:Int}{y:BT},BB x v=some y->y.n=x.n
 |.lf,_,_,h=>by cases h
 |.nd l r,v,y,h=>by
  simp only[BB]at h;split at h
  cases h;split at h;obtain⟨z,H,rfl⟩:=Ag.1 h;simp only[BT.n,Fx H];split at h
  cases l with
  |lf=>cases h
  |nd a b=>
   simp only[AL]at h
   subst h
   simp only[BT.n];omega
  obtain⟨z,H,rfl⟩:=Ag.1 h;simp only[BT.n,Fx H]
theorem L9:∀{x:BT}{v:Int}{y:BT},CW x v=some y->y.n=x.n
 |.lf,_,_,h=>by cases h
 |.nd l r,v,y,h=>by
  simp only[CW]at h;split at h
  cases h;split at h;obtain⟨z,H,rfl⟩:=Ag.1 h;simp only[BT.n,L9 H];split at h
  cases r with
  |lf=>cases h
  |nd a b=>
   simp only[AL]at h
   subst h
   simp only[BT.n];omega
  obtain⟨z,H,rfl⟩:=Ag.1 h;simp only[BT.n,L9 H]
open AT in
theorem UQ:∀{T:AT}{v:Int},T.find v=nil->BB T.sh v=none
 |nil,_,_=>rfl
 |node b l r,v,h=>by simp only[find]at h;simp only[sh,BB,<-IU];split;rfl;rename_i c;rw[if_neg c]at h;split;rename_i H;rw[if_pos H]at h;rw[UQ h]<;>rfl;rename_i H;rw[if_neg H]at h;split;rename_i a;rw[if_pos a]at h;cases h;rename_i a;rw[if_neg a]at h;rw[UQ h]<;>rfl
open AT in
theorem ZA:∀{T:AT}{v:Int}{b:Nat}{r:AT},T.find v=node b nil r->BB T.sh v=none
 |nil,_,_,_,h=>by simp[find]at h
 |node b l r,v,B,R,h=>by simp only[find]at h;simp only[sh,BB,<-IU];split;rfl;rename_i c;rw[if_neg c]at h;split;rename_i H;rw[if_pos H]at h;rw[ZA h]<;>rfl;rename_i H;rw[if_neg H]at h;split;rename_i a;rw[if_pos a]at h;injection h with _ e _;subst e;rfl;rename_i a;rw[if_neg a]at h;rw[ZA h]<;>rfl
open AT in
theorem Uu:∀{T:AT}{v:Int}{b b1 nb:Nat}{a2 b2 c2:AT},T.find v=node b (node b1 a2 b2) c2->BB T.sh v=some (T.HY v (node b a2 (node nb b2 c2))).sh
 |nil,_,_,_,_,_,_,_,h=>by simp[find]at h
 |node B l r,v,b,b1,nb,a2,b2,c2,h=>by simp only[find]at h;simp only[sh,BB,<-IU,HY];split;rename_i H;rw[if_pos H]at h;cases h;rename_i H;rw[if_neg H]at h;split;rename_i a;rw[if_pos a]at h;rw[Uu (nb:=nb) h]<;>rfl;rename_i a;rw[if_neg a]at h;split;rename_i c;rw[if_pos c]at h;injection h with _ e f;subst e f;rfl;rename_i c;rw[if_neg c]at h;rw[Uu (nb:=nb) h]<;>rfl
open AT in
theorem Y5:∀{T:AT}{v:Int},T.find v=nil->CW T.sh v=none
 |nil,_,_=>rfl
 |node b l r,v,h=>by simp only[find]at h;simp only[sh,CW,<-IU];split;rfl;rename_i c;rw[if_neg c]at h;split;rename_i H;rw[if_pos H]at h;rw[Y5 h]<;>rfl;rename_i H;rw[if_neg H]at h;split;rename_i a;rw[if_pos a]at h;cases h;rename_i a;rw[if_neg a]at h;rw[Y5 h]<;>rfl
open AT in
theorem Y1:∀{T:AT}{v:Int}{b:Nat}{l:AT},T.find v=node b l nil->CW T.sh v=none
 |nil,_,_,_,h=>by simp[find]at h
 |node b l r,v,B,R,h=>by simp only[find]at h;simp only[sh,CW,<-IU];split;rfl;rename_i c;rw[if_neg c]at h;split;rename_i H;rw[if_pos H]at h;rw[Y1 h]<;>rfl;rename_i H;rw[if_neg H]at h;split;rename_i a;rw[if_pos a]at h;injection h with _ _ e;subst e;rfl;rename_i a;rw[if_neg a]at h;rw[Y1 h]<;>rfl
open AT in
theorem Ul:∀{T:AT}{v:Int}{b b1 nb:Nat}{a2 b2 c2:AT},T.find v=node b a2 (node b1 b2 c2)->CW T.sh v=some (T.HY v (node b (node nb a2 b2) c2)).sh
 |nil,_,_,_,_,_,_,_,h=>by simp[find]at h
 |node B l r,v,b,b1,nb,a2,b2,c2,h=>by simp only[find]at h;simp only[sh,CW,<-IU,HY];split;rename_i H;rw[if_pos H]at h;cases h;rename_i H;rw[if_neg H]at h;split;rename_i a;rw[if_pos a]at h;rw[Ul (nb:=nb) h]<;>rfl;rename_i a;rw[if_neg a]at h;split;rename_i c;rw[if_pos c]at h;injection h with _ e f;subst e f;rfl;rename_i c;rw[if_neg c]at h;rw[Ul (nb:=nb) h]<;>rfl
open Go.RowKit in
section
open Go.RowKit
def Gr(w w':World):Prop:=w.heap.size<=w'.heap.size/\(∀b,b<w.heap.size->w'.heap[b]?=w.heap[b]?)/\w'.os=w.os/\w'.tape=w.tape/\w'.output=w.output
theorem Gr.refl(w:World):Gr w w:=⟨Nat.le_refl _,λ_ _=>rfl,rfl,rfl,rfl⟩
theorem Gr.trans{a b c:World}(h:Gr a b)(k:Gr b c):Gr a c:=
 ⟨Nat.le_trans h.1 k.1,λx H=>(k.2.1 x (Nat.lt_of_lt_of_le H h.1)).trans (h.2.1 x H),k.2.2.1.trans h.2.2.1,k.2.2.2.1.trans h.2.2.2.1,k.2.2.2.2.trans h.2.2.2.2⟩
theorem Gr.drew(w:World):Gr w w.drew:=⟨Nat.le_refl _,λ_ _=>rfl,rfl,rfl,rfl⟩
theorem Gr.alloc(w:World)(o:Obj):Gr w (w.alloc o):=by have h:=EM w o (λ_=>False);exact⟨h.size,λb H=>h.same b H id,rfl,rfl,rfl⟩
theorem AT.Jn(T:AT):∃u,T.ptr=.pointer u:=by cases T<;>exact⟨_,rfl⟩
theorem ABT{s:List Nat}{S:ByteArray}(b:BS s=.string S)(g:∀c∈s,c<256):S.size=s.length/\∀i,(h:i<S.size)->∀c,s[i]?=some c->(S[i].toNat:Int)=c:=by
 unfold BS at b;injection b with b;subst b;have a:(ByteArray.mk (s.map λc=>UInt8.ofNat c).toArray).size=s.length:=by simp[ByteArray.size]
 refine⟨a,λi h c f=>?_⟩;have hi:i<s.length:=by rw[a]at h;exact h
 have e:s[i]=c:=by simpa[hi]using f
 have H:=g _ (List.getElem_mem hi);show((((s.map λc=>UInt8.ofNat c).toArray)[i]'(by simpa using hi)).toNat:Int)=c;simp only[List.getElem_toArray,List.getElem_map];rw[e]at H|-;simp[UInt8.toNat_ofNat,Nat.mod_eq_of_lt H]
theorem KD{w:World}{b:Nat}{l r:AT}(h:(AT.node b l r).In w.heap):w.cell? ⟨b,0,none⟩=some l.ptr/\w.cell? ⟨b,1,none⟩=some r.ptr/\w.frozen? ⟨b,0,none⟩=false/\w.frozen? ⟨b,1,none⟩=false:=by obtain⟨⟨e,h⟩,_⟩:=h;simp[World.cell?,World.frozen?,h]
theorem QM{w w':World}{T:AT}(h:T.In w.heap)(g:Gr w w'):T.In w'.heap:=h.mono λb H=>g.2.1 b (h.lt b H)
theorem B6{p:Prop}(h:p):Hid p:=h
def Mu(P:Program)(f:Nat):Prop:=∀(T:AT)(w:World),T.In w.heap->T.sh.n<=8->Calls P f #[T.ptr] w λe w'=>e=.returned (.int .i64 (T.size:Int))/\Hid (Gr w w')
def TXT(P:Program)(f:Nat):Prop:=∀(T:AT)(w:World),T.In w.heap->T.sh.n<=8->Calls P f #[T.ptr] w λe w'=>e=.returned (BS T.sh.t)/\Hid (Gr w w')
theorem Mz{w:World}{b k:Nat}{cs:Array Value}{e:TypeId}{u:Value}(h:w.heap[b]?=some (.cells cs e (0,0))):(w.setCell ⟨b,k,none⟩ u).heap[b]?=some (.cells (cs.setIfInBounds k u) e (0,0))/\(∀x,x≠b->(w.setCell ⟨b,k,none⟩ u).heap[x]?=w.heap[x]?)/\(w.setCell ⟨b,k,none⟩ u).heap.size=w.heap.size:=by refine⟨?_,λx H=>?_,by simp[World.setCell]⟩;simp only[World.setCell,Array.getElem?_modify,if_true,h];rfl;simp only[World.setCell,Array.getElem?_modify];rw[if_neg (Ne.symm H)]
theorem AK0{P:Program}{fid:Nat->Nat}{f:Nat}{T:AT}{r:D}(h:HX P fid f ⟨[.v],[.v],[],none⟩ [T.sh.d] [r])(w:World)(hi:T.In w.heap):
  Calls P f #[T.ptr] w λe w'=>∃v,e=.returned v/\Rd fid w'.heap (λ_=>False) r v/\Gr w w':=by
 refine(h w (λ_=>False) [T.ptr] [] List.nodup_nil (λb H=>H.elim) ?_ trivial).mono ?_
 .simp only[BX,AE];exact⟨[],[],rfl,⟨rfl,AT.rd hi λb _ x=>by simp at x⟩,rfl⟩
 .rintro e w' ⟨v,vs,B,rfl,o,l,a,g,i,j,_,_,c⟩;match vs,l with
  |[V],_=>
   have s:v=V:=o
   subst s
   simp only[Sg.outs,List.map_nil,List.append_nil,BX,AE]at c
   obtain⟨B1,B2,rfl,⟨rfl,k⟩,rfl⟩:=c
   refine⟨v,rfl,k.mono λb _ q=>q.elim,a.size,λb H=>a.same b H (by simp),g,i,j⟩
theorem SK{P:Program}{fid:Nat->Nat}{f:Nat}{s r:List Nat}{v:Int}{o:Bool}(q:(∀c∈r,c<256)/\r.length<=9223372036854775807)
  (h:(∀c∈s,c<256)/\s.length<=9223372036854775807->∀w,Calls P f #[BS s,.int .i64 v] w λe w'=>e=.returned (.tuple #[BS r,.bool o])/\Gr w w'):HX P fid f ⟨[.v,.v],[.v,.v],[],none⟩ [.s s,.n v] [.s r,.b o]:=by
 intro w X args B l hX H _;match args,H with
 |[],H=>simp[BX]at H
 |[_],H=>simp[BX]at H
 |_::_::_::_,H=>simp[BX]at H
 |[V,v1],H=>
  simp only[BX,AE,Rd]at H
  obtain⟨B1,B2,rfl,⟨rfl,rfl,x⟩,C,F,rfl,⟨rfl,rfl⟩,rfl⟩:=H
  refine(h x w).mono ?_
  rintro e w' ⟨rfl,g,G,a,i,j⟩
  refine⟨_,[BS r,.bool o],[],rfl,rfl,rfl,⟨g,λb k _=>G b k⟩,a,i,j,List.nodup_nil,by simp,?_⟩
  simp only[Sg.outs,List.map_nil,List.append_nil,BX,AE,Rd]
  exact⟨[],[],rfl,⟨rfl,trivial,q⟩,[],[],rfl,⟨rfl,trivial⟩,rfl⟩
end
section
open Go.RowKit
theorem AXQ{P:Program}{fid:Nat->Nat}{f:Nat}{s:List Nat}{v:Int}(o:(∀c∈s,c<256)/\s.length<=9223372036854775807)(h:HX P fid f ⟨[.v,.v],[.v,.v],[],none⟩ [.s s,.n v] [.z,.z])(w:World):
  Calls P f #[BS s,.int .i64 v] w λe w'=>e=.returned (.tuple #[.pointer none,.pointer none])/\Hid (Gr w w'):=by
 refine(h w (λ_=>False) [BS s,.int .i64 v] [] List.nodup_nil (λb H=>H.elim) ?_ trivial).mono ?_
 .simp only[BX,AE,Rd];exact⟨[],[],rfl,⟨rfl,trivial,o⟩,[],[],rfl,⟨rfl,trivial⟩,rfl⟩
 .rintro e w' ⟨v,vs,B,rfl,q,l,a,i,j,k,_,_,g⟩;match vs,l with
  |[V,v1],_=>
   have x:v=.tuple #[V,v1]:=q
   subst x
   simp only[Sg.outs,List.map_nil,List.append_nil,BX,AE,Rd]at g
   obtain⟨B1,B2,rfl,⟨rfl,rfl⟩,C,F,rfl,⟨rfl,rfl⟩,rfl⟩:=g
   exact⟨rfl,a.size,λb H=>a.same b H (by simp),i,j,k⟩
end
class Da(K:Nat->List D->List D->Prop):Prop where
 rr:∀(x:BT)(v:Int),x.n<=8->-1000000000<=v->v<=9223372036854775807->K 200 [.s x.t,.n v] [.s ((BB x v).elim [] BT.t),.b (BB x v).isSome]
 rl:∀(x:BT)(v:Int),x.n<=8->-1000000000<=v->v<=9223372036854775807->K 202 [.s x.t,.n v] [.s ((CW x v).elim [] BT.t),.b (CW x v).isSome]
 rrn:∀(s:List Nat)(v:Int),Az s=false->K 200 [.s s,.n v] [.s [],.b false]
 rln:∀(s:List Nat)(v:Int),Az s=false->K 202 [.s s,.n v] [.s [],.b false]
variable{K:Nat->List D->List D->Prop}
theorem Ai8[HA K]{s:List Nat}{v:Int}(h:Az s=false):K 210 [.s s,.n v] [.z,.z]:=by refine qw I210 ?_;exact cZ (TH h)
end Go.Cat
