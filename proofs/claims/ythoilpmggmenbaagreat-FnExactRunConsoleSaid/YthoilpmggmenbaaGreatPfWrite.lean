/-
 Objects of paths as texts: WriteAs of both sides.
-/
import Derived.Test.YthoilpmggmenbaaGreatPfWr1
import Derived.Test.YthoilpmggmenbaaGreatPfSrt
set_option linter.unusedSimpArgs false
set_option linter.unusedVariables false
namespace Go.Cat
variable{K:Nat->List D->List D->Prop}
def Ah:List (List Nat):=[[112,97,116,104],[98,114,97,99,107,101,116,115],[112,108,97,110,101],[98,105,110,97,114,121],[100,105,97,103,111,110,97,108,115],[112,97,114,116,105,116,105,111,110],[109,97,116,99,104,105,110,103],[112,101,114,109,117,116,97,116,105,111,110],[114,97,110,107]]
theorem AKB[HA K]:K 14 [] [LS Ah]:=by refine qb I14 ?_;simp(disch:=omega) only[AD,RO];rfl
theorem Jj[HA K]:K 13 [] [LS Ah]:=by refine qb I13 ?_;simp(disch:=omega) only[AD,RO];rfl
theorem AG6[HA K]{w:List Nat}(hd:AK w=true):K 535 [.s w] [.s (Ie w).t,.b true]:=by obtain⟨x,rfl,h⟩:=Jp hd;have l:=BT.pl x;rw[IM];refine qw I535 ?_;repeat(refine cB (by first|exact Bv (by omega)|exact Oo h|exact K4 (by omega)|fail) ?_;try simp(disch:=omega) only[AD,hd])
theorem ARK[HA K]{w:List Nat}(hd:AK w=true):K 530 [.s w] [.s (Ie w).t,.b true]:=by obtain⟨x,rfl,h⟩:=Jp hd;have l:=BT.pl x;rw[IM];refine qw I530 ?_;repeat(refine cB (by first|exact Br (by omega)|exact Oy h|fail) ?_;try simp(disch:=omega) only[AD,hd])
noncomputable def A8(w:List Nat):Nat->List Nat
 |0=>w
 |1=>Cv w
 |2=>IT (Cp w)
 |3=>(Ie w).t
 |4=>AQ ((w.length:Int)/2+2)++[58,32]++Cc (BO (Ie w))
 |5=>JI (Dw w)
 |6=>Fg (E1 w)
 |7=>DS (CZ w) (CZ w).length
 |8=>AQ ((w.length:Int)/2)++[58]++AQ (CI w)
 |_=>[]
theorem AMY{x:BT}(h:x.n<=8):(BO x).length<=7:=by have:=Pg (x:=x) (l:=0) (r:=(x.n:Int)+1);rw[AQN];omega
theorem X3{d:List (List Int)}:(Cc d).length<=1000:=by
 unfold Cc;split;simp;split;simp;split;rename_i _ H a;have b:∀x∈Ct d,x.length<=40:=by intro x c;obtain⟨r,h,rfl⟩:=List.mem_map.1 c;obtain⟨f,q,Q⟩:=Og (Ao.1 a r h);have b1:=A5.1 q;have b2:=A5.1 Q;have l:=Ax (n:=AB r 0) (by omega);have L:=Ax (n:=AB r 1) (by omega);simp only[A4];omega
 have e:=IH (sep:=[32]) b (Ct d).length;have:=Tp (d:=d);simp only[glue,AO,A6]at*;omega;simp
theorem AbM[HA K]{w:List Nat}(hd:AK w=true):PP w (E1 w)/\K 373 [.s w] [LI (E1 w)]:=by obtain⟨_,⟨m,rfl,h⟩,k⟩:=Q3 (K:=K) hd;rw[Qb h];exact⟨h,k⟩
theorem WC[HA K]{w:List Nat}(hd:AK w=true):K 373 [.s w] [LI (E1 w)]/\K 356 [.s w] [LI (E1 w),.b true]:=by obtain⟨h,k⟩:=AbM (K:=K) hd;exact⟨k,Ws hd h⟩
theorem YY{w:List Nat}(hd:AK w=true):(E1 w).length<=16:=by have H:=(Af hd).l;unfold E1;split;rename_i h;have:=h.choose_spec.1;omega;simp
theorem Aj9[HA K]{w:List Nat}(hd:AK w=true):K 524 [.s [112,97,116,104],.s w] [.s (A8 w 0),.b true]:=by
 have h:=(Af hd).l;refine qw Hr ?_;repeat(refine cB (Bv (by omega)) ?_;try simp(disch:=omega) only[AD,hd,Ak,Ai,Al])
 all_goals rfl
theorem AiQ[HA K]{w:List Nat}(hd:AK w=true):K 524 [.s [98,114,97,99,107,101,116,115],.s w] [.s (A8 w 1),.b true]:=by
 have h:=(Af hd).l;refine qw Hr ?_;repeat(refine cB (by first|exact Bv (by omega)|exact AKJ hd|fail) ?_;try simp(disch:=omega) only[AD,hd,Ak,Ai,Al])
 all_goals rfl
theorem AV2[HA K]{w:List Nat}(hd:AK w=true):K 524 [.s [112,108,97,110,101],.s w] [.s (A8 w 2),.b true]:=by
 have H:=(Af hd).l;have h:=Nq hd;refine qw Hr ?_;repeat(refine cB (by first|exact Bv (by omega)|exact ABX hd|exact AXH (by omega)|fail) ?_;try simp(disch:=omega) only[AD,hd,Ak,Ai,Al])
 all_goals rfl
theorem AjL[HA K]{w:List Nat}(hd:AK w=true):K 524 [.s [98,105,110,97,114,121],.s w] [.s (A8 w 3),.b true]:=by
 have h:=(Af hd).l;refine qw Hr ?_;repeat(refine cB (by first|exact Bv (by omega)|exact AG6 hd|fail) ?_;try simp(disch:=omega) only[AD,hd,Ak,Ai,Al])
 all_goals rfl
theorem AZ1[HA K]{w:List Nat}(hd:AK w=true):K 524 [.s [100,105,97,103,111,110,97,108,115],.s w] [.s (A8 w 4),.b true]:=by
 have g:=(Af hd).l;obtain⟨x,rfl,h⟩:=Jp hd;have c:=BT.pl x;have a:=AMY h;have H:=X3 (d:=BO x);have f:=Ax (n:=(x.p.length:Int)/2+2) (by omega);have k:=SS (K:=K) (d:=BO x) (by omega) (λr e=>by have:=NB r (Wg.1 e);simp only[Ce]at this;omega);refine qw Hr ?_;repeat(refine cB (by first|exact Bv (by omega)|exact Oo h|exact K4 (by omega)|exact SH h|exact C4 (by omega)|exact k|fail) ?_;try simp(disch:=try exact dV) only[AD,hd,Ak,Ai,Al])
 simp only[A8,IM]
theorem AZE[HA K]{w:List Nat}(hd:AK w=true):K 524 [.s [112,97,114,116,105,116,105,111,110],.s w] [.s (A8 w 5),.b true]:=by
 have H:=(Af hd).l;have h:=Oc hd;refine qw Hr ?_;repeat(refine cB (by first|exact Bv (by omega)|exact(RT (K:=K) hd).1|exact Ww (by omega)|fail) ?_;try simp(disch:=omega) only[AD,hd,Ak,Ai,Al])
 all_goals rfl
theorem AiE[HA K]{w:List Nat}(hd:AK w=true):K 524 [.s [109,97,116,99,104,105,110,103],.s w] [.s (A8 w 6),.b true]:=by
 have H:=(Af hd).l;have h:=YY hd;refine qw Hr ?_;repeat(refine cB (by first|exact Bv (by omega)|exact(WC (K:=K) hd).1|exact Yl (by omega)|fail) ?_;try simp(disch:=omega) only[AD,hd,Ak,Ai,Al])
 all_goals rfl
theorem AdB[HA K]{w:List Nat}(hd:AK w=true):K 524 [.s [112,101,114,109,117,116,97,116,105,111,110],.s w] [.s (A8 w 7),.b true]:=by
 have H:=(Af hd).l;have a:=RM (w:=w);have h:=WM H;refine qw Hr ?_;repeat(refine cB (by first|exact Bv (by omega)|exact Ai8 hd|fail) ?_;try simp(disch:=omega) only[AD,hd,Ak,Ai,Al])
 refine AN (λ_=>True) (λi=>[.u,.u,.u,.u,.u,.u,.u,.u,.s (DS (CZ w) i),.u,.u,.u,.u,.u,.u,.u,.u,.u,.u,.u,LI (CZ w),.n (CZ w).length,.n i,.u,.u]) (CZ w).length trivial rfl (λi hi _=>?_) (λ_=>?_);have c:=h i;have e:=K2 (r:=CZ w) (λj _=>by have:=h j;omega) i (by omega);have f:=Ax (n:=AB (CZ w) i+1) (by omega);refine wW ?_;exact cZ (C4 (by omega));exact wZ
theorem AX2[HA K]{w:List Nat}(hd:AK w=true):K 524 [.s [114,97,110,107],.s w] [.s (A8 w 8),.b true]:=by
 have c:=(Af hd).l;have h:=Ls hd;have H:=Ax (n:=CI w) (by omega);have a:=Ax (n:=(w.length:Int)/2) (by omega);refine qw Hr ?_;repeat(refine cB (by first|exact Bv (by omega)|exact C4 (by omega)|exact ACG (by omega)|exact C4 (by omega)|fail) ?_;try simp(disch:=try exact dV) only[AD,hd,Ak,Ai,Al])
 all_goals rfl
theorem Af7[HA K]{w:List Nat}(hd:AK w=true):K 523 [.s [112,97,116,104],.s w] [.s (A8 w 0),.b true]:=by
 have h:=(Af hd).l;refine qw Hd ?_;repeat(refine cB (Br (by omega)) ?_;try simp(disch:=omega) only[AD,hd,Ak,Ai,Al])
 all_goals rfl
theorem AWY[HA K]{w:List Nat}(hd:AK w=true):K 523 [.s [98,114,97,99,107,101,116,115],.s w] [.s (A8 w 1),.b true]:=by
 have h:=(Af hd).l;refine qw Hd ?_;repeat(refine cB (by first|exact Br (by omega)|exact AP7 hd|fail) ?_;try simp(disch:=omega) only[AD,hd,Ak,Ai,Al])
 all_goals rfl
theorem Ac9[HA K]{w:List Nat}(hd:AK w=true):K 523 [.s [112,108,97,110,101],.s w] [.s (A8 w 2),.b true]:=by
 have H:=(Af hd).l;have h:=Nq hd;refine qw Hd ?_;repeat(refine cB (by first|exact Br (by omega)|exact AOE hd|exact AUW (by omega)|fail) ?_;try simp(disch:=omega) only[AD,hd,Ak,Ai,Al])
 all_goals rfl
theorem AZ9[HA K]{w:List Nat}(hd:AK w=true):K 523 [.s [98,105,110,97,114,121],.s w] [.s (A8 w 3),.b true]:=by
 have h:=(Af hd).l;refine qw Hd ?_;repeat(refine cB (by first|exact Br (by omega)|exact ARK hd|fail) ?_;try simp(disch:=omega) only[AD,hd,Ak,Ai,Al])
 all_goals rfl
theorem AcV[HA K]{w:List Nat}(hd:AK w=true):K 523 [.s [100,105,97,103,111,110,97,108,115],.s w] [.s (A8 w 4),.b true]:=by
 have g:=(Af hd).l;obtain⟨x,rfl,h⟩:=Jp hd;have c:=BT.pl x;have a:=AMY h;have H:=X3 (d:=BO x);have f:=Ax (n:=(x.p.length:Int)/2+2) (by omega);have k:=AG2 (K:=K) (d:=BO x) (by omega) (λr e=>by have:=NB r (Wg.1 e);simp only[Ce]at this;omega);refine qw Hd ?_;repeat(refine cB (by first|exact Br (by omega)|exact Oy h|exact S0 h|exact By (by omega)|exact k|fail) ?_;try simp(disch:=try exact dV) only[AD,hd,Ak,Ai,Al])
 simp only[A8,IM]
theorem AWE[HA K]{w:List Nat}(hd:AK w=true):K 523 [.s [112,97,114,116,105,116,105,111,110],.s w] [.s (A8 w 5),.b true]:=by
 have H:=(Af hd).l;have h:=Oc hd;refine qw Hd ?_;repeat(refine cB (by first|exact Br (by omega)|exact Zu hd|exact AWV (by omega)|fail) ?_;try simp(disch:=omega) only[AD,hd,Ak,Ai,Al])
 all_goals rfl
theorem AY3[HA K]{w:List Nat}(hd:AK w=true):K 523 [.s [109,97,116,99,104,105,110,103],.s w] [.s (A8 w 6),.b true]:=by
 have H:=(Af hd).l;have h:=YY hd;refine qw Hd ?_;repeat(refine cB (by first|exact Br (by omega)|exact Ws hd (X1 hd)|exact AfE (by omega)|fail) ?_;try simp(disch:=omega) only[AD,hd,Ak,Ai,Al])
 all_goals rfl
theorem ATI[HA K]{w:List Nat}(hd:AK w=true):K 523 [.s [112,101,114,109,117,116,97,116,105,111,110],.s w] [.s (A8 w 7),.b true]:=by
 have H:=(Af hd).l;have a:=RM (w:=w);have h:=WM H;refine qw Hd ?_;repeat(refine cB (by first|exact Br (by omega)|exact AfZ hd|fail) ?_;try simp(disch:=omega) only[AD,hd,Ak,Ai,Al])
 refine AN (λ_=>True) (λi=>[.u,.u,.u,.u,.u,.u,.u,.u,.u,.u,LI (CZ w),.s (DS (CZ w) i),.n i,.u,.u,.u,.u,.u,.u,.u,.u,.u,.u,.u,.u]) (CZ w).length trivial rfl (λi hi _=>?_) (λ_=>?_);have c:=h i;have e:=K2 (r:=CZ w) (λj _=>by have:=h j;omega) i (by omega);have f:=Ax (n:=AB (CZ w) i+1) (by omega);refine wW ?_;exact cZ (By (by omega));exact wZ
theorem AkJ[HA K]{w:List Nat}(hd:AK w=true):K 523 [.s [114,97,110,107],.s w] [.s (A8 w 8),.b true]:=by
 have c:=(Af hd).l;have h:=Ls hd;have H:=Ax (n:=CI w) (by omega);have a:=Ax (n:=(w.length:Int)/2) (by omega);refine qw Hd ?_;repeat(refine cB (by first|exact Br (by omega)|exact By (by omega)|exact AQ3 (by omega)|exact By (by omega)|fail) ?_;try simp(disch:=try exact dV) only[AD,hd,Ak,Ai,Al])
 all_goals rfl
def BG(k:List Nat):Nat:=Ah.findIdx (·==k)
theorem NV{k:List Nat}(h:BG k<9):k=AG Ah (BG k):=by
 have a:Ah.findIdx (·==k)<Ah.length:=h;have:=List.findIdx_getElem (w:=a);have H:Ah[Ah.findIdx (·==k)]=k:=by simpa using this
 rw[<-H];simp only[BG,AG,BM,Ap];rw[H,FD a,H]<;>rfl
theorem QH{k:List Nat}(h:¬BG k<9){x:List Nat}(H:x∈Ah):(k==x)=false:=by cases hc:(k==x);rfl;exfalso;apply h;exact List.findIdx_lt_length_of_exists ⟨x,H,by simp at hc;simp[hc]⟩
noncomputable def Cz(k w:List Nat):Bool:=AK w&&decide (BG k<9)
noncomputable def Cs(k w:List Nat):List Nat:=if Cz k w=true then A8 w (BG k)else []
theorem AQF[HA K]{w:List Nat}(hd:AK w=true):∀i:Nat,i<9->K 524 [.s (AG Ah i),.s w] [.s (A8 w i),.b true]
 |0,_=>Aj9 hd
 |1,_=>AiQ hd
 |2,_=>AV2 hd
 |3,_=>AjL hd
 |4,_=>AZ1 hd
 |5,_=>AZE hd
 |6,_=>AiE hd
 |7,_=>AdB hd
 |8,_=>AX2 hd
 |i+9,h=>absurd h (by omega)
theorem XS[HA K]{k w:List Nat}(h:w.length<=1000000000):K 524 [.s k,.s w] [.s (Cs k w),.b (Cz k w)]:=by
 cases hd:AK w
 .have e:Cz k w=false:=by simp[Cz,hd]
  have a:Cs k w=[]:=by simp[Cs,e]
  rw[e,a];refine qw Hr ?_;repeat(refine cB (Bv h) ?_;try simp(disch:=omega) only[AD,hd])
 by_cases H:BG k<9;have e:Cz k w=true:=by simp[Cz,hd,H]
 have a:Cs k w=A8 w (BG k):=by simp[Cs,e]
 have:=AQF (K:=K) hd (BG k) H;rw[<-NV H]at this;rw[e,a];exact this;have e:Cz k w=false:=by simp[Cz,hd,H]
 have a:Cs k w=[]:=by simp[Cs,e]
 have o:=λ(x:List Nat)(c:x∈Ah)=>QH H c;have q:=o [112,97,116,104] (by simp[Ah]);have Q:=o [98,114,97,99,107,101,116,115] (by simp[Ah]);have f:=o [112,108,97,110,101] (by simp[Ah]);have g:=o [98,105,110,97,114,121] (by simp[Ah]);have i:=o [100,105,97,103,111,110,97,108,115] (by simp[Ah]);have j:=o [112,97,114,116,105,116,105,111,110] (by simp[Ah]);have l:=o [109,97,116,99,104,105,110,103] (by simp[Ah]);have B:=o [112,101,114,109,117,116,97,116,105,111,110] (by simp[Ah]);have C:=o [114,97,110,107] (by simp[Ah]);rw[e,a];refine qw Hr ?_;repeat(refine cB (Bv h) ?_;try simp(disch:=omega) only[AD,hd,q,Q,f,g,i,j,l,B,C])
theorem AD3[HA K]{w:List Nat}(hd:AK w=true):∀i:Nat,i<9->K 523 [.s (AG Ah i),.s w] [.s (A8 w i),.b true]
 |0,_=>Af7 hd
 |1,_=>AWY hd
 |2,_=>Ac9 hd
 |3,_=>AZ9 hd
 |4,_=>AcV hd
 |5,_=>AWE hd
 |6,_=>AY3 hd
 |7,_=>ATI hd
 |8,_=>AkJ hd
 |i+9,h=>absurd h (by omega)
theorem AEX[HA K]{k w:List Nat}(h:w.length<=1000000000):K 523 [.s k,.s w] [.s (Cs k w),.b (Cz k w)]:=by
 cases hd:AK w
 .have e:Cz k w=false:=by simp[Cz,hd]
  have a:Cs k w=[]:=by simp[Cs,e]
  rw[e,a];refine qw Hd ?_;repeat(refine cB (Br h) ?_;try simp(disch:=omega) only[AD,hd])
 by_cases H:BG k<9;have e:Cz k w=true:=by simp[Cz,hd,H]
 have a:Cs k w=A8 w (BG k):=by simp[Cs,e]
 have:=AD3 (K:=K) hd (BG k) H;rw[<-NV H]at this;rw[e,a];exact this;have e:Cz k w=false:=by simp[Cz,hd,H]
 have a:Cs k w=[]:=by simp[Cs,e]
 have o:=λ(x:List Nat)(c:x∈Ah)=>QH H c;have q:=o [112,97,116,104] (by simp[Ah]);have Q:=o [98,114,97,99,107,101,116,115] (by simp[Ah]);have f:=o [112,108,97,110,101] (by simp[Ah]);have g:=o [98,105,110,97,114,121] (by simp[Ah]);have i:=o [100,105,97,103,111,110,97,108,115] (by simp[Ah]);have j:=o [112,97,114,116,105,116,105,111,110] (by simp[Ah]);have l:=o [109,97,116,99,104,105,110,103] (by simp[Ah]);have B:=o [112,101,114,109,117,116,97,116,105,111,110] (by simp[Ah]);have C:=o [114,97,110,107] (by simp[Ah]);rw[e,a];refine qw Hd ?_;repeat(refine cB (Br h) ?_;try simp(disch:=omega) only[AD,hd,q,Q,f,g,i,j,l,B,C])
end Go.Cat
namespace Go.Cat
variable{K:Nat->List D->List D->Prop}
theorem Un[HA K]{ws:List (List Nat)}{k:List Nat}(h:ws.length<=1099511627776):K 378 [LS ws,.s k] [.b (ws.contains k)]:=by
 refine qw Vl ?_;refine AN (λi=>k∉ws.take i) (λi=>[LS ws,.s k,.u,.n i,.u,.u]) ws.length (by simp) rfl (λi hi P=>?_) (λP=>?_);have a:ws.take (i+1)=ws.take i++[AG ws i]:=by rw[CP hi];simp[AG,hi]
 have H:AG ws i∈ws:=by simp[AG,hi]
 cases c:(AG ws i==k);simp(disch:=omega) only[AD,c];rw[a];intro q;rcases Ac.1 q with q|q;exact P q;simp only[List.mem_singleton]at q;rw[q]at c;simp at c;have e:AG ws i=k:=by simpa using c
 simp(disch:=omega) only[AD,c];refine Db ?_;rw[<-e];simpa using H;refine wW ?_;refine Db ?_;rw[List.take_length]at P;simpa using P
theorem Ae8{k:List Nat}:Ah.contains k=decide (BG k<9):=by
 by_cases h:BG k<9;have e:=NV h;have H:AG Ah (BG k)∈Ah:=by have:BG k<Ah.length:=h;simp[AG,this]
 rw[<-e]at H;simp[h,H];have:k∉Ah:=by intro q;have:=QH h q;simp at this
 simp[h,this]
noncomputable def GR(w:List Nat):Nat->List Nat
 |0=>[107,105,110,100,115]
 |i+1=>GR w i++[32]++AG Ah i++[32]++([91]++A8 w i++[93])
theorem RA{w:List Nat}(hd:AK w=true):∀i:Nat,(A8 w i).length<=5000
 |0=>by have H:=(Af hd).l;simp only[A8];omega
 |1=>by have H:=(Af hd).l;have:=OC (w:=w);simp only[A8];omega
 |2=>by have H:=Nq hd;simp only[A8,IT];split;rename_i h;obtain⟨a,b⟩:=Ra h;have:=NA (sep:=[44]) (Yb b);have c:=Uk (p:=Cp w);have e:(Ev (Cp w)).length*(20+[44].length)<=9*21:=Nat.mul_le_mul (by omega) (by simp);omega;simp
 |3=>by obtain⟨x,rfl,f⟩:=Jp hd;have:=BT.tl x;simp only[A8,IM];omega
 |4=>by have H:=(Af hd).l;have a:=X3 (d:=BO (Ie w));have b:=Ax (n:=(w.length:Int)/2+2) (by omega);simp only[A8,A4,AO,A6];omega
 |5=>by have a:=NA (sep:=[124]) (Yd (p:=Dw w));have b:=Ui (p:=Dw w);have c:=VW (p:=Dw w);have e:(EY (Dw w)).length*(160+[124].length)<=8*161:=Nat.mul_le_mul (by omega) (by simp);simp only[A8,JI];omega
 |6=>by have H:=YY hd;simp only[A8,Fg];split;rename_i h;split;simp;have a:=NA (sep:=[32]) (OQ h (E1 w).length (Nat.le_refl _));have b:=Oz (m:=E1 w) (E1 w).length;have e:(BV (E1 w) (E1 w).length).length*(41+[32].length)<=16*42:=Nat.mul_le_mul (by omega) (by simp);omega;simp
 |7=>by have H:=(Af hd).l;have a:=RM (w:=w);have c:=K2 (r:=CZ w) (λj _=>by have:=WM H j;omega) (CZ w).length (Nat.le_refl _);simp only[A8];omega
 |8=>by have H:=(Af hd).l;have a:=Ls hd;have c:=Ax (n:=CI w) (by omega);have e:=Ax (n:=(w.length:Int)/2) (by omega);simp only[A8,A4,AO,A6];omega
 |i+9=>by simp[A8]
theorem YI{i:Nat}:(AG Ah i).length<=12:=KB (b:=12) (ws:=Ah) (by decide)
theorem Sb{w:List Nat}(hd:AK w=true):∀i:Nat,(GR w i).length<=5+i*5020
 |0=>by simp[GR]
 |i+1=>by have h:=Sb hd i;have H:=RA hd i;have a:=YI (i:=i);simp only[GR,A4,AO,A6];omega
theorem ANR:∀i:Nat,i<9->BG (AG Ah i)=i
 |0,_=>by decide
 |1,_=>by decide
 |2,_=>by decide
 |3,_=>by decide
 |4,_=>by decide
 |5,_=>by decide
 |6,_=>by decide
 |7,_=>by decide
 |8,_=>by decide
 |i+9,h=>absurd h (by omega)
theorem kl_i[HA K]{w:List Nat}(h:w.length<=1048576):K 526 [.s w] [.s (if AK w=true then GR w 9 else [])]:=by
 refine qw I526 ?_
 cases hd:AK w
 .repeat(refine cB (Bv (by omega)) ?_;try simp(disch:=try exact dV) only[AD,hd])
  rfl
 repeat(refine cB (Bv (by omega)) ?_;try simp(disch:=try exact dV) only[AD,hd])
 refine cB AKB ?_;have e:Ah.length=9:=rfl;refine wW ?_;refine AN (λ_=>True) (λi=>[.s w,.u,.s (GR w i),.u,.u,.u,LS Ah,.n 9,.n i,.u]) 9 trivial rfl (λi hi _=>?_) (λ_=>?_);have b1:=RA hd i;have b:=YI (i:=i);have B:=Sb hd i;refine wW ?_;refine cB (AQF hd i hi) ?_;simp(disch:=try exact dV) only[AD,Vb];have kl:=Hk (K:=K) (ws:=[GR w i,AG Ah i,[91]++A8 w i++[93]]) (by simp) (by simp;omega);refine cB kl ?_;simp(disch:=try exact dV) only[AD,Uo];rfl;exact wZ
theorem kl_s[HA K]{w:List Nat}(h:w.length<=1048576):K 525 [.s w] [.s (if AK w=true then GR w 9 else [])]:=by
 refine qw I525 ?_
 cases hd:AK w
 .repeat(refine cB (Br (by omega)) ?_;try simp(disch:=try exact dV) only[AD,hd])
  rfl
 repeat(refine cB (Br (by omega)) ?_;try simp(disch:=try exact dV) only[AD,hd])
 refine cB Jj ?_;have e:Ah.length=9:=rfl;refine wW ?_;refine AN (λ_=>True) (λi=>[.s w,.u,.s (GR w i),LS Ah,.n i,.u,.u,.u]) 9 trivial rfl (λi hi _=>?_) (λ_=>?_);have b1:=RA hd i;have b:=YI (i:=i);have B:=Sb hd i;refine wW ?_;refine cW (AD3 hd i hi) ?_;simp[GR];exact wZ
end Go.Cat
