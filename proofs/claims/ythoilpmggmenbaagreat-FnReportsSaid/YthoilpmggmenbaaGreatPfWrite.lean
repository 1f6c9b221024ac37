/-
 Objects of paths as texts: WriteAs of both sides.
-/
import Derived.Test.YthoilpmggmenbaaGreatPfWr1
import Derived.Test.YthoilpmggmenbaaGreatPfTri2
import Derived.Test.YthoilpmggmenbaaGreatQd0LawReports
import Derived.Test.YthoilpmggmenbaaGreatQd1LawReports
import Derived.Test.YthoilpmggmenbaaGreatQd2LawReports
import Derived.Test.YthoilpmggmenbaaGreatQd3LawReports
set_option linter.unusedSimpArgs false
set_option linter.unusedVariables false
namespace Go.Cat
variable{K:Nat→List D→List D→Prop}
def GK:List (List Nat):=[[112,97,116,104],[98,114,97,99,107,101,116,115],[112,108,97,110,101],[98,105,110,97,114,121],[100,105,97,103,111,110,97,108,115],[112,97,114,116,105,116,105,111,110],[109,97,116,99,104,105,110,103],[112,101,114,109,117,116,97,116,105,111,110],[114,97,110,107]]
theorem AXP[HA K]:K 14 [] [LS GK]:=by refine qb I14 rfl ?_;simp only[I14];simp(disch:=omega) only[AA,Ow];rfl
theorem Ad3[HA K]:K 13 [] [LS GK]:=by refine qb I13 rfl ?_;simp only[I13];simp(disch:=omega) only[AA,Ow];rfl
theorem Ya[HA K]{w:List Nat}(hd:AM w=true):K 535 [.s w] [.s (H4 w).t,.b true]:=by obtain⟨x,rfl,hx⟩:=IY hd;have hl:=BT.pl x;rw[KG];refine qb Wt rfl ?_;simp only[Wt];simp(disch:=omega) only[AA];repeat(first|(refine AD (Bv (K:=K) (w:=x.p) (by omega)) rfl ?_;try simp(disch:=omega) only[AA,hd])|(refine AD (Ls (K:=K) (x:=x) hx) rfl ?_;try simp(disch:=omega) only[AA,hd])|(refine AD (IQ (K:=K) (x:=x) (by omega)) rfl ?_;try simp(disch:=omega) only[AA,hd]))
theorem ABV[HA K]{w:List Nat}(hd:AM w=true):K 530 [.s w] [.s (H4 w).t,.b true]:=by obtain⟨x,rfl,hx⟩:=IY hd;have hl:=BT.pl x;rw[KG];refine qb AOR rfl ?_;simp only[AOR];simp(disch:=omega) only[AA];repeat(first|(refine AD (Bt (K:=K) (w:=x.p) (by omega)) rfl ?_;try simp(disch:=omega) only[AA,hd])|(refine AD (Kj (K:=K) (x:=x) hx) rfl ?_;try simp(disch:=omega) only[AA,hd]))
noncomputable def CL(w:List Nat):Nat→List Nat
 |0=>w
 |1=>DB w
 |2=>H7 (Dv w)
 |3=>(H4 w).t
 |4=>Ai ((w.length:Int)/2+2)++[58,32]++E4 (BP (H4 w))
 |5=>Im (DO w)
 |6=>FU (EA w)
 |7=>Df (C7 w) (C7 w).length
 |8=>Ai ((w.length:Int)/2)++[58]++Ai (DU w)
 |_=>[]
theorem Xf{x:BT}(h:x.n≤8):(BP x).length≤7:=by have:=LQ (x:=x) (l:=0) (r:=(x.n:Int)+1);rw[Tj];omega
theorem UL{d:List (List Int)}:(E4 d).length≤1000:=by
 unfold E4;split
 ·simp
 ·split
  ·simp
  ·split
   ·rename_i _ h20 ha;have hb:∀x∈Cp d,x.length≤40:=by intro x hx;obtain⟨r,hr1,rfl⟩:=List.mem_map.1 hx;obtain⟨h2,q1,q2⟩:=Q9 (Aw.1 ha r hr1);have b1:=A8.1 q1;have b2:=A8.1 q2;have l1:=BB (n:=AE r 0) (by omega);have l2:=BB (n:=AE r 1) (by omega);simp only[A7];omega
    have h1:=Ic (sep:=[32]) hb (Cp d).length;have:=Ud (d:=d);simp only[glue,AY,Ap]at*;omega
   ·simp
theorem AS0[HA K]{w:List Nat}(hd:AM w=true):PP w (EA w)∧K 373 [.s w] [LI (EA w)]:=by obtain⟨_,⟨m,rfl,hm⟩,k1⟩:=O5 (K:=K) hd;rw[Qd hm];exact⟨hm,k1⟩
theorem VR[HA K]{w:List Nat}(hd:AM w=true):K 373 [.s w] [LI (EA w)]∧K 356 [.s w] [LI (EA w),.b true]:=by obtain⟨hm,k1⟩:=AS0 (K:=K) hd;exact⟨k1,UG hd hm⟩
theorem V8{w:List Nat}(hd:AM w=true):(EA w).length≤16:=by
 have hl:=(Ah hd).l;unfold EA;split
 ·rename_i h;have:=h.choose_spec.1;omega
 ·simp
theorem AY7[HA K]{w:List Nat}(hd:AM w=true):K 524 [.s [112,97,116,104],.s w] [.s (CL w 0),.b true]:=by
 have hl:=(Ah hd).l;refine qb EY rfl ?_;simp only[EY];simp(disch:=omega) only[AA];repeat(first|(refine AD (Bv (K:=K) (w:=w) (by omega)) rfl ?_;try simp(disch:=omega) only[AA,hd,Ac,Ad,Ae]))
 all_goals rfl
theorem AUH[HA K]{w:List Nat}(hd:AM w=true):K 524 [.s [98,114,97,99,107,101,116,115],.s w] [.s (CL w 1),.b true]:=by
 have hl:=(Ah hd).l;refine qb EY rfl ?_;simp only[EY];simp(disch:=omega) only[AA];repeat(first|(refine AD (Bv (K:=K) (w:=w) (by omega)) rfl ?_;try simp(disch:=omega) only[AA,hd,Ac,Ad,Ae])|(refine AD (ZH (K:=K) hd) rfl ?_;try simp(disch:=omega) only[AA,hd,Ac,Ad,Ae]))
 all_goals rfl
theorem AS7[HA K]{w:List Nat}(hd:AM w=true):K 524 [.s [112,108,97,110,101],.s w] [.s (CL w 2),.b true]:=by
 have hl:=(Ah hd).l;have hpl:=KR hd;refine qb EY rfl ?_;simp only[EY];simp(disch:=omega) only[AA];repeat(first|(refine AD (Bv (K:=K) (w:=w) (by omega)) rfl ?_;try simp(disch:=omega) only[AA,hd,Ac,Ad,Ae])|(refine AD (ADK (K:=K) hd) rfl ?_;try simp(disch:=omega) only[AA,hd,Ac,Ad,Ae])|(refine AD (AaJ (K:=K) (p:=Dv w) (by omega)) rfl ?_;try simp(disch:=omega) only[AA,hd,Ac,Ad,Ae]))
 all_goals rfl
theorem AZI[HA K]{w:List Nat}(hd:AM w=true):K 524 [.s [98,105,110,97,114,121],.s w] [.s (CL w 3),.b true]:=by
 have hl:=(Ah hd).l;refine qb EY rfl ?_;simp only[EY];simp(disch:=omega) only[AA];repeat(first|(refine AD (Bv (K:=K) (w:=w) (by omega)) rfl ?_;try simp(disch:=omega) only[AA,hd,Ac,Ad,Ae])|(refine AD (Ya (K:=K) hd) rfl ?_;try simp(disch:=omega) only[AA,hd,Ac,Ad,Ae]))
 all_goals rfl
theorem AQV[HA K]{w:List Nat}(hd:AM w=true):K 524 [.s [100,105,97,103,111,110,97,108,115],.s w] [.s (CL w 4),.b true]:=by
 have hl:=(Ah hd).l;obtain⟨x,rfl,hx⟩:=IY hd;have hpl:=BT.pl x;have hdl:=Xf hx;have hdb:=UL (d:=BP x);have hf:=BB (n:=(x.p.length:Int)/2+2) (by omega);have kd:=Tl (K:=K) (d:=BP x) (by omega) (fun r hr=>by have:=JO r (Ps.1 hr);simp only[CT]at this;omega);refine qb EY rfl ?_;simp only[EY];simp(disch:=first|omega|simp only[vl];omega) only[AA];repeat(first|(refine AD (Bv (K:=K) (w:=x.p) (by omega)) rfl ?_;try simp(disch:=first|omega|simp only[vl];omega) only[AA,hd,Ac,Ad,Ae])|(refine AD (Ls (K:=K) (x:=x) hx) rfl ?_;try simp(disch:=first|omega|simp only[vl];omega) only[AA,hd,Ac,Ad,Ae])|(refine AD (IQ (K:=K) (x:=x) (by omega)) rfl ?_;try simp(disch:=first|omega|simp only[vl];omega) only[AA,hd,Ac,Ad,Ae])|(refine AD (QY (K:=K) (x:=x) hx) rfl ?_;try simp(disch:=first|omega|simp only[vl];omega) only[AA,hd,Ac,Ad,Ae])|(refine AD (CZ (K:=K) (n:=(x.p.length:Int)/2+2) (by omega)) rfl ?_;try simp(disch:=first|omega|simp only[vl];omega) only[AA,hd,Ac,Ad,Ae])|(refine AD (kd) rfl ?_;try simp(disch:=first|omega|simp only[vl];omega) only[AA,hd,Ac,Ad,Ae]))
 simp only[CL,KG]
theorem AT8[HA K]{w:List Nat}(hd:AM w=true):K 524 [.s [112,97,114,116,105,116,105,111,110],.s w] [.s (CL w 5),.b true]:=by
 have hl:=(Ah hd).l;have hpl:=MB hd;refine qb EY rfl ?_;simp only[EY];simp(disch:=omega) only[AA];repeat(first|(refine AD (Bv (K:=K) (w:=w) (by omega)) rfl ?_;try simp(disch:=omega) only[AA,hd,Ac,Ad,Ae])|(refine AD ((N9 (K:=K) hd).1) rfl ?_;try simp(disch:=omega) only[AA,hd,Ac,Ad,Ae])|(refine AD (Vc (K:=K) (p:=DO w) (by omega)) rfl ?_;try simp(disch:=omega) only[AA,hd,Ac,Ad,Ae]))
 all_goals rfl
theorem ARN[HA K]{w:List Nat}(hd:AM w=true):K 524 [.s [109,97,116,99,104,105,110,103],.s w] [.s (CL w 6),.b true]:=by
 have hl:=(Ah hd).l;have hpl:=V8 hd;refine qb EY rfl ?_;simp only[EY];simp(disch:=omega) only[AA];repeat(first|(refine AD (Bv (K:=K) (w:=w) (by omega)) rfl ?_;try simp(disch:=omega) only[AA,hd,Ac,Ad,Ae])|(refine AD ((VR (K:=K) hd).1) rfl ?_;try simp(disch:=omega) only[AA,hd,Ac,Ad,Ae])|(refine AD (SR (K:=K) (m:=EA w) (by omega)) rfl ?_;try simp(disch:=omega) only[AA,hd,Ac,Ad,Ae]))
 all_goals rfl
theorem AU0[HA K]{w:List Nat}(hd:AM w=true):K 524 [.s [112,101,114,109,117,116,97,116,105,111,110],.s w] [.s (CL w 7),.b true]:=by
 have hl:=(Ah hd).l;have hpl:=V3 (w:=w);have hb:=Ut hl;refine qb EY rfl ?_;simp only[EY];simp(disch:=omega) only[AA];repeat(first|(refine AD (Bv (K:=K) (w:=w) (by omega)) rfl ?_;try simp(disch:=omega) only[AA,hd,Ac,Ad,Ae])|(refine AD (AV1 (K:=K) hd) rfl ?_;try simp(disch:=omega) only[AA,hd,Ac,Ad,Ae]))
 refine AL (fun _=>True) (fun i=>[.u,.u,.u,.u,.u,.u,.u,.u,.s (Df (C7 w) i),.u,.u,.u,.u,.u,.u,.u,.u,.u,.u,.u,LI (C7 w),.n (C7 w).length,.n i,.u,.u]) (C7 w).length trivial rfl (fun i hi _=>?_) (fun _=>?_)
 ·have h2:=hb i;have h3:=I0 (r:=C7 w) (fun j _=>by have:=hb j;omega) i (by omega);have h4:=BB (n:=AE (C7 w) i+1) (by omega);simp(disch:=omega) only[AA];refine AD (CZ (K:=K) (n:=AE (C7 w) i+1) (by omega)) rfl ?_;simp(disch:=omega) only[AA];rfl
 ·simp(disch:=omega) only[AA];rfl
theorem AUE[HA K]{w:List Nat}(hd:AM w=true):K 524 [.s [114,97,110,107],.s w] [.s (CL w 8),.b true]:=by
 have hl:=(Ah hd).l;have h1:=Kr hd;have h3:=BB (n:=DU w) (by omega);have h4:=BB (n:=(w.length:Int)/2) (by omega);refine qb EY rfl ?_;simp only[EY];simp(disch:=first|omega|simp only[vl];omega) only[AA];repeat(first|(refine AD (Bv (K:=K) (w:=w) (by omega)) rfl ?_;try simp(disch:=first|omega|simp only[vl];omega) only[AA,hd,Ac,Ad,Ae])|(refine AD (CZ (K:=K) (n:=(w.length:Int)/2) (by omega)) rfl ?_;try simp(disch:=first|omega|simp only[vl];omega) only[AA,hd,Ac,Ad,Ae])|(refine AD (AL7 (K:=K) (w:=w) (by omega)) rfl ?_;try simp(disch:=first|omega|simp only[vl];omega) only[AA,hd,Ac,Ad,Ae])|(refine AD (CZ (K:=K) (n:=DU w) (by omega)) rfl ?_;try simp(disch:=first|omega|simp only[vl];omega) only[AA,hd,Ac,Ad,Ae]))
 all_goals rfl
theorem AVI[HA K]{w:List Nat}(hd:AM w=true):K 523 [.s [112,97,116,104],.s w] [.s (CL w 0),.b true]:=by
 have hl:=(Ah hd).l;refine qb ET rfl ?_;simp only[ET];simp(disch:=omega) only[AA];repeat(first|(refine AD (Bt (K:=K) (w:=w) (by omega)) rfl ?_;try simp(disch:=omega) only[AA,hd,Ac,Ad,Ae]))
 all_goals rfl
theorem AQQ[HA K]{w:List Nat}(hd:AM w=true):K 523 [.s [98,114,97,99,107,101,116,115],.s w] [.s (CL w 1),.b true]:=by
 have hl:=(Ah hd).l;refine qb ET rfl ?_;simp only[ET];simp(disch:=omega) only[AA];repeat(first|(refine AD (Bt (K:=K) (w:=w) (by omega)) rfl ?_;try simp(disch:=omega) only[AA,hd,Ac,Ad,Ae])|(refine AD (AKJ (K:=K) hd) rfl ?_;try simp(disch:=omega) only[AA,hd,Ac,Ad,Ae]))
 all_goals rfl
theorem AY9[HA K]{w:List Nat}(hd:AM w=true):K 523 [.s [112,108,97,110,101],.s w] [.s (CL w 2),.b true]:=by
 have hl:=(Ah hd).l;have hpl:=KR hd;refine qb ET rfl ?_;simp only[ET];simp(disch:=omega) only[AA];repeat(first|(refine AD (Bt (K:=K) (w:=w) (by omega)) rfl ?_;try simp(disch:=omega) only[AA,hd,Ac,Ad,Ae])|(refine AD (ZS (K:=K) hd) rfl ?_;try simp(disch:=omega) only[AA,hd,Ac,Ad,Ae])|(refine AD (AQ9 (K:=K) (p:=Dv w) (by omega)) rfl ?_;try simp(disch:=omega) only[AA,hd,Ac,Ad,Ae]))
 all_goals rfl
theorem AYQ[HA K]{w:List Nat}(hd:AM w=true):K 523 [.s [98,105,110,97,114,121],.s w] [.s (CL w 3),.b true]:=by
 have hl:=(Ah hd).l;refine qb ET rfl ?_;simp only[ET];simp(disch:=omega) only[AA];repeat(first|(refine AD (Bt (K:=K) (w:=w) (by omega)) rfl ?_;try simp(disch:=omega) only[AA,hd,Ac,Ad,Ae])|(refine AD (ABV (K:=K) hd) rfl ?_;try simp(disch:=omega) only[AA,hd,Ac,Ad,Ae]))
 all_goals rfl
theorem AUB[HA K]{w:List Nat}(hd:AM w=true):K 523 [.s [100,105,97,103,111,110,97,108,115],.s w] [.s (CL w 4),.b true]:=by
 have hl:=(Ah hd).l;obtain⟨x,rfl,hx⟩:=IY hd;have hpl:=BT.pl x;have hdl:=Xf hx;have hdb:=UL (d:=BP x);have hf:=BB (n:=(x.p.length:Int)/2+2) (by omega);have kd:=dg_s (K:=K) (d:=BP x) (by omega) (fun r hr=>by have:=JO r (Ps.1 hr);simp only[CT]at this;omega);refine qb ET rfl ?_;simp only[ET];simp(disch:=first|omega|simp only[vl];omega) only[AA];repeat(first|(refine AD (Bt (K:=K) (w:=x.p) (by omega)) rfl ?_;try simp(disch:=first|omega|simp only[vl];omega) only[AA,hd,Ac,Ad,Ae])|(refine AD (Kj (K:=K) (x:=x) hx) rfl ?_;try simp(disch:=first|omega|simp only[vl];omega) only[AA,hd,Ac,Ad,Ae])|(refine AD (MT (K:=K) (x:=x) hx) rfl ?_;try simp(disch:=first|omega|simp only[vl];omega) only[AA,hd,Ac,Ad,Ae])|(refine AD (Bp (K:=K) (n:=(x.p.length:Int)/2+2) (by omega)) rfl ?_;try simp(disch:=first|omega|simp only[vl];omega) only[AA,hd,Ac,Ad,Ae])|(refine AD (kd) rfl ?_;try simp(disch:=first|omega|simp only[vl];omega) only[AA,hd,Ac,Ad,Ae]))
 simp only[CL,KG]
theorem AX2[HA K]{w:List Nat}(hd:AM w=true):K 523 [.s [112,97,114,116,105,116,105,111,110],.s w] [.s (CL w 5),.b true]:=by
 have hl:=(Ah hd).l;have hpl:=MB hd;refine qb ET rfl ?_;simp only[ET];simp(disch:=omega) only[AA];repeat(first|(refine AD (Bt (K:=K) (w:=w) (by omega)) rfl ?_;try simp(disch:=omega) only[AA,hd,Ac,Ad,Ae])|(refine AD (Zb (K:=K) hd) rfl ?_;try simp(disch:=omega) only[AA,hd,Ac,Ad,Ae])|(refine AD (Ab9 (K:=K) (p:=DO w) (by omega)) rfl ?_;try simp(disch:=omega) only[AA,hd,Ac,Ad,Ae]))
 all_goals rfl
theorem AXJ[HA K]{w:List Nat}(hd:AM w=true):K 523 [.s [109,97,116,99,104,105,110,103],.s w] [.s (CL w 6),.b true]:=by
 have hl:=(Ah hd).l;have hpl:=V8 hd;refine qb ET rfl ?_;simp only[ET];simp(disch:=omega) only[AA];repeat(first|(refine AD (Bt (K:=K) (w:=w) (by omega)) rfl ?_;try simp(disch:=omega) only[AA,hd,Ac,Ad,Ae])|(refine AD (UG (K:=K) hd (RW hd)) rfl ?_;try simp(disch:=omega) only[AA,hd,Ac,Ad,Ae])|(refine AD (AXY (K:=K) (m:=EA w) (by omega)) rfl ?_;try simp(disch:=omega) only[AA,hd,Ac,Ad,Ae]))
 all_goals rfl
theorem ARR[HA K]{w:List Nat}(hd:AM w=true):K 523 [.s [112,101,114,109,117,116,97,116,105,111,110],.s w] [.s (CL w 7),.b true]:=by
 have hl:=(Ah hd).l;have hpl:=V3 (w:=w);have hb:=Ut hl;refine qb ET rfl ?_;simp only[ET];simp(disch:=omega) only[AA];repeat(first|(refine AD (Bt (K:=K) (w:=w) (by omega)) rfl ?_;try simp(disch:=omega) only[AA,hd,Ac,Ad,Ae])|(refine AD (AbT (K:=K) hd) rfl ?_;try simp(disch:=omega) only[AA,hd,Ac,Ad,Ae]))
 refine AL (fun _=>True) (fun i=>[.u,.u,.u,.u,.u,.u,.u,.u,.u,.u,LI (C7 w),.s (Df (C7 w) i),.n i,.u,.u,.u,.u,.u,.u,.u,.u,.u,.u,.u,.u]) (C7 w).length trivial rfl (fun i hi _=>?_) (fun _=>?_)
 ·have h2:=hb i;have h3:=I0 (r:=C7 w) (fun j _=>by have:=hb j;omega) i (by omega);have h4:=BB (n:=AE (C7 w) i+1) (by omega);simp(disch:=omega) only[AA];refine AD (Bp (K:=K) (n:=AE (C7 w) i+1) (by omega)) rfl ?_;simp(disch:=omega) only[AA];rfl
 ·simp(disch:=omega) only[AA];rfl
theorem AcS[HA K]{w:List Nat}(hd:AM w=true):K 523 [.s [114,97,110,107],.s w] [.s (CL w 8),.b true]:=by
 have hl:=(Ah hd).l;have h1:=Kr hd;have h3:=BB (n:=DU w) (by omega);have h4:=BB (n:=(w.length:Int)/2) (by omega);refine qb ET rfl ?_;simp only[ET];simp(disch:=first|omega|simp only[vl];omega) only[AA];repeat(first|(refine AD (Bt (K:=K) (w:=w) (by omega)) rfl ?_;try simp(disch:=first|omega|simp only[vl];omega) only[AA,hd,Ac,Ad,Ae])|(refine AD (Bp (K:=K) (n:=(w.length:Int)/2) (by omega)) rfl ?_;try simp(disch:=first|omega|simp only[vl];omega) only[AA,hd,Ac,Ad,Ae])|(refine AD (AC9 (K:=K) (w:=w) (by omega)) rfl ?_;try simp(disch:=first|omega|simp only[vl];omega) only[AA,hd,Ac,Ad,Ae])|(refine AD (Bp (K:=K) (n:=DU w) (by omega)) rfl ?_;try simp(disch:=first|omega|simp only[vl];omega) only[AA,hd,Ac,Ad,Ae]))
 all_goals rfl
theorem AbH[HA K]{w:List Nat}(hd:AM w=true):∀i:Nat,i<9→K 524 [.s (AO GK i),.s w] [.s (CL w i),.b true]
 |0,_=>AY7 hd
 |1,_=>AUH hd
 |2,_=>AS7 hd
 |3,_=>AZI hd
 |4,_=>AQV hd
 |5,_=>AT8 hd
 |6,_=>ARN hd
 |7,_=>AU0 hd
 |8,_=>AUE hd
 |i+9,h=>absurd h (by omega)
theorem AW0[HA K]{w:List Nat}(hd:AM w=true):∀i:Nat,i<9→K 523 [.s (AO GK i),.s w] [.s (CL w i),.b true]
 |0,_=>AVI hd
 |1,_=>AQQ hd
 |2,_=>AY9 hd
 |3,_=>AYQ hd
 |4,_=>AUB hd
 |5,_=>AX2 hd
 |6,_=>AXJ hd
 |7,_=>ARR hd
 |8,_=>AcS hd
 |i+9,h=>absurd h (by omega)
end Go.Cat
