/-
 PathLine answers as the reference does.
-/
import Derived.Test.YthoilpmggmenbaaGreatPfSch
import Derived.Test.YthoilpmggmenbaaGreatPfPlane
import Derived.Test.YthoilpmggmenbaaGreatPfPart
import Derived.Test.YthoilpmggmenbaaGreatPfFmt
import Derived.Test.YthoilpmggmenbaaGreatPfRankA
import Derived.Test.YthoilpmggmenbaaGreatQd0LawReports
import Derived.Test.YthoilpmggmenbaaGreatQd1LawReports
import Derived.Test.YthoilpmggmenbaaGreatQd2LawReports
import Derived.Test.YthoilpmggmenbaaGreatQd3LawReports
import Derived.Test.YthoilpmggmenbaaGreatPfIn
set_option linter.unusedSimpArgs false
set_option linter.unusedVariables false
namespace Go.Cat
instance:HA (fun _ _ _=>True):=⟨fun _ _ _ _=>trivial⟩
variable{K:Nat→List D→List D→Prop}
open Classical in
noncomputable def EA(w:List Nat):List Int:=if h:∃m,PP w m then h.choose else []
theorem Qd{w:List Nat}{m:List Int}(h:PP w m):EA w=m:=by have h2:∃m,PP w m:=⟨m,h⟩;simp only[EA,dif_pos h2];exact Ad1 h2.choose_spec h
theorem RW{w:List Nat}(hd:AM w=true):PP w (EA w):=by have:Has (fun _ _ _=>True) 373 SD.v:=⟨fun _ _ _=>trivial⟩;obtain⟨_,⟨m,_,hm⟩,_⟩:=O5 (K:=fun _ _ _=>True) hd;rw[Qd hm];exact hm
noncomputable def DO(w:List Nat):List Int:=C8 (Cn w (fun a=>(DR w (AE (EA w) a).toNat:Int)) w.length) (Bw w w.length)
theorem MB{w:List Nat}(hd:AM w=true):(DO w).length≤8:=by have h:=Jv hd;have hl:=(Ah hd).l;simp only[DO,Mo];omega
theorem Zb[HA K]{w:List Nat}(hd:AM w=true):K 301 [.s w] [LI (DO w),.b true]:=AC0 (K:=K) hd (RW hd)
theorem N9[HA K]{w:List Nat}(hd:AM w=true):K 503 [.s w] [LI (DO w),.b true]∧K 301 [.s w] [LI (DO w),.b true]:=by
 obtain⟨_,⟨m,hm,rfl⟩,k1⟩:=AbZ (K:=K) hd;have k2:=AC0 (K:=K) hd hm;have hml:=hm.1;have e:=Qd hm;refine⟨?_,by rw[DO,e];exact k2⟩;have e2:C8 (Cn w (fun a=>(EG w (AE m a).toNat:Int)) w.length) (Bw w w.length)=DO w:=by
  have h1:Cn w (fun a=>(EG w (AE m a).toNat:Int)) w.length=(Cn w (fun a=>(DR w (AE m a).toNat:Int)) w.length).map (·+1):=by
   refine YI fun a ha hu=>?_;obtain⟨b,hb,q⟩:=hm.2 a ha;have hbl:b<w.length:=by rcases q with q|q<;>have:=q.1<;>have:=q.2.1<;>omega
   have hD:=Ah hd;have hb1:AK w b=100:=by
    rcases hD.ud b hbl with hv|hv
    ·exfalso;rcases q with q|q
     ·have h3:=FM hbl hv;have h4:=q.2.2.1;have h5:=q.2.2.2 b q.1 (Nat.le_refl _);omega
     ·have h3:=FM ha hu;have h4:=q.2.2.1;have h5:=q.2.2.2 a q.1 (Nat.le_refl _);omega
    ·exact hv
   have h2:=AMY hd hbl;rw[if_pos hb1]at h2;simp only[hb,BH];omega
  rw[h1,AKS,DO,e];rw[OT (Nat.le_refl _)];exact Nat.le_refl _
 rw[e2]at k1;exact k1
theorem KR{w:List Nat}(hd:AM w=true):(Dv w).length≤17:=by have hl:=(Ah hd).l;have:=SX (w:=w) (out:=[-1]) (st:=[0]);simp only[Dv,AY,Ap]at *;omega
def Fz:List (List Nat):=[[112,101,97,107,115],[114,101,116,117,114,110,115],[114,105,115,101],[97,114,101,97],[100,101,112,116,104],[108,101,97,118,101,115],[98,108,111,99,107,115],[109,97,106,111,114],[102,97,108,108]]
theorem Ow{a b c d e f g h i:List Nat}:C2 [.s a,.s b,.s c,.s d,.s e,.s f,.s g,.s h,.s i]=some (LS [a,b,c,d,e,f,g,h,i]):=rfl
theorem AZN[HA K]:K 499 [] [LS Fz]:=by refine qb AHS rfl ?_;simp only[AHS];simp(disch:=first|omega|simp only[vl];omega) only[AA,Ow];rfl
theorem AU9[HA K]:K 498 [] [LS Fz]:=by refine qb XZ rfl ?_;simp only[XZ];simp(disch:=first|omega|simp only[vl];omega) only[AA,Ow];rfl
noncomputable def Bf(w:List Nat):Nat→Int
 |0=>Co 117 100 (fun _=>1) w (w.length-1)
 |1=>Hi w w.length
 |2=>DM 117 w
 |3=>FI w w.length
 |4=>FY w (w.length+1)
 |5=>Fq (Dv w) (Dv w).length
 |6=>(if CJ (DO w)=true then Ar (DO w) (DO w).length else []).length
 |7=>Co 100 117 (fun j=>j+1) w (w.length-1)
 |8=>DM 100 w.reverse
 |_=>-1
theorem Ac{a b:Nat}{x y:List Nat}(h:a≠b):((a::x)==(b::y))=false:=by rw[List.cons_beq_cons,beq_eq_false_iff_ne.2 h];rfl
theorem Ad{a:Nat}{x y:List Nat}:((a::x)==(a::y))=(x==y):=by rw[List.cons_beq_cons,beq_self_eq_true,Bool.true_and]
theorem Ae:(([]:List Nat)==[])=true:=rfl
theorem AdO[HA K]{w:List Nat}(hd:AM w=true):K 500 [.s [112,101,97,107,115],.s w] [.n (Bf w 0)]:=by
 have hl:=(Ah hd).l;refine qb ER rfl ?_;simp only[ER];simp(disch:=first|omega|simp only[vl];omega) only[AA];repeat(first|(refine AD (Bv (K:=K) (w:=w) (by omega)) rfl ?_;try simp(disch:=first|omega|simp only[vl];omega) only[AA,hd,Ac,Ad,Ae])|(refine AD (AT7 (K:=K) hd) rfl ?_;try simp(disch:=first|omega|simp only[vl];omega) only[AA,hd,Ac,Ad,Ae]))
 rfl
theorem AcO[HA K]{w:List Nat}(hd:AM w=true):K 500 [.s [114,101,116,117,114,110,115],.s w] [.n (Bf w 1)]:=by
 have hl:=(Ah hd).l;refine qb ER rfl ?_;simp only[ER];simp(disch:=first|omega|simp only[vl];omega) only[AA];repeat(first|(refine AD (Bv (K:=K) (w:=w) (by omega)) rfl ?_;try simp(disch:=first|omega|simp only[vl];omega) only[AA,hd,Ac,Ad,Ae])|(refine AD (ASB (K:=K) hd) rfl ?_;try simp(disch:=first|omega|simp only[vl];omega) only[AA,hd,Ac,Ad,Ae]))
 rfl
theorem AWI[HA K]{w:List Nat}(hd:AM w=true):K 500 [.s [114,105,115,101],.s w] [.n (Bf w 2)]:=by
 have hl:=(Ah hd).l;refine qb ER rfl ?_;simp only[ER];simp(disch:=first|omega|simp only[vl];omega) only[AA];repeat(first|(refine AD (Bv (K:=K) (w:=w) (by omega)) rfl ?_;try simp(disch:=first|omega|simp only[vl];omega) only[AA,hd,Ac,Ad,Ae]))
 refine Be (fun(x:Nat)=>x≤DM 117 w) (fun x=>[.u,.s w,.u,.n x,.u,.u,.u,.u,.u,.u,.u,.u,.u,.u,.u,.u,.u,.u,.u,.u,.u]) (fun x=>DM 117 w-x) 0 (by omega) rfl ?_;intro x hx;have hr:=KF (c:=117) w;by_cases hxl:x<w.length
 ·have ha:=ML (c:=117) hxl;by_cases hxr:x<DM 117 w
  ·simp(disch:=first|omega|simp only[vl];omega) only[AA,ha.1 hxr];exact⟨x+1,by omega,by omega,by simp⟩
  ·have:=ha.2 (by omega);simp(disch:=first|omega|simp only[vl];omega) only[AA];exact Dn (by simp only[Bf];omega)
 ·simp(disch:=first|omega|simp only[vl];omega) only[AA];exact Dn (by simp only[Bf];omega)
theorem AYW[HA K]{w:List Nat}(hd:AM w=true):K 500 [.s [97,114,101,97],.s w] [.n (Bf w 3)]:=by
 have hl:=(Ah hd).l;refine qb ER rfl ?_;simp only[ER];simp(disch:=first|omega|simp only[vl];omega) only[AA];repeat(first|(refine AD (Bv (K:=K) (w:=w) (by omega)) rfl ?_;try simp(disch:=first|omega|simp only[vl];omega) only[AA,hd,Ac,Ad,Ae])|(refine AD (AVT (K:=K) hd) rfl ?_;try simp(disch:=first|omega|simp only[vl];omega) only[AA,hd,Ac,Ad,Ae]))
 rfl
theorem AbX[HA K]{w:List Nat}(hd:AM w=true):K 500 [.s [100,101,112,116,104],.s w] [.n (Bf w 4)]:=by
 have hl:=(Ah hd).l;refine qb ER rfl ?_;simp only[ER];simp(disch:=first|omega|simp only[vl];omega) only[AA];repeat(first|(refine AD (Bv (K:=K) (w:=w) (by omega)) rfl ?_;try simp(disch:=first|omega|simp only[vl];omega) only[AA,hd,Ac,Ad,Ae])|(refine AD (ZH (K:=K) hd) rfl ?_;try simp(disch:=first|omega|simp only[vl];omega) only[AA,hd,Ac,Ad,Ae])|(refine AD (dp_i (K:=K) hd) rfl ?_;try simp(disch:=first|omega|simp only[vl];omega) only[AA,hd,Ac,Ad,Ae]))
 rfl
theorem AZE[HA K]{w:List Nat}(hd:AM w=true):K 500 [.s [108,101,97,118,101,115],.s w] [.n (Bf w 5)]:=by
 have hl:=(Ah hd).l;refine qb ER rfl ?_;simp only[ER];simp(disch:=first|omega|simp only[vl];omega) only[AA];have hpl:=KR hd;repeat(first|(refine AD (Bv (K:=K) (w:=w) (by omega)) rfl ?_;try simp(disch:=first|omega|simp only[vl];omega) only[AA,hd,Ac,Ad,Ae])|(refine AD (ADK (K:=K) hd) rfl ?_;try simp(disch:=first|omega|simp only[vl];omega) only[AA,hd,Ac,Ad,Ae])|(refine AD (AcJ (K:=K) (p:=Dv w) (by omega)) rfl ?_;try simp(disch:=first|omega|simp only[vl];omega) only[AA,hd,Ac,Ad,Ae]))
 rfl
theorem ATC[HA K]{w:List Nat}(hd:AM w=true):K 500 [.s [98,108,111,99,107,115],.s w] [.n (Bf w 6)]:=by
 have hl:=(Ah hd).l;refine qb ER rfl ?_;simp only[ER];simp(disch:=first|omega|simp only[vl];omega) only[AA];have hpl:=MB hd;repeat(first|(refine AD (Bv (K:=K) (w:=w) (by omega)) rfl ?_;try simp(disch:=first|omega|simp only[vl];omega) only[AA,hd,Ac,Ad,Ae])|(refine AD ((N9 (K:=K) hd).1) rfl ?_;try simp(disch:=first|omega|simp only[vl];omega) only[AA,hd,Ac,Ad,Ae])|(refine AD (XJ (K:=K) (p:=DO w) (by omega)) rfl ?_;try simp(disch:=first|omega|simp only[vl];omega) only[AA,hd,Ac,Ad,Ae]))
 rfl
theorem AcD[HA K]{w:List Nat}(hd:AM w=true):K 500 [.s [109,97,106,111,114],.s w] [.n (Bf w 7)]:=by
 have hl:=(Ah hd).l;refine qb ER rfl ?_;simp only[ER];simp(disch:=first|omega|simp only[vl];omega) only[AA];repeat(first|(refine AD (Bv (K:=K) (w:=w) (by omega)) rfl ?_;try simp(disch:=first|omega|simp only[vl];omega) only[AA,hd,Ac,Ad,Ae])|(refine AD (AcE (K:=K) hd) rfl ?_;try simp(disch:=first|omega|simp only[vl];omega) only[AA,hd,Ac,Ad,Ae]))
 rfl
theorem Ab5[HA K]{w:List Nat}(hd:AM w=true):K 500 [.s [102,97,108,108],.s w] [.n (Bf w 8)]:=by
 have hl:=(Ah hd).l;refine qb ER rfl ?_;simp only[ER];simp(disch:=first|omega|simp only[vl];omega) only[AA];repeat(first|(refine AD (Bv (K:=K) (w:=w) (by omega)) rfl ?_;try simp(disch:=first|omega|simp only[vl];omega) only[AA,hd,Ac,Ad,Ae]))
 refine Be (fun(x:Nat)=>x≤DM 100 w.reverse) (fun x=>[.u,.s w,.u,.u,.u,.u,.u,.n x,.u,.u,.u,.u,.u,.u,.u,.u,.u,.u,.u,.u,.u]) (fun x=>DM 100 w.reverse-x) 0 (by omega) rfl ?_;intro x hx;have hr:=KF (c:=100) w.reverse;rw[List.length_reverse]at hr;by_cases hxl:x<w.length
 ·have ha:=ML (c:=100) (l:=w.reverse) (i:=x) (by simpa using hxl);rw[Zh hxl]at ha;by_cases hxr:x<DM 100 w.reverse
  ·simp(disch:=first|omega|simp only[vl];omega) only[AA,ha.1 hxr];exact⟨x+1,by omega,by omega,by simp⟩
  ·have:=ha.2 (by omega);simp(disch:=first|omega|simp only[vl];omega) only[AA];exact Dn (by simp only[Bf];omega)
 ·simp(disch:=first|omega|simp only[vl];omega) only[AA];exact Dn (by simp only[Bf];omega)
theorem AQZ[HA K]{w:List Nat}(hd:AM w=true):K 235 [.s [112,101,97,107,115],.s w] [.n (Bf w 0)]:=by
 have hl:=(Ah hd).l;refine qb EK rfl ?_;simp only[EK];simp(disch:=first|omega|simp only[vl];omega) only[AA];repeat(first|(refine AD (Bt (K:=K) (w:=w) (by omega)) rfl ?_;try simp(disch:=first|omega|simp only[vl];omega) only[AA,hd,Ac,Ad,Ae])|(refine AD (AbM (K:=K) hd) rfl ?_;try simp(disch:=first|omega|simp only[vl];omega) only[AA,hd,Ac,Ad,Ae]))
 rfl
theorem AaT[HA K]{w:List Nat}(hd:AM w=true):K 235 [.s [114,101,116,117,114,110,115],.s w] [.n (Bf w 1)]:=by
 have hl:=(Ah hd).l;refine qb EK rfl ?_;simp only[EK];simp(disch:=first|omega|simp only[vl];omega) only[AA];repeat(first|(refine AD (Bt (K:=K) (w:=w) (by omega)) rfl ?_;try simp(disch:=first|omega|simp only[vl];omega) only[AA,hd,Ac,Ad,Ae])|(refine AD (AbI (K:=K) hd) rfl ?_;try simp(disch:=first|omega|simp only[vl];omega) only[AA,hd,Ac,Ad,Ae]))
 rfl
theorem AYE[HA K]{w:List Nat}(hd:AM w=true):K 235 [.s [114,105,115,101],.s w] [.n (Bf w 2)]:=by
 have hl:=(Ah hd).l;refine qb EK rfl ?_;simp only[EK];simp(disch:=first|omega|simp only[vl];omega) only[AA];repeat(first|(refine AD (Bt (K:=K) (w:=w) (by omega)) rfl ?_;try simp(disch:=first|omega|simp only[vl];omega) only[AA,hd,Ac,Ad,Ae])|(refine AD (AT3 (K:=K) (w:=w) (by omega)) rfl ?_;try simp(disch:=first|omega|simp only[vl];omega) only[AA,hd,Ac,Ad,Ae]))
 rfl
theorem AUR[HA K]{w:List Nat}(hd:AM w=true):K 235 [.s [97,114,101,97],.s w] [.n (Bf w 3)]:=by
 have hl:=(Ah hd).l;refine qb EK rfl ?_;simp only[EK];simp(disch:=first|omega|simp only[vl];omega) only[AA];repeat(first|(refine AD (Bt (K:=K) (w:=w) (by omega)) rfl ?_;try simp(disch:=first|omega|simp only[vl];omega) only[AA,hd,Ac,Ad,Ae])|(refine AD (AaD (K:=K) hd) rfl ?_;try simp(disch:=first|omega|simp only[vl];omega) only[AA,hd,Ac,Ad,Ae]))
 rfl
theorem AS1[HA K]{w:List Nat}(hd:AM w=true):K 235 [.s [100,101,112,116,104],.s w] [.n (Bf w 4)]:=by
 have hl:=(Ah hd).l;refine qb EK rfl ?_;simp only[EK];simp(disch:=first|omega|simp only[vl];omega) only[AA];repeat(first|(refine AD (Bt (K:=K) (w:=w) (by omega)) rfl ?_;try simp(disch:=first|omega|simp only[vl];omega) only[AA,hd,Ac,Ad,Ae])|(refine AD (AKJ (K:=K) hd) rfl ?_;try simp(disch:=first|omega|simp only[vl];omega) only[AA,hd,Ac,Ad,Ae])|(refine AD (dp_s (K:=K) hd) rfl ?_;try simp(disch:=first|omega|simp only[vl];omega) only[AA,hd,Ac,Ad,Ae]))
 rfl
theorem AbJ[HA K]{w:List Nat}(hd:AM w=true):K 235 [.s [108,101,97,118,101,115],.s w] [.n (Bf w 5)]:=by
 have hl:=(Ah hd).l;refine qb EK rfl ?_;simp only[EK];simp(disch:=first|omega|simp only[vl];omega) only[AA];have hpl:=KR hd;repeat(first|(refine AD (Bt (K:=K) (w:=w) (by omega)) rfl ?_;try simp(disch:=first|omega|simp only[vl];omega) only[AA,hd,Ac,Ad,Ae])|(refine AD (ZS (K:=K) hd) rfl ?_;try simp(disch:=first|omega|simp only[vl];omega) only[AA,hd,Ac,Ad,Ae])|(refine AD (AaM (K:=K) (p:=Dv w) (by omega)) rfl ?_;try simp(disch:=first|omega|simp only[vl];omega) only[AA,hd,Ac,Ad,Ae]))
 rfl
theorem AZO[HA K]{w:List Nat}(hd:AM w=true):K 235 [.s [98,108,111,99,107,115],.s w] [.n (Bf w 6)]:=by
 have hl:=(Ah hd).l;refine qb EK rfl ?_;simp only[EK];simp(disch:=first|omega|simp only[vl];omega) only[AA];have hpl:=MB hd;repeat(first|(refine AD (Bt (K:=K) (w:=w) (by omega)) rfl ?_;try simp(disch:=first|omega|simp only[vl];omega) only[AA,hd,Ac,Ad,Ae])|(refine AD (Zb (K:=K) hd) rfl ?_;try simp(disch:=first|omega|simp only[vl];omega) only[AA,hd,Ac,Ad,Ae])|(refine AD (SP (K:=K) (p:=DO w) (by omega)) rfl ?_;try simp(disch:=first|omega|simp only[vl];omega) only[AA,hd,Ac,Ad,Ae]))
 rfl
theorem AS9[HA K]{w:List Nat}(hd:AM w=true):K 235 [.s [109,97,106,111,114],.s w] [.n (Bf w 7)]:=by
 have hl:=(Ah hd).l;refine qb EK rfl ?_;simp only[EK];simp(disch:=first|omega|simp only[vl];omega) only[AA];repeat(first|(refine AD (Bt (K:=K) (w:=w) (by omega)) rfl ?_;try simp(disch:=first|omega|simp only[vl];omega) only[AA,hd,Ac,Ad,Ae])|(refine AD (ATT (K:=K) hd) rfl ?_;try simp(disch:=first|omega|simp only[vl];omega) only[AA,hd,Ac,Ad,Ae]))
 rfl
theorem AaF[HA K]{w:List Nat}(hd:AM w=true):K 235 [.s [102,97,108,108],.s w] [.n (Bf w 8)]:=by
 have hl:=(Ah hd).l;refine qb EK rfl ?_;simp only[EK];simp(disch:=first|omega|simp only[vl];omega) only[AA];repeat(first|(refine AD (Bt (K:=K) (w:=w) (by omega)) rfl ?_;try simp(disch:=first|omega|simp only[vl];omega) only[AA,hd,Ac,Ad,Ae])|(refine AD (AaO (K:=K) (w:=w) (by omega)) rfl ?_;try simp(disch:=first|omega|simp only[vl];omega) only[AA,hd,Ac,Ad,Ae]))
 rfl
theorem ATO[HA K]{w:List Nat}(hd:AM w=true):∀i:Nat,i<9→K 500 [.s (AO Fz i),.s w] [.n (Bf w i)]
 |0,_=>AdO hd
 |1,_=>AcO hd
 |2,_=>AWI hd
 |3,_=>AYW hd
 |4,_=>AbX hd
 |5,_=>AZE hd
 |6,_=>ATC hd
 |7,_=>AcD hd
 |8,_=>Ab5 hd
 |i+9,h=>absurd h (by omega)
theorem ASF[HA K]{w:List Nat}(hd:AM w=true):∀i:Nat,i<9→K 235 [.s (AO Fz i),.s w] [.n (Bf w i)]
 |0,_=>AQZ hd
 |1,_=>AaT hd
 |2,_=>AYE hd
 |3,_=>AUR hd
 |4,_=>AS1 hd
 |5,_=>AbJ hd
 |6,_=>AZO hd
 |7,_=>AS9 hd
 |8,_=>AaF hd
 |i+9,h=>absurd h (by omega)
theorem UF{w:List Nat}(hd:AM w=true):∀i:Nat,-1000≤Bf w i∧Bf w i≤1000
 |0=>by
  have hl:=(Ah hd).l
  have:=Jb (a:=117) (b:=100) (g:=fun _=>1) (w:=w) (fun _ _=>by omega) (i:=w.length-1) (by omega)
  simp only[Bf];omega
 |1=>by
  have hl:=(Ah hd).l
  have:=AGR (w:=w) (i:=w.length)
  simp only[Bf];omega
 |2=>by
  have hl:=(Ah hd).l
  have:=KF (c:=117) w
  simp only[Bf];omega
 |3=>by
  have hl:=(Ah hd).l
  have:=Q2 hl (i:=w.length) (by omega)
  simp only[Bf];omega
 |4=>by
  have hl:=(Ah hd).l
  have:=AMW (w:=w) (w.length+1)
  simp only[Bf];omega
 |5=>by
  have hl:=KR hd
  have:=Sa (p:=Dv w) (i:=(Dv w).length)
  simp only[Bf];omega
 |6=>by
  have hl:=MB hd
  simp only[Bf]
  split
  ·rename_i h
   simp only[CJ,AX,Aj]at h
   have h1:=Jw (p:=DO w) h.2
   have h2:=H5 h.2
   omega
  ·simp
 |7=>by
  have hl:=(Ah hd).l
  have:=Jb (a:=100) (b:=117) (g:=fun j=>j+1) (w:=w) (fun _ _=>by omega) (i:=w.length-1) (by omega)
  simp only[Bf];omega
 |8=>by
  have hl:=(Ah hd).l
  have:=KF (c:=100) w.reverse
  rw[List.length_reverse]at this
  simp only[Bf];omega
 |i+9=>by simp only[Bf];omega
theorem Gb[HA K]{ws:List (List Nat)}(hl:ws.length≤100000)(hb:∀x∈ws,x.length≤100000):K 141 [LS ws] [.s (glue [32] ws)]:=by refine qb AQF rfl ?_;simp only[AQF];simp(disch:=first|omega|simp only[vl];omega) only[AA];refine AD (JI (K:=K) (ws:=ws) (sep:=[32]) hl hb (by simp)) rfl ?_;simp(disch:=first|omega|simp only[vl];omega) only[AA]
theorem Ve{s a b c:List Nat}:glue s [a,b,c]=a++s++b++s++c:=by simp[glue,BN,AO]
theorem AbO{s a b c d:List Nat}:glue s [a,b,c,d]=a++s++b++s++c++s++d:=by simp[glue,BN,AO]
theorem Mx{a b c d:List Nat}:C2 [.s a,.s b,.s c,.s d]=some (LS [a,b,c,d]):=rfl
theorem UP{a b c:List Nat}:C2 [.s a,.s b,.s c]=some (LS [a,b,c]):=rfl
noncomputable def Gj(w:List Nat):Nat→List Nat
 |0=>[112,97,116,104]++[32]++Ai (Fx w)++[32]++[114,97,110,107]++[32]++Ai (DU w)
 |i+1=>Gj w i++[32]++AO Fz i++[32]++Ai (Bf w i)
theorem R3{i:Nat}:(AO Fz i).length≤10:=Ql (b:=10) (ws:=Fz) (by decide)
theorem Kr{w:List Nat}(hd:AM w=true):-1≤DU w∧DU w≤1430:=by simp only[DU,hd,if_true];obtain⟨g,hl⟩:=Tv hd;have h1:=(VV w _ _ g).1;have h2:=R5 (u:=w.length/2) (d:=w.length/2) (by omega) (by omega);omega
theorem Ta{w:List Nat}(hd:AM w=true):Fx w=(w.length:Int)/2:=by simp[Fx,hd]
theorem V7{w:List Nat}(hd:AM w=true):∀i:Nat,(Gj w i).length≤60+i*40
 |0=>by
  have hl:=(Ah hd).l
  have h1:=Kr hd
  have h2:=Ta hd
  have h3:=BB (n:=DU w) (by omega)
  have h4:=BB (n:=Fx w) (by omega)
  simp only[Gj,A7,AY,Ap];omega
 |i+1=>by
  have h:=V7 hd i
  have h1:=UF hd i
  have h3:=BB (n:=Bf w i) (by omega)
  have h4:=R3 (i:=i)
  simp only[Gj,A7,AY,Ap];omega
theorem Aa7[HA K]{w:List Nat}(h:w.length≤1048576):K 458 [.s w] [.s (if AM w=true then Gj w 9 else [])]:=by
 refine qb Ze rfl ?_;simp only[Ze];simp(disch:=first|omega|simp only[vl];omega) only[AA]
 cases hd:AM w
 ·repeat(first|(refine AD (Bv (K:=K) (w:=w) (by omega)) rfl ?_;try simp(disch:=first|omega|simp only[vl];omega) only[AA,hd]))
  rfl
 ·have hl:=(Ah hd).l;have h1:=Kr hd;have h2:=Ta hd;have h3:=BB (n:=DU w) (by omega);have h4:=BB (n:=Fx w) (by omega);repeat(first|(refine AD (Bv (K:=K) (w:=w) (by omega)) rfl ?_;try simp(disch:=first|omega|simp only[vl];omega) only[AA,hd,Mx])|(refine AD (AZQ (K:=K) (w:=w) (by omega)) rfl ?_;try simp(disch:=first|omega|simp only[vl];omega) only[AA,hd,Mx])|(refine AD (CZ (K:=K) (n:=Fx w) (by omega)) rfl ?_;try simp(disch:=first|omega|simp only[vl];omega) only[AA,hd,Mx])|(refine AD (AL7 (K:=K) (w:=w) (by omega)) rfl ?_;try simp(disch:=first|omega|simp only[vl];omega) only[AA,hd,Mx])|(refine AD (CZ (K:=K) (n:=DU w) (by omega)) rfl ?_;try simp(disch:=first|omega|simp only[vl];omega) only[AA,hd,Mx]))
  have kl:=Gb (K:=K) (ws:=[[112,97,116,104],Ai (Fx w),[114,97,110,107],Ai (DU w)]) (by simp) (by simp;omega);refine AD (kl) rfl ?_;simp(disch:=first|omega|simp only[vl];omega) only[AA,AbO];refine AD (AZN (K:=K)) rfl ?_;have e9:Fz.length=9:=rfl;simp(disch:=first|omega|simp only[vl];omega) only[AA];refine AL (fun _=>True) (fun i=>[.s w,.u,.s (Gj w i),.u,.u,LS Fz,.n 9,.n i,.u]) 9 trivial rfl (fun i hi _=>?_) (fun _=>?_)
  ·have b1:=UF hd i;have b3:=BB (n:=Bf w i) (by omega);have b4:=R3 (i:=i);have b5:=V7 hd i;simp(disch:=first|omega|simp only[vl];omega) only[AA];refine AD (ATO (K:=K) hd i hi) rfl ?_;simp(disch:=first|omega|simp only[vl];omega) only[AA];refine AD (CZ (K:=K) (n:=Bf w i) (by omega)) rfl ?_;simp(disch:=first|omega|simp only[vl];omega) only[AA,UP];have kl:=Gb (K:=K) (ws:=[Gj w i,AO Fz i,Ai (Bf w i)]) (by simp) (by simp;omega);refine AD (kl) rfl ?_;simp(disch:=first|omega|simp only[vl];omega) only[AA,Ve];rfl
  ·simp(disch:=first|omega|simp only[vl];omega) only[AA]
theorem AdD[HA K]{w:List Nat}(h:w.length≤1048576):K 457 [.s w] [.s (if AM w=true then Gj w 9 else [])]:=by
 refine qb AES rfl ?_;simp only[AES];simp(disch:=first|omega|simp only[vl];omega) only[AA]
 cases hd:AM w
 ·repeat(first|(refine AD (Bt (K:=K) (w:=w) (by omega)) rfl ?_;try simp(disch:=first|omega|simp only[vl];omega) only[AA,hd]))
  rfl
 ·have hl:=(Ah hd).l;have h1:=Kr hd;have h2:=Ta hd;have h3:=BB (n:=DU w) (by omega);have h4:=BB (n:=Fx w) (by omega);have kf:=Bp (K:=K) (n:=Fx w) (by omega);rw[h2]at kf h4;repeat(first|(refine AD (Bt (K:=K) (w:=w) (by omega)) rfl ?_;try simp(disch:=first|omega|simp only[vl];omega) only[AA,hd])|(refine AD (kf) rfl ?_;try simp(disch:=first|omega|simp only[vl];omega) only[AA,hd])|(refine AD (AC9 (K:=K) (w:=w) (by omega)) rfl ?_;try simp(disch:=first|omega|simp only[vl];omega) only[AA,hd])|(refine AD (Bp (K:=K) (n:=DU w) (by omega)) rfl ?_;try simp(disch:=first|omega|simp only[vl];omega) only[AA,hd]))
  refine AD (AU9 (K:=K)) rfl ?_;have e9:Fz.length=9:=rfl;simp(disch:=first|omega|simp only[vl];omega) only[AA];refine AL (fun _=>True) (fun i=>[.s w,.u,.s (Gj w i),LS Fz,.n i,.u,.u]) 9 trivial (by simp[Gj,h2]) (fun i hi _=>?_) (fun _=>?_)
  ·have b1:=UF hd i;have b3:=BB (n:=Bf w i) (by omega);have b4:=R3 (i:=i);have b5:=V7 hd i;simp(disch:=first|omega|simp only[vl];omega) only[AA];refine AD (ASF (K:=K) hd i hi) rfl ?_;simp(disch:=first|omega|simp only[vl];omega) only[AA];refine AD (Bp (K:=K) (n:=Bf w i) (by omega)) rfl ?_;simp(disch:=first|omega|simp only[vl];omega) only[AA];rfl
  ·simp(disch:=first|omega|simp only[vl];omega) only[AA]
end Go.Cat
namespace Go.Cat
variable{K:Nat→List D→List D→Prop}
def pat(p:List Int)(i j k:Nat):Prop:=i<j∧j<k∧k<p.length∧AE p k<AE p i∧AE p i<AE p j
def first(p:List Int)(t:Nat×Nat×Nat):Prop:=pat p t.1 t.2.1 t.2.2∧∀i j k,pat p i j k→¬(i<t.1∨(i=t.1∧(j<t.2.1∨(j=t.2.1∧k<t.2.2))))
end Go.Cat
namespace Go.Cat
variable{K:Nat→List D→List D→Prop}
set_option maxRecDepth 100000
end Go.Cat
namespace Go.Cat
variable{K:Nat→List D→List D→Prop}
end Go.Cat
namespace Go.Cat
variable{K:Nat→List D→List D→Prop}
set_option maxRecDepth 100000
end Go.Cat
namespace Go.Cat
variable{K:Nat→List D→List D→Prop}
set_option maxRecDepth 100000
end Go.Cat
