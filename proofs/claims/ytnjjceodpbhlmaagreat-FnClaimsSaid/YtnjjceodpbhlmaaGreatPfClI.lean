/-
 Claims of sorting, of friezes, of meanders: made and accepted.
-/
import Derived.Test.YtnjjceodpbhlmaaGreatPfClH
import Derived.Test.YtnjjceodpbhlmaaGreatPfLCSo
import Derived.Test.YtnjjceodpbhlmaaGreatPfClC
set_option linter.unusedSimpArgs false
set_option linter.unusedVariables false
namespace Go.Cat
variable {K:Nat→List D→List D→Prop}
set_option maxRecDepth 100000
def OZ (p:List Int):Bool:=Cy p || (let w:=Ce p [] 0; YC w&&decide (w.length=2*p.length)&&I8 (DD w p []) 0)
theorem AOZ:Ez 6 (fun n=>(lA n n []).all OZ)=true:=by kernel_rfl
theorem AQG:Ez 6 (fun i=>(lA 6 5 [(i:Nat)]).all OZ)=true:=by kernel_rfl
theorem AGL {p:List Int} (h:BF p=true) (hl:p.length≤6):OZ p=true:=by
 have hm:=AQX h
 by_cases h6:p.length<6
 ·exact BD.1 (Ep AOZ p.length h6) p hm
 ·rw [show p.length=6 by omega] at hm
  obtain ⟨x,hx,hm⟩:=ALW hm
  exact BD.1 (Ep AQG x hx) p (by simpa using hm)
theorem AOW {p:List Int} (h6:p.length≤6) (h:CU p=true):DG (CG p) p=true∧Fi (C2 (CG p) p)=true:=by
 have hp:BF p=true∧Cy p=false:=by simpa [CU] using h
 have hc:=AGL hp.1 h6
 simp only [OZ,hp.2,Bool.false_or,Ac,Aj] at hc
 obtain ⟨⟨d1,d2⟩,d3⟩:=hc
 have e:CG p=Ce p [] 0:=by simp [CG,h]
 have hd:BW (Ce p [] 0)=true:=by
  unfold YC at d1
  cases hw:Az (Ce p [] 0) 0 with
  | none=>rw [hw] at d1; cases d1
  | some v=>
   rw [hw] at d1
   simp only [Aj] at d1
   simp [BW,hw,d1]
   omega
 have ho:DG (CG p) p=true:=by rw [e]; simp [DG,hd,hp.1,d2]
 refine ⟨ho,?_⟩
 unfold C2
 rw [if_pos ho,e,ARH]
 exact d3
theorem AF8 [HA K] {p:List Int} (h6:p.length≤6):CX (CG p) [] [] (ER p) (ES p) []∧K 121 [LI p] [Ev p,.b (BF p)]∧K 120 [LI p] [Ev p,.b (BF p)]∧(BF p=true→K 626 [Ev p] [.b true]):=by
 have hpl:=AJN (p:=p)
 have hrl:=AJY (p:=p)
 have hc:CX (CG p) [] [] (ER p) (ES p) []:=by
  refine ⟨by omega,by simp,by simp,?_,?_,by simp,by simp⟩
  ·unfold ER; split
   ·omega
   ·simp
  ·unfold ES; split
   ·simp
   ·split
    ·omega
    ·simp
 refine ⟨hc,AKU (K:=K) (by omega),AKY (K:=K) (by omega),fun hp=>?_⟩
 cases ho:CU p
 ·have h2:Cf p=true:=by
   have:Cy p=true:=by simpa [CU,hp] using ho
   simp [Cf,hp,this]
  rw [← X0] at h2
  have hu:=AP0 h2
  have:=XB (K:=K) (f:=CG p) (s:=[]) hc.sm
  have e1:ER p=p:=by simp [ER,hp]
  have e2:ES p=E3 p:=by simp [ES,ho,hp]
  rw [e1,e2,hu] at this
  simp only [Ev,G3,ER,ES,ho,hp]
  simpa using this
 ·obtain ⟨o1,o2⟩:=AOW h6 ho
  have e1:ER p=p:=by simp [ER,hp]
  have e2:ES p=[]:=by simp [ES,ho]
  have k1:=Ue (K:=K) (w:=CG p) (p:=p) (by omega) (by omega)
  have hol:=ABZ (w:=CG p) (p:=p)
  have ha:=U5 o1
  rw [o2] at ha
  rw [o1] at k1
  have k2:=AEH (K:=K) (p:=C2 (CG p) p) (by omega)
  rw [ha] at k2
  generalize C2 (CG p) p=l at k1 k2
  simp only [Ev,G3,e1,e2,ho]
  refine AG (f:=CN) rfl ?_; simp only [CN,zu]
  simp (disch:=omega) only [AA,AU,AV,A4]
  refine AE (k1) rfl ?_
  simp (disch:=omega) only [AA]
  refine AE (k2) rfl ?_
  simp (disch:=omega) only [AA]
theorem AK1 {q:List Int} (h:q.length≤9):(D7 q).length≤6∧∀ y∈D7 q,Bl y:=by
 obtain ⟨h1,h2⟩:=ACE (q:=q)
 unfold D7
 split
 ·rename_i hb
  refine ⟨?_,Vl h2⟩
  rw [WV]
  unfold BZ
  split
  ·cases e:DB (q.length-3) q (Dz q.length) [] with
   | none=>simp [Ex]
   | some x=>
    have:=(S7 e).1
    simp only [Ex,Aq] at this ⊢
    omega
  ·simp [Ex]
 ·simp
theorem AEN {q:List Int} (h:C5 (BZ q)=false):D7 q=[]:=by rw [D7,if_neg (by simp [h])]
theorem AFV {x:List (List Int)}:BH 1 (LL x,1)=true:=by
 simp [BH,LL,D.one]
theorem QQ {x:List Int}:BH 1 (LI x,1)=true:=by simp [BH,LI,D.one,Be,D.flat]
theorem NP:BH 1 (.l [],1)=true:=by simp [BH,D.one,Be,D.flat]
abbrev HF (q:List Int):D:=CL (if C5 (BZ q) then 5 else 0) [] [] [] (if C5 (BZ q) then q else []) [] (D7 q)
theorem Tn {q:List Int} (h:q.length≤9):CX [] [] [] (if C5 (BZ q) then q else []) [] (D7 q):=by
 obtain ⟨h1,h2⟩:=AK1 h
 refine ⟨by simp,by simp,by simp,?_,by simp,h1,fun x hx=>by have:=h2 x hx; unfold Bl at this; omega⟩
 split
 ·omega
 ·simp
theorem AK0 {p:List Int} (h:p.length≤1048576):DQ true (.l []) (LI p)=some (LI p):=I6 (zs:=[]) (by simp; omega)
theorem XT:BH 0 (.l [],1)=true:=by simp [BH,D.one]
theorem ASF [HA K] [HH K] {q:List Int} (h:q.length≤1048576):K 336 [LI q] [HF q,.b (C5 (BZ q))]:=by
 refine AG (f:=LM) rfl ?_; simp only [LM,zu]
 simp (disch:=omega) only [AA]
 refine AE (AHH (K:=K) h) rfl ?_
 cases hb:C5 (BZ q)
 ·rw [HF,AEN hb,hb]
  simp (disch:=omega) only [AA,QQ,NP]
  rfl
 ·simp (disch:=omega) only [AA]
  refine AE (K6 (K:=K) (p:=q) (by omega)) rfl ?_
  simp (disch:=omega) only [AA,QQ,NP,AFV]
  rw [HF,hb]
  rfl
theorem AF3 [HA K] {q:List Int} (h:q.length≤1048576):K 335 [LI q] [HF q,.b (C5 (BZ q))]:=by
 refine AG (f:=Lb) rfl ?_; simp only [Lb,zu]
 simp (disch:=omega) only [AA]
 refine AE (ASB (K:=K) h) rfl ?_
 cases hb:C5 (BZ q)
 ·rw [HF,AEN hb,hb]
  simp (disch:=omega) only [AA,QQ,NP,XT]
  rfl
 ·simp (disch:=omega) only [AA,AK0,XT,QQ,NP,AFV]
  rw [HF,hb]
  rfl
theorem mkFr [HA K] [H9 K] {q:List Int} (h9:q.length≤9) (hb:C5 (BZ q)=true):K 626 [HF q] [.b true]:=by
 have hc:=Tn h9
 obtain ⟨t1,t2⟩:=AMJ hb h9
 have h3:3≤q.length:=by
  cases e:D9 q with
  | true=>exact (JZ.1 e).2.1
  | false=>rw [OD e] at hb; cases hb
 have hr:∀ x∈D7 q,x.length≤1099511627776:=fun x hx=>by have:=hc.lrs x hx; omega
 have k1:=P1 (K:=K) (n:=q.length) (d:=D7 q) (by omega) (by have:=hc.lr; omega) hr
 rw [t1] at k1
 have k2:=AFL (K:=K) t1 h3
 rw [t2] at k2
 rw [HF,hb]
 simp only [if_true]
 refine AG (f:=CN) rfl ?_; simp only [CN,zu]
 simp (disch:=omega) only [AA,AU,AV,A4]
 refine AE (k1) rfl ?_
 simp (disch:=omega) only [AA,AU,AV,A4]
 refine AE (k2) rfl ?_
 simp (disch:=omega) only [AA,AU,AV,A4]
 refine AE (K9 (K:=K) (a:=q) (b:=q) (by omega)) rfl ?_
 simp (disch:=omega) only [AA]
theorem AEA {a b:List Int}:∀ {ms:List (List Int)},EM a ms=some b→Fx a b=1
 | [],h=>by cases h
 | c::ms,h=>by
  simp only [EM] at h
  split at h
  ·rename_i e
   injection h with h
   rw [← h]; exact e
  ·exact AEA h
theorem U4 [HA K] {a:List Int} (h:a.length≤16):∃ r:Option (List Int),CX [] [] [] (if r.isSome then a else []) (r.getD []) []∧K 334 [LI a] [cmC a r,.b r.isSome]∧K 333 [LI a] [cmC a r,.b r.isSome]∧(r.isSome=true→K 626 [cmC a r] [.b true]):=by
 obtain ⟨rs,⟨ms,hms,hrs⟩,k1⟩:=APB (K:=K) (a:=a) (by omega)
 have k2:=AGY (K:=K) (a:=a) (by omega) hms
 rw [← hrs] at k2
 obtain ⟨r,hr,e⟩:∃ r:Option (List Int),(∀ b,r=some b→a.length≤12∧b.length≤12∧Ea a b=1)∧rs=[LI (r.getD []),.b r.isSome]:=by
  by_cases q:Bt a=true∧2≤a.length∧a.length≤12
  ·rw [if_pos q] at hrs
   refine ⟨_,fun b hb=>?_,hrs⟩
   have ho:=AEA hb
   obtain ⟨w,hw,hp⟩:=AL9 (hms q.1 q.2.1 q.2.2) (Wf hb)
   have hwl:=(OI (n:=a.length / 2) (by omega) hw).2
   have hpl:=hp.1
   have hnb:=AAO (by omega) hp
   have hab:b.length=a.length:=by
    have hm:CS a=true:=by have:=q.1; simp [Bt] at this; exact this.1
    have hev:=Oh hm
    omega
   refine ⟨q.2.2,by omega,?_⟩
   simp [Ea,q.1,hnb,hab,ho]
  ·rw [if_neg q] at hrs
   exact ⟨none,fun b hb=>by (cases hb),hrs⟩
 subst e
 have hc:CX [] [] [] (if r.isSome then a else []) (r.getD []) []:=by
  refine ⟨by simp,by simp,by simp,?_,?_,by simp,by simp⟩
  ·split
   ·omega
   ·simp
  ·cases r with
   | none=>simp
   | some b=>have:=(hr b rfl).2.1; simp; omega
 refine ⟨r,hc,?_,?_,fun q=>?_⟩
 ·refine AG (f:=MB) rfl ?_; simp only [MB,zu]
  simp (disch:=omega) only [AA]
  refine AE (k1) rfl ?_
  cases r with
  | none=>
   simp (disch:=omega) only [AA,Pj,P2,Option.isSome_none]
   rfl
  | some b=>
   simp only [Option.isSome_some]
   simp (disch:=omega) only [AA]
   refine AE (K6 (K:=K) (p:=a) (by omega)) rfl ?_
   simp (disch:=omega) only [AA,Pj,P2,Option.isSome_some,Option.getD_some]
   rfl
 ·refine AG (f:=Lx) rfl ?_; simp only [Lx,zu]
  simp (disch:=omega) only [AA]
  refine AE (k2) rfl ?_
  cases r with
  | none=>
   simp (disch:=omega) only [AA,Pj,P2,Option.isSome_none]
   rfl
  | some b=>
   simp (disch:=omega) only [AA,Pj,P2,Option.isSome_some,Option.getD_some,APG]
   rfl
 ·cases r with
  | none=>cases q
  | some b=>
   have:=AEL (K:=K) (f:=[]) (s:=[]) hc.sm
   simp only [Option.isSome_some,if_true,Option.getD_some] at this
   rw [(hr b rfl).2.2] at this
   exact this
end Go.Cat
