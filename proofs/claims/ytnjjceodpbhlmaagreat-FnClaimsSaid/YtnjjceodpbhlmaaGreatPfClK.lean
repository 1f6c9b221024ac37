/-
 What is accepted is true.
-/
import Derived.Test.YtnjjceodpbhlmaaGreatPfClI
set_option linter.unusedSimpArgs false
set_option linter.unusedVariables false
namespace Go.Cat
variable {K:Nat→List D→List D→Prop}
set_option maxRecDepth 100000
theorem AJ2 {x y z:BT} (h1:C9 x y) (h2:C9 y z):C9 x z:=
 ⟨h1.1.trans h2.1,fun i hi=>Int.le_trans (h1.2 i hi) (h2.2 i (by have:=h1.1; omega))⟩
theorem ARD {t:List (List Nat)} (hw:Cr t=true) (hc:Fy gT t=true):∃ x y:BT,AL t 0=x.t∧AL t ((t.length:Int)-1)=y.t∧x.n≤8∧y.n≤8∧C9 x y:=by
 obtain ⟨h1,h2,h3⟩:=Jp.1 hw
 have hg:=of_decide_eq_true hc
 have tr:∀ i:Nat,i<t.length→∃ x:BT,AL t i=x.t∧x.n≤8:=fun i hi=>Rt h2 (fun j hj=>h3 j (by omega))
 obtain ⟨x,hx,hx8⟩:=tr 0 (by omega)
 have key:∀ i:Nat,i<t.length→∃ y:BT,AL t i=y.t∧y.n≤8∧C9 x y:=fun i=>by
  induction i with
  | zero=>exact fun _=>⟨x,hx,hx8,rfl,fun _ _=>Int.le_refl _⟩
  | succ i ih=>
   intro hi
   obtain ⟨y,y1,y2,y3⟩:=ih (by omega)
   obtain ⟨z,z1,z2⟩:=tr (i+1) hi
   have:=hg i (by omega)
   rw [show (i:Int)+1=((i+1:Nat):Int) by omega,y1,z1,QX y2 z2] at this
   exact ⟨z,z1,z2,AJ2 y3 (FL.1 this)⟩
 obtain ⟨y,y1,y2,y3⟩:=key (t.length-1) (by omega)
 refine ⟨x,y,hx,?_,hx8,y2,y3⟩
 rw [show (t.length:Int)-1=((t.length-1:Nat):Int) by omega]
 exact y1
theorem AIB {f s:List Nat} {t:List (List Nat)} (h:Ci f s t=true):Cr t=true∧AL t 0=f∧AL t ((t.length:Int)-1)=s:=by
 simp only [Ci,Ac,beq_iff_eq] at h
 exact h
theorem tru [HA K] [Cm K 201 C7] [HA K] [CZ K] [H9 K] {k:Int} {f s:List Nat} {t:List (List Nat)} {n o:List Int} {r:List (List Int)} (h:CX f s t n o r):∃ b,K 626 [CL k f s t n o r] [.b b]∧K 625 [CL k f s t n o r] [.b b]∧(b=true→(1≤k∧k≤6)∧
  (k=1→K 349 [.s f,.s s] [.b true])∧(k=2→K 612 [.s f,.s s] [.n ((t.length:Int)-1)])∧(k=3→K 186 [LI n] [.b false])∧(k=4→K 186 [LI n] [.b true])∧
  (k=5→K 361 [LI n] [.b true])∧(k=6→K 371 [LI n,LI o] [.n 1])):=by
 have hs:=h.sm
 have hgi:=fun a b=>(S5 (K:=K) a b).1
 have hgs:=fun a b=>(S5 (K:=K) a b).2
 have l1:=h.lf
 have l2:=h.ln
 have l3:=h.lo
 by_cases hk:1≤k∧k≤6
 ·have:k=1∨k=2∨k=3∨k=4∨k=5∨k=6:=by omega
  rcases this with rfl | rfl | rfl | rfl | rfl | rfl
  ·refine ⟨_,AF5 (K:=K) hs hgi,AHD (K:=K) hs hgs,fun hb=>⟨by omega,fun _=>?_,fun q=>by omega,fun q=>by omega,fun q=>by omega,fun q=>by omega,fun q=>by omega⟩⟩
   rw [Ac] at hb
   obtain ⟨p1,p2,p3⟩:=AIB hb.1
   obtain ⟨x,y,q1,q2,q3,q4,q5⟩:=ARD p1 hb.2
   rw [← p2,← p3,q1,q2]
   have:=L0 (K:=K) q3 q4
   rw [FL.2 q5] at this
   exact this
  ·obtain ⟨v,_,_,v1,v2⟩:=AKC (K:=K) f s
   refine ⟨_,AEG (K:=K) hs v1,AQP (K:=K) hs hgs v2,fun hb=>⟨by omega,fun q=>by omega,fun _=>?_,fun q=>by omega,fun q=>by omega,fun q=>by omega,fun q=>by omega⟩⟩
   rw [Ac,Aj] at hb
   rw [hb.2]
   exact v2
  ·cases hp:BF n
   ·have k1:=AJR (K:=K) (w:=f) (p:=n) (by omega) (by omega) hp
    have k2:=AHI (K:=K) (w:=f) (p:=n) (by omega) (by omega) hp
    refine ⟨false,?_,?_,fun q=>by cases q⟩
    ·refine AG (f:=CN) rfl ?_; simp only [CN,zu]
     simp (disch:=omega) only [AA,AU,AV,A4]
     refine AE (k1) rfl ?_
     simp (disch:=omega) only [AA]
    ·refine AG (f:=Ca) rfl ?_; simp only [Ca,zu]
     simp (disch:=omega) only [AA,AU,AV,A4]
     refine AE (k2) rfl ?_
     simp (disch:=omega) only [AA]
   ·have k1:=Ue (K:=K) (w:=f) (p:=n) (by omega) (by omega)
    have k2:=AR4 (K:=K) (w:=f) (p:=n) (by omega) (by omega)
    have hol:=ABZ (w:=f) (p:=n)
    cases ho:DG f n
    ·rw [ho] at k1 k2
     refine ⟨false,?_,?_,fun q=>by cases q⟩
     ·refine AG (f:=CN) rfl ?_; simp only [CN,zu]
      simp (disch:=omega) only [AA,AU,AV,A4]
      refine AE (k1) rfl ?_
      simp (disch:=omega) only [AA]
     ·refine AG (f:=Ca) rfl ?_; simp only [Ca,zu]
      simp (disch:=omega) only [AA,AU,AV,A4]
      refine AE (k2) rfl ?_
      simp (disch:=omega) only [AA]
    ·rw [ho] at k1 k2
     refine ⟨Fi (C2 f n),?_,?_,fun hb=>⟨by omega,fun q=>by omega,fun q=>by omega,fun _=>?_,fun q=>by omega,fun q=>by omega,fun q=>by omega⟩⟩
     ·refine AG (f:=CN) rfl ?_; simp only [CN,zu]
      simp (disch:=omega) only [AA,AU,AV,A4]
      refine AE (k1) rfl ?_
      simp (disch:=omega) only [AA]
      refine AE (AEH (K:=K) (p:=C2 f n) (by omega)) rfl ?_
      rw [U5 ho]
      simp (disch:=omega) only [AA]
     ·refine AG (f:=Ca) rfl ?_; simp only [Ca,zu]
      simp (disch:=omega) only [AA,AU,AV,A4]
      refine AE (k2) rfl ?_
      simp (disch:=omega) only [AA]
      refine AE (AJE (K:=K) (p:=C2 f n) (by omega)) rfl ?_
      simp (disch:=omega) only [AA]
     ·have:=SD (K:=K) (p:=n) (by omega)
      rw [AMM ho hb] at this
      exact this
  ·refine ⟨_,XB (K:=K) hs,AMT (K:=K) hs,fun hb=>⟨by omega,fun q=>by omega,fun q=>by omega,fun q=>by omega,fun _=>?_,fun q=>by omega,fun q=>by omega⟩⟩
   have:=SD (K:=K) (p:=n) (by omega)
   rw [AJA hb] at this
   exact this
  ·by_cases h3:3≤n.length
   ·have hr:∀ x∈r,x.length≤1099511627776:=fun x hx=>by have:=h.lrs x hx; omega
    have hrl:=h.lr
    have k1:=P1 (K:=K) (n:=n.length) (d:=r) (by omega) (by omega) hr
    have k2:=RN (K:=K) (n:=n.length) (d:=r) (by omega) (by omega) hr
    cases ht:Bh n.length r
    ·rw [ht] at k1 k2
     refine ⟨false,?_,?_,fun q=>by cases q⟩
     ·refine AG (f:=CN) rfl ?_; simp only [CN,zu]
      simp (disch:=omega) only [AA,AU,AV,A4]
      refine AE (k1) rfl ?_
      simp (disch:=omega) only [AA]
     ·refine AG (f:=Ca) rfl ?_; simp only [Ca,zu]
      simp (disch:=omega) only [AA,AU,AV,A4]
      refine AE (k2) rfl ?_
      simp (disch:=omega) only [AA]
    ·rw [ht] at k1 k2
     have k3:=AFL (K:=K) ht h3
     have k4:=UR (K:=K) ht h3
     have hq:=QJ (N:=n.length) (f:=fun v=>cS v (oA n.length r n.length n.length))
     have htq:=AHK ht h3 (by have:=(FP ht).2.1; omega)
     generalize (Cb n.length fun v=>cS v (oA n.length r n.length n.length))=q at k3 k4 hq htq
     refine ⟨decide (q=n),?_,?_,fun hb=>⟨by omega,fun q=>by omega,fun q=>by omega,fun q=>by omega,fun q=>by omega,fun _=>?_,fun q=>by omega⟩⟩
     ·refine AG (f:=CN) rfl ?_; simp only [CN,zu]
      simp (disch:=omega) only [AA,AU,AV,A4]
      refine AE (k1) rfl ?_
      simp (disch:=omega) only [AA,AU,AV,A4]
      refine AE (k3) rfl ?_
      simp (disch:=omega) only [AA,AU,AV,A4]
      refine AE (K9 (K:=K) (a:=q) (b:=n) (by omega)) rfl ?_
      simp (disch:=omega) only [AA]
     ·refine AG (f:=Ca) rfl ?_; simp only [Ca,zu]
      simp (disch:=omega) only [AA,AU,AV,A4]
      refine AE (k2) rfl ?_
      simp (disch:=omega) only [AA,AU,AV,A4]
      refine AE (k4) rfl ?_
      simp (disch:=omega) only [AA,AU,AV,A4]
      refine AE (Od (K:=K) (a:=q) (b:=n) (by omega)) rfl ?_
      simp (disch:=omega) only [AA]
     ·have e:q=n:=of_decide_eq_true hb
      have:=YE (K:=K) (q:=n) (by omega)
      rw [e] at htq
      rw [htq] at this
      exact this
   ·refine ⟨false,?_,?_,fun q=>by cases q⟩
    ·refine AG (f:=CN) rfl ?_; simp only [CN,zu]
     simp (disch:=omega) only [AA,AU,AV,A4]
    ·refine AG (f:=Ca) rfl ?_; simp only [Ca,zu]
     simp (disch:=omega) only [AA,AU,AV,A4]
  ·refine ⟨_,AEL (K:=K) hs,AHZ (K:=K) hs,fun hb=>⟨by omega,fun q=>by omega,fun q=>by omega,fun q=>by omega,fun q=>by omega,fun q=>by omega,fun _=>?_⟩⟩
   have:=AD6 (K:=K) (a:=n) (b:=o) (by omega) (by omega)
   rw [of_decide_eq_true hb] at this
   exact this
 ·exact ⟨false,AG7 (K:=K) hs hk,ARI (K:=K) hs hk,fun q=>by cases q⟩
end Go.Cat
