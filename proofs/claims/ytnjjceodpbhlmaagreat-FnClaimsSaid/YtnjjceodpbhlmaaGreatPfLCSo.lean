/-
 ClaimOfSorting answers as the reference does.
-/
import Derived.Test.YtnjjceodpbhlmaaGreatPfWayD
import Derived.Test.YtnjjceodpbhlmaaGreatPfM231
import Derived.Test.YtnjjceodpbhlmaaGreatIrHas
import Derived.Test.YtnjjceodpbhlmaaGreatPfCkM
set_option linter.unusedSimpArgs false
set_option linter.unusedVariables false
namespace Go.Cat
variable {K:Nat→List D→List D→Prop}
theorem Jy {x:List Int}:BH 1 (LI x,1)=true:=by simp [BH,LI,D.one,Be,D.flat]
theorem Jb:BH 1 (.l [],1)=true:=by simp [BH,D.one,Be,D.flat]
theorem Zv {p:List Int} (h:p.length≤1048576):DQ true (.l []) (LI p)=some (LI p):=I6 (zs:=[]) (by simp; omega)
noncomputable def G3 (p:List Int):Int:=if CU p=true then 3 else if BF p=true then 4 else 0
noncomputable def ER (p:List Int):List Int:=if BF p=true then p else []
noncomputable def ES (p:List Int):List Int:=if CU p=true then [] else if BF p=true then E3 p else []
noncomputable abbrev Ev (p:List Int):D:=CL (G3 p) (CG p) [] [] (ER p) (ES p) []
theorem AKU [HA K] {p:List Int} (h:p.length≤1048576):K 121 [LI p] [Ev p,.b (BF p)]:=by
 refine AG (f:=Ma) rfl ?_; simp only [Ma,zu]
 simp (disch:=omega) only [AA]
 refine AE (Fk (K:=K) (p:=p) (by omega)) rfl ?_
 cases hp:BF p
 ·have e:CU p=false:=by simp [CU,hp]
  have e1:CG p=[]:=by simp [CG,e]
  simp only [Ev,G3,ER,ES,e,e1,hp]
  simp (disch:=omega) only [AA,Jy,Jb]
  rfl
 ·have h8:=(IT hp).1
  simp (disch:=omega) only [AA]
  refine AE (AJT (K:=K) (p:=p) (by omega)) rfl ?_
  cases ho:CU p
  ·have e1:CG p=[]:=by simp [CG,ho]
   simp only [Ev,G3,ER,ES,ho,e1,hp]
   simp (disch:=omega) only [AA]
   refine AE (AG3 (K:=K) (p:=p) (by omega)) rfl ?_
   simp (disch:=omega) only [AA]
   refine AE (K6 (K:=K) (p:=p) (by omega)) rfl ?_
   simp (disch:=omega) only [AA,Jy,Jb]
   rfl
  ·simp only [Ev,G3,ER,ES,ho,hp]
   simp (disch:=omega) only [AA]
   refine AE (K6 (K:=K) (p:=p) (by omega)) rfl ?_
   simp (disch:=omega) only [AA,Jy,Jb]
   rfl
theorem AGF [HA K] {p:List Int} (h:p.length≤1048576) (hp:BF p=false):K 156 [LI p] [.s [],.b false]:=by
 refine AG (f:=IW) rfl ?_; simp only [IW,zu]
 simp (disch:=omega) only [AA]
 repeat (first | (refine AE (FU (K:=K) (by omega)) rfl ?_; try simp (disch:=omega) only [AA,hp]))
theorem AJ4 [HA K] {p:List Int} (h:p.length≤1048576) (hp:BF p=false):K 49 [LI p] [LI [],.b false]:=by
 have h1:=AE8 (K:=K) (p:=p) h
 obtain ⟨e1,e2⟩:=Ok hp
 rw [e1,e2] at h1
 exact h1
theorem AKY [HA K] {p:List Int} (h:p.length≤1048576):K 120 [LI p] [Ev p,.b (BF p)]:=by
 refine AG (f:=Kb) rfl ?_; simp only [Kb,zu]
 cases hp:BF p
 ·have e:CU p=false:=by simp [CU,hp]
  have e1:CG p=[]:=by simp [CG,e]
  simp only [Ev,G3,ER,ES,e,e1,hp]
  simp (disch:=omega) only [AA]
  refine AE (AGF (K:=K) (p:=p) h hp) rfl ?_
  simp (disch:=omega) only [AA]
  refine AE (AJ4 (K:=K) (p:=p) h hp) rfl ?_
  simp (disch:=omega) only [AA,Jy,Jb]
  rfl
 ·have h8:=(IT hp).1
  simp (disch:=omega) only [AA]
  refine AE (AO0 (K:=K) (p:=p) (by omega)) rfl ?_
  cases ho:CU p
  ·have e1:CG p=[]:=by simp [CG,ho]
   have e2:En p=true:=by
    rw [X0]
    simpa [CU,Cf,hp] using ho
   simp only [Ev,G3,ER,ES,ho,e1,hp]
   simp (disch:=omega) only [AA]
   refine AE (AE8 (K:=K) (p:=p) (by omega)) rfl ?_
   simp (disch:=omega) only [AA,Jy,Jb,Zv,e2]
   rfl
  ·simp only [Ev,G3,ER,ES,ho,hp]
   simp (disch:=omega) only [AA,Jy,Jb,Zv]
   rfl
end Go.Cat
namespace Go.Cat
variable {K:Nat→List D→List D→Prop}
set_option maxRecDepth 100000
theorem TW:∀ {w:List Nat} {p st:List Int},Az w st.length=some 0→AB w 117=p.length→(DD w p st).Pairwise (· < ·)→
  st.Pairwise (· < ·)∧(∀ x∈st,E0 x p=false)∧Cy p=false
 | [],p,st,h,hc,hs=>by
  have h1:st=[]:=List.length_eq_zero_iff.1 (by
   have:some (st.length:Int)=some 0:=h
   injection this with this
   omega)
  have h2:p=[]:=List.length_eq_zero_iff.1 (by simpa [AB] using hc.symm)
  rw [h1,h2]
  exact ⟨.nil,by simp,rfl⟩
 | c::w,p,st,h,hc,hs=>by
  rw [IZ] at hc
  simp only [Az] at h
  simp only [DD] at hs
  by_cases hu:c=117
  ·rw [if_pos hu] at h hc hs
   cases p with
   | nil=>simp at hc
   | cons a p=>
    have e0:AD (a::p) 0=a:=rfl
    rw [e0] at hs
    obtain ⟨i1,i2,i3⟩:=TW (w:=w) (p:=p) (st:=a::st) (by simpa using h) (by simp at hc; omega) hs
    rw [List.pairwise_cons] at i1
    refine ⟨i1.2,fun x hx=>?_,?_⟩
    ·have hax:=i1.1 x hx
     rw [SH,i2 x (by simp [hx])]
     have:decide (x<a)=false:=decide_eq_false (by omega)
     rw [this]; rfl
    ·rw [SV,i2 a (by simp),i3]; rfl
  ·rw [if_neg hu] at h hc hs
   by_cases hv:c=100
   ·rw [if_pos hv] at h
    cases st with
    | nil=>
     have:¬ (0:Int)≤-1:=by omega
     simp at h
    | cons y t=>
     have e0:AD (y::t) 0=y:=rfl
     rw [e0] at hs
     have hd:(y::t).drop 1=t:=rfl
     rw [hd,List.pairwise_cons] at hs
     have hl:¬ ((y::t).length:Int)-1<0:=by simp only [A6]; omega
     have hl2:((y::t).length:Int)-1=(t.length:Int):=by simp
     rw [if_neg hl,hl2] at h
     have hp:=Pn (w:=w) (p:=p) (st:=t) h (by omega)
     obtain ⟨i1,i2,i3⟩:=TW (w:=w) (p:=p) (st:=t) h (by omega) hs.2
     have hlt:∀ z∈p++t,y<z:=fun z hz=>hs.1 z (hp.mem_iff.2 hz)
     refine ⟨List.pairwise_cons.2 ⟨fun z hz=>hlt z (by simp [hz]),i1⟩,fun x hx=>?_,i3⟩
     rcases A5.1 hx with q | q
     ·subst q
      rw [Bool.eq_false_iff]
      intro hd
      obtain ⟨j,k,_,hk,h1,_⟩:=Qi.1 hd
      have hm:AD p k∈p:=by simp [AD,hk]
      have:=hlt (AD p k) (by simp [hm])
      omega
     ·exact i2 x q
   ·rw [if_neg hv] at h
    cases h
theorem AOH {l:List Int} (h:Fi l=true):l.Pairwise (· < ·):=by
 simp only [Fi,Aj] at h
 rw [List.pairwise_iff_getElem]
 intro i j hi hj hij
 have h1:=h i hi
 have h2:=h j hj
 simp only [AD,CB,BP,GC hi,GC hj,Option.getD_some] at h1 h2
 omega
theorem AMM {w:List Nat} {p:List Int} (h:DG w p=true) (hi:Fi (C2 w p)=true):Cf p=false:=by
 have e:C2 w p=DD w p []:=by unfold C2; rw [if_pos h]
 rw [e] at hi
 simp only [DG,Ac,Aj] at h
 obtain ⟨⟨h1,h2⟩,h3⟩:=h
 have hc:=NS h1
 have:=TW (w:=w) (p:=p) (st:=[]) (JO h1).1 (by omega) (AOH hi)
 rw [Cf,this.2.2,Bool.and_false]
theorem AJA {p o:List Int} (h:Cj p o=true):Cf p=true:=by
 simp only [Cj,Ac,Aj] at h
 obtain ⟨h1,h2,⟨⟨a0,a1⟩,a2,a3⟩,b1,b2⟩:=h
 rw [Cf,h1,Bool.true_and]
 refine Qt.2 ⟨(AD o 0).toNat,(AD o 1).toNat,(AD o 2).toNat,by omega,by omega,by omega,?_,?_⟩
 ·rw [show (((AD o 2).toNat:Nat):Int)=AD o 2 by omega,show (((AD o 0).toNat:Nat):Int)=AD o 0 by omega]; exact b1
 ·rw [show (((AD o 1).toNat:Nat):Int)=AD o 1 by omega,show (((AD o 0).toNat:Nat):Int)=AD o 0 by omega]; exact b2
theorem AP0 {p:List Int} (h:En p=true):Cj p (E3 p)=true:=by
 simp only [En,Ac,Aj] at h
 have hc:BF p=true∧∃ t,first p t:=h
 have e:E3 p=[(hc.2.choose.1:Int),hc.2.choose.2.1,hc.2.choose.2.2]:=by unfold E3; rw [dif_pos hc]
 obtain ⟨⟨g1,g2,g3,g4,g5⟩,_⟩:=hc.2.choose_spec
 rw [e]
 generalize hc.2.choose=t at g1 g2 g3 g4 g5
 have e0:AD [(t.1:Int),(t.2.1:Int),(t.2.2:Int)] 0=t.1:=rfl
 have e1:AD [(t.1:Int),(t.2.1:Int),(t.2.2:Int)] 1=t.2.1:=rfl
 have e2:AD [(t.1:Int),(t.2.1:Int),(t.2.2:Int)] 2=t.2.2:=rfl
 simp only [Cj,e0,e1,e2,hc.1,Bool.true_and,Ac,Aj]
 exact ⟨rfl,⟨⟨by omega,by omega⟩,by omega,by omega⟩,g4,g5⟩
end Go.Cat
