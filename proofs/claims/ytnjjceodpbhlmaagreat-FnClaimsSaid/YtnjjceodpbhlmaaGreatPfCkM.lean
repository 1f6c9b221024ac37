/-
 Checks of claims: both sides answer alike.
-/
import Derived.Test.YtnjjceodpbhlmaaGreatPfCkL
import Derived.Test.YtnjjceodpbhlmaaGreatPfM231
import Derived.Test.YtnjjceodpbhlmaaGreatPfLFCl
import Derived.Test.YtnjjceodpbhlmaaGreatIrHas
set_option linter.unusedSimpArgs false
set_option linter.unusedVariables false
namespace Go.Cat
variable {K:Nat→List D→List D→Prop}
set_option maxRecDepth 100000
theorem Pn:∀ {w:List Nat} {p st:List Int},Az w st.length=some 0→AB w 117=p.length→(DD w p st).Perm (p++st)
 | [],p,st,h,hc=>by
  have h1:st=[]:=List.length_eq_zero_iff.1 (by simpa [Az] using h)
  have h2:p=[]:=List.length_eq_zero_iff.1 (by simpa [AB] using hc.symm)
  rw [h1,h2]
  exact .refl _
 | c::w,p,st,h,hc=>by
  rw [IZ] at hc
  simp only [Az] at h
  simp only [DD]
  by_cases hu:c=117
  ·rw [if_pos hu] at h hc ⊢
   cases p with
   | nil=>simp at hc
   | cons a p=>
    have:=Pn (w:=w) (p:=p) (st:=a::st) (by simpa using h) (by simp at hc; omega)
    exact this.trans List.perm_middle
  ·rw [if_neg hu] at h hc ⊢
   by_cases hv:c=100
   ·rw [if_pos hv] at h
    cases st with
    | nil=>simp at h
    | cons y t=>
     have:=Pn (w:=w) (p:=p) (st:=t) (by simpa using h) (by omega)
     exact (this.cons y).trans List.perm_middle.symm
   ·rw [if_neg hv] at h
    cases h
theorem U5 {w:List Nat} {p:List Int} (h:DG w p=true):Gh (C2 w p)=Fi (C2 w p):=by
 have e:C2 w p=DD w p []:=by unfold C2; rw [if_pos h]
 simp only [DG,Ac,Aj] at h
 obtain ⟨⟨h1,h2⟩,h3⟩:=h
 have hc:=NS h1
 have hp:=Pn (w:=w) (p:=p) (st:=[]) (JO h1).1 (by omega)
 rw [List.append_nil] at hp
 rw [e]
 exact AQV (by rw [AGZ hp]; exact h2)
theorem AJR [HA K] {w:List Nat} {p:List Int} (h:w.length≤10000000) (hp:p.length≤1099511627776) (hq:BF p=false):K 110 [.s w,LI p] [LI [],.b false]:=by
 refine AG (f:=Hl) rfl ?_; simp only [Hl,zu]
 simp (disch:=omega) only [AA,GH]
 cases hd:BW w
 ·repeat (first | (refine AE (Hc (K:=K) (by omega)) rfl ?_; try simp (disch:=omega) only [AA,hd]))
 ·repeat (first | (refine AE (Hc (K:=K) (by omega)) rfl ?_; try simp (disch:=omega) only [AA,hd,hq]) | (refine AE (Fk (K:=K) (by omega)) rfl ?_; try simp (disch:=omega) only [AA,hd,hq]))
theorem AHI [HA K] {w:List Nat} {p:List Int} (h:w.length≤10000000) (hp:p.length≤1099511627776) (hq:BF p=false):K 109 [.s w,LI p] [LI [],.b false]:=by
 refine AG (f:=Iq) rfl ?_; simp only [Iq,zu]
 simp (disch:=omega) only [AA,GH]
 cases hd:BW w
 ·repeat (first | (refine AE (Fv (K:=K) (by omega)) rfl ?_; try simp (disch:=omega) only [AA,hd]))
 ·repeat (first | (refine AE (Fv (K:=K) (by omega)) rfl ?_; try simp (disch:=omega) only [AA,hd,hq]) | (refine AE (FU (K:=K) (by omega)) rfl ?_; try simp (disch:=omega) only [AA,hd,hq]))
noncomputable def Ci (f s:List Nat) (t:List (List Nat)):Bool:=Cr t&&((AL t 0 == f)&&(AL t ((t.length:Int)-1) == s))
theorem ABX [HA K] [Cm K 201 C7] [HA K] [CZ K] {k:Int} {f s:List Nat} {t:List (List Nat)} {n o:List Int} {r:List (List Int)} (h:EF t n o r):K 637 [CL k f s t n o r] [.b (Ci f s t)]:=by
 have hl:=h.lt
 have kw:=rw_i (K:=K) (l:=t) hl
 refine AG (f:=Ku) rfl ?_; simp only [Ku,zu]
 simp (disch:=omega) only [AA,AU,AV,A4]
 cases hw:Cr t
 ·rw [hw] at kw
  refine AE (kw) rfl ?_
  simp (disch:=omega) only [AA]
  simp [Ci,hw]
 ·rw [hw] at kw
  have h1:=Sk hw
  refine AE (kw) rfl ?_
  simp (disch:=omega) only [AA,AU]
  cases hf:(AL t 0 == f)
  ·simp (disch:=omega) only [AA,hf]
   simp [Ci,hw,hf]
  ·simp (disch:=omega) only [AA,hf,AU]
   simp [Ci,hw,hf]
def Fy (g:List Nat→List Nat→Bool) (t:List (List Nat)):Bool:=decide (∀ i:Nat,i<t.length-1→g (AL t i) (AL t ((i:Int)+1))=true)
theorem ACJ [HA K] [CZ K] {k:Int} {f s:List Nat} {t:List (List Nat)} {n o:List Int} {r:List (List Int)} (h:EF t n o r) {g:List Nat→List Nat→Bool} (hg:∀ a b,K 349 [.s a,.s b] [.b (g a b)]) (b:Bool):
  K 635 [CL k f s t n o r,.b b] [.b (Ci f s t&&(!b || Fy g t))]:=by
 have hl:=h.lt
 have kw:=rw_s (K:=K) (l:=t) hl
 refine AG (f:=N4) rfl ?_; simp only [N4,zu]
 simp (disch:=omega) only [AA,AU,AV,A4]
 cases hw:Cr t
 ·rw [hw] at kw
  refine AE (kw) rfl ?_
  simp (disch:=omega) only [AA]
  simp [Ci,hw]
 ·rw [hw] at kw
  have h1:=Sk hw
  refine AE (kw) rfl ?_
  have hb:∀ x y:List Nat,(x != y)=!(x == y):=fun _ _=>rfl
  cases hf:(AL t 0 == f)
  ·simp (disch:=omega) only [AA,AU,hb,hf]
   simp [Ci,hw,hf]
  ·cases hs:(AL t ((t.length:Int)-1) == s)
   ·simp (disch:=omega) only [AA,AU,hb,hf,hs]
    simp [Ci,hw,hf,hs]
   ·have hle:Ci f s t=true:=by simp [Ci,hw,hf,hs]
    rw [hle,Bool.true_and]
    simp (disch:=omega) only [AA,AU,hb,hf,hs]
    cases b
    ·refine B9 (fun (_:Unit)=>True) (fun _=>[.u,.b false,.u,.u,LS t,.n 1,.u,.u,.u]) (fun _=>0) () trivial rfl (fun _ _=>?_)
     by_cases h2:1<t.length
     ·simp (disch:=omega) only [AA]
     ·simp (disch:=omega) only [AA]
    ·refine Ag (fun i=>∀ j:Nat,j<i→g (AL t j) (AL t ((j:Int)+1))=true) (fun i=>[.u,.b true,.u,.u,LS t,.n ((i:Int)+1),.u,.u,.u]) (t.length-1) (fun j hj=>by omega) rfl (fun i hi hP=>?_) (fun hP=>?_)
     ·have kg:=hg (AL t i) (AL t ((i:Int)+1))
      have ei:(i:Int)+1-1=i:=by omega
      cases hgi:g (AL t i) (AL t ((i:Int)+1))
      ·rw [hgi] at kg
       simp (disch:=omega) only [AA,ei]
       refine AE (kg) rfl ?_
       have e:Fy g t=false:=decide_eq_false fun q=>by
        have:=q i hi
        rw [hgi] at this; cases this
       simp (disch:=omega) only [AA,e]
      ·rw [hgi] at kg
       simp (disch:=omega) only [AA,ei]
       refine AE (kg) rfl ?_
       simp (disch:=omega) only [AA]
       intro j hj
       by_cases e:j=i
       ·rw [e]; exact hgi
       ·exact hP j (by omega)
     ·have e:Fy g t=true:=decide_eq_true hP
      simp (disch:=omega) only [AA,e]
end Go.Cat
namespace Go.Cat
variable {K:Nat→List D→List D→Prop}
set_option maxRecDepth 100000
theorem AF5 [HA K] [Cm K 201 C7] [HA K] [CZ K] {f s:List Nat} {t:List (List Nat)} {n o:List Int} {r:List (List Int)} (h:EF t n o r) {g:List Nat→List Nat→Bool} (hg:∀ a b,K 350 [.s a,.s b] [.b (g a b)]):K 626 [CL 1 f s t n o r] [.b (Ci f s t&&Fy g t)]:=by
 have hl:=h.lt
 have kl:=ABX (K:=K) (k:=1) (f:=f) (s:=s) h
 refine AG (f:=CN) rfl ?_; simp only [CN,zu]
 simp (disch:=omega) only [AA,AU,AV,A4]
 cases hd:Ci f s t
 ·rw [hd] at kl
  refine AE (kl) rfl ?_
  simp (disch:=omega) only [AA]
 ·rw [hd] at kl
  have hw:Cr t=true:=by
   simp only [Ci,Ac] at hd
   exact hd.1
  have h1:=Sk hw
  refine AE (kl) rfl ?_
  simp (disch:=omega) only [AA,AU,AV,A4]
  refine Ag (fun i=>∀ j:Nat,j<i→g (AL t j) (AL t ((j:Int)+1))=true) (fun i=>[.u,.p [.n 1,.s f,.s s,LS t,LI n,LI o,LL r],.u,.n ((i:Int)+1),.u,.u,.u,.u,.u,.u,.u,.u,.u,.u,.u,.u,.u,.u,.u]) (t.length-1) (fun j hj=>by omega) rfl (fun i hi hP=>?_) (fun hP=>?_)
  ·have kg:=hg (AL t i) (AL t ((i:Int)+1))
   have ei:(i:Int)+1-1=i:=by omega
   cases hgi:g (AL t i) (AL t ((i:Int)+1))
   ·rw [hgi] at kg
    have e:Fy g t=false:=decide_eq_false fun q=>by
     have:=q i hi
     rw [hgi] at this; cases this
    simp (disch:=omega) only [AA,ei,AU]
    refine AE (kg) rfl ?_
    simp (disch:=omega) only [AA,e]
   ·rw [hgi] at kg
    simp (disch:=omega) only [AA,ei,AU]
    refine AE (kg) rfl ?_
    simp (disch:=omega) only [AA]
    intro j hj
    by_cases e:j=i
    ·rw [e]; exact hgi
    ·exact hP j (by omega)
  ·have e:Fy g t=true:=decide_eq_true hP
   simp (disch:=omega) only [AA,e,AU]
theorem AHD [HA K] [CZ K] {f s:List Nat} {t:List (List Nat)} {n o:List Int} {r:List (List Int)} (h:EF t n o r) {g:List Nat→List Nat→Bool} (hg:∀ a b,K 349 [.s a,.s b] [.b (g a b)]):K 625 [CL 1 f s t n o r] [.b (Ci f s t&&Fy g t)]:=by
 have kl:=ACJ (K:=K) (k:=1) (f:=f) (s:=s) h hg true
 refine AG (f:=Ca) rfl ?_; simp only [Ca,zu]
 simp (disch:=omega) only [AA,AU,AV,A4]
 refine AE (kl) rfl ?_
 simp (disch:=omega) only [AA]
theorem AEG [HA K] [Cm K 201 C7] [HA K] [CZ K] {f s:List Nat} {t:List (List Nat)} {n o:List Int} {r:List (List Int)} (h:EF t n o r) {v:Int} (hv:K 617 [.s f,.s s] [.n v]):K 626 [CL 2 f s t n o r] [.b (Ci f s t&&decide ((t.length:Int)-1=v))]:=by
 have hl:=h.lt
 have kl:=ABX (K:=K) (k:=2) (f:=f) (s:=s) h
 refine AG (f:=CN) rfl ?_; simp only [CN,zu]
 simp (disch:=omega) only [AA,AU,AV,A4]
 cases hd:Ci f s t
 ·rw [hd] at kl
  refine AE (kl) rfl ?_
  simp (disch:=omega) only [AA]
 ·rw [hd] at kl
  refine AE (kl) rfl ?_
  simp (disch:=omega) only [AA,AU,AV,A4]
  refine AE (hv) rfl ?_
  simp (disch:=omega) only [AA]
theorem AQP [HA K] [CZ K] {f s:List Nat} {t:List (List Nat)} {n o:List Int} {r:List (List Int)} (h:EF t n o r) {g:List Nat→List Nat→Bool} (hg:∀ a b,K 349 [.s a,.s b] [.b (g a b)]) {v:Int} (hv:K 612 [.s f,.s s] [.n v]):K 625 [CL 2 f s t n o r] [.b (Ci f s t&&decide ((t.length:Int)-1=v))]:=by
 have hl:=h.lt
 have kl:=ACJ (K:=K) (k:=2) (f:=f) (s:=s) h hg false
 refine AG (f:=Ca) rfl ?_; simp only [Ca,zu]
 simp (disch:=omega) only [AA,AU,AV,A4]
 cases hd:Ci f s t
 ·rw [hd] at kl
  refine AE (kl) rfl ?_
  simp (disch:=omega) only [AA]
 ·rw [hd] at kl
  refine AE (kl) rfl ?_
  simp (disch:=omega) only [AA,AU,AV,A4]
  refine AE (hv) rfl ?_
  simp (disch:=omega) only [AA,AU,AV,A4]
  by_cases e:(t.length:Int)-1=v
  ·simp (disch:=omega) only [AA,e]
  ·have e2:¬ v=(t.length:Int)-1:=fun q=>e q.symm
   simp (disch:=omega) only [AA]
def Cj (p o:List Int):Bool:=BF p&&(decide (o.length=3)&&(decide ((0≤AD o 0∧AD o 0<AD o 1)∧AD o 1<AD o 2∧AD o 2<p.length)&&(decide (AD p (AD o 2)<AD p (AD o 0))&&decide (AD p (AD o 0)<AD p (AD o 1)))))
theorem XB [HA K] {f s:List Nat} {t:List (List Nat)} {n o:List Int} {r:List (List Int)} (h:EF t n o r):K 626 [CL 4 f s t n o r] [.b (Cj n o)]:=by
 have hl:=h.lo
 have kp:=Fk (K:=K) h.ln
 refine AG (f:=CN) rfl ?_; simp only [CN,zu]
 simp (disch:=omega) only [AA,AU,AV,A4]
 cases hp:BF n
 ·rw [hp] at kp
  refine AE (kp) rfl ?_
  simp (disch:=omega) only [AA]
  simp [Cj,hp]
 rw [hp] at kp
 have h8:=(IT hp).1
 refine AE (kp) rfl ?_
 by_cases h3:o.length=3
 ·by_cases a0:0≤AD o 0
  ·by_cases a1:AD o 0<AD o 1
   ·by_cases a2:AD o 1<AD o 2
    ·by_cases a3:AD o 2<n.length
     ·by_cases b1:AD n (AD o 2)<AD n (AD o 0)
      ·simp (disch:=omega) only [AA]
       simp [Cj,hp,h3,a0,a1,a2,a3,b1]
      ·simp (disch:=omega) only [AA]
       simp [Cj,hp,h3,a0,a1,a2,a3,b1]
     ·simp (disch:=omega) only [AA]
      simp [Cj,hp,h3,a0,a1,a2,a3]
    ·simp (disch:=omega) only [AA]
     simp [Cj,hp,h3,a0,a1,a2]
   ·simp (disch:=omega) only [AA]
    simp [Cj,hp,h3,a0,a1]
  ·simp (disch:=omega) only [AA]
   simp [Cj,hp,h3,a0]
 ·simp (disch:=omega) only [AA]
  simp [Cj,hp,h3]
theorem AMT [HA K] {f s:List Nat} {t:List (List Nat)} {n o:List Int} {r:List (List Int)} (h:EF t n o r):K 625 [CL 4 f s t n o r] [.b (Cj n o)]:=by
 have hl:=h.lo
 have kp:=FU (K:=K) h.ln
 refine AG (f:=Ca) rfl ?_; simp only [Ca,zu]
 simp (disch:=omega) only [AA,AU,AV,A4]
 cases hp:BF n
 ·rw [hp] at kp
  refine AE (kp) rfl ?_
  simp (disch:=omega) only [AA]
  simp [Cj,hp]
 rw [hp] at kp
 have h8:=(IT hp).1
 refine AE (kp) rfl ?_
 by_cases h3:o.length=3
 ·have q0:=Cs (K:=K) (x:=AD o 0) (a:=0) (b:=(n.length:Int)-1)
  cases a0:Ar 0 ((n.length:Int)-1) (AD o 0)
  ·rw [a0] at q0
   have e:¬ ((0≤AD o 0∧AD o 0<AD o 1)∧AD o 1<AD o 2∧AD o 2<n.length):=fun q=>by
    have:Ar 0 ((n.length:Int)-1) (AD o 0)=true:=BG.2 (by omega)
    rw [a0] at this; cases this
   have e2:Cj n o=false:=by
    unfold Cj
    rw [decide_eq_false e]
    simp
   rw [e2]
   simp (disch:=omega) only [AA]
   refine AE (q0) rfl ?_
   simp (disch:=omega) only [AA]
  rw [a0] at q0
  have r0:=BG.1 a0
  have q1:=Cs (K:=K) (x:=AD o 1) (a:=AD o 0+1) (b:=(n.length:Int)-1)
  cases a1:Ar (AD o 0+1) ((n.length:Int)-1) (AD o 1)
  ·rw [a1] at q1
   have e:¬ ((0≤AD o 0∧AD o 0<AD o 1)∧AD o 1<AD o 2∧AD o 2<n.length):=fun q=>by
    have:Ar (AD o 0+1) ((n.length:Int)-1) (AD o 1)=true:=BG.2 (by omega)
    rw [a1] at this; cases this
   have e2:Cj n o=false:=by
    unfold Cj
    rw [decide_eq_false e]
    simp
   rw [e2]
   simp (disch:=omega) only [AA]
   refine AE (q0) rfl ?_
   simp (disch:=omega) only [AA]
   refine AE (q1) rfl ?_
   simp (disch:=omega) only [AA]
  rw [a1] at q1
  have r1:=BG.1 a1
  have q2:=Cs (K:=K) (x:=AD o 2) (a:=AD o 1+1) (b:=(n.length:Int)-1)
  cases a2:Ar (AD o 1+1) ((n.length:Int)-1) (AD o 2)
  ·rw [a2] at q2
   have e:¬ ((0≤AD o 0∧AD o 0<AD o 1)∧AD o 1<AD o 2∧AD o 2<n.length):=fun q=>by
    have:Ar (AD o 1+1) ((n.length:Int)-1) (AD o 2)=true:=BG.2 (by omega)
    rw [a2] at this; cases this
   have e2:Cj n o=false:=by
    unfold Cj
    rw [decide_eq_false e]
    simp
   rw [e2]
   simp (disch:=omega) only [AA]
   refine AE (q0) rfl ?_
   simp (disch:=omega) only [AA]
   refine AE (q1) rfl ?_
   simp (disch:=omega) only [AA]
   refine AE (q2) rfl ?_
   simp (disch:=omega) only [AA]
  rw [a2] at q2
  have r2:=BG.1 a2
  have e:(0≤AD o 0∧AD o 0<AD o 1)∧AD o 1<AD o 2∧AD o 2<n.length:=by omega
  have e2:Cj n o=(decide (AD n (AD o 2)<AD n (AD o 0))&&decide (AD n (AD o 0)<AD n (AD o 1))):=by
   unfold Cj
   rw [decide_eq_true e,hp,h3]
   simp
  rw [e2]
  by_cases b1:AD n (AD o 2)<AD n (AD o 0)
  ·simp (disch:=omega) only [AA]
   refine AE (q0) rfl ?_
   simp (disch:=omega) only [AA]
   refine AE (q1) rfl ?_
   simp (disch:=omega) only [AA]
   refine AE (q2) rfl ?_
   simp (disch:=omega) only [AA]
  ·simp (disch:=omega) only [AA]
   refine AE (q0) rfl ?_
   simp (disch:=omega) only [AA]
   refine AE (q1) rfl ?_
   simp (disch:=omega) only [AA]
   refine AE (q2) rfl ?_
   simp (disch:=omega) only [AA]
 ·simp (disch:=omega) only [AA]
  simp [Cj,hp,h3]
theorem AEL [HA K] {f s:List Nat} {t:List (List Nat)} {n o:List Int} {r:List (List Int)} (h:EF t n o r):K 626 [CL 6 f s t n o r] [.b (decide (Ea n o=1))]:=by
 refine AG (f:=CN) rfl ?_; simp only [CN,zu]
 simp (disch:=omega) only [AA,AU,AV,A4]
 refine AE (AGO (K:=K) h.ln h.lo) rfl ?_
 simp (disch:=omega) only [AA]
theorem AHZ [HA K] {f s:List Nat} {t:List (List Nat)} {n o:List Int} {r:List (List Int)} (h:EF t n o r):K 625 [CL 6 f s t n o r] [.b (decide (Ea n o=1))]:=by
 refine AG (f:=Ca) rfl ?_; simp only [Ca,zu]
 simp (disch:=omega) only [AA,AU,AV,A4]
 refine AE (AHQ (K:=K) h.ln h.lo) rfl ?_
 simp (disch:=omega) only [AA]
theorem AG7 [HA K] {k:Int} {f s:List Nat} {t:List (List Nat)} {n o:List Int} {r:List (List Int)} (h:EF t n o r) (hk:¬ (1≤k∧k≤6)):K 626 [CL k f s t n o r] [.b false]:=by
 refine AG (f:=CN) rfl ?_; simp only [CN,zu]
 simp (disch:=omega) only [AA,AU,AV,A4]
theorem ARI [HA K] {k:Int} {f s:List Nat} {t:List (List Nat)} {n o:List Int} {r:List (List Int)} (h:EF t n o r) (hk:¬ (1≤k∧k≤6)):K 625 [CL k f s t n o r] [.b false]:=by
 refine AG (f:=Ca) rfl ?_; simp only [Ca,zu]
 simp (disch:=omega) only [AA,AU,AV,A4]
end Go.Cat
