/-
 FormatClaim answers as the reference does.
-/
import Derived.Test.YtnjjceodpbhlmaaGreatPfTxt
import Derived.Test.YtnjjceodpbhlmaaGreatPfTree
import Derived.Test.YtnjjceodpbhlmaaGreatIrHas
set_option linter.unusedSimpArgs false
set_option linter.unusedVariables false
namespace Go.Cat
variable {K:Nat→List D→List D→Prop}
def JR:List (List Nat):=[[98,101,108,111,119],[100,105,115,116,97,110,99,101],[115,111,114,116,101,100],[117,110,115,111,114,116,101,100],[102,114,105,101,122,101],[109,101,97,110,100,101,114]]
def Cw (k:Int):List Nat:=if Ar 1 6 k=true then AL JR (k-1) else []
theorem ACA {a b c d e f:List Nat}:DV [.s a,.s b,.s c,.s d,.s e,.s f]=some (LS [a,b,c,d,e,f]):=rfl
theorem VI [HA K] {k:Int}:K 8 [.n k] [.s (Cw k)]:=by
 refine AG (f:=Kx) rfl ?_; simp only [Kx,zu]
 simp (disch:=first|omega|simp only[vl];omega) only [AA]
 refine AE (DW (K:=K)) rfl ?_
 cases h:Ar 1 6 k
 ·simp (disch:=first|omega|simp only[vl];omega) only [AA]
  simp [Cw,h]
 ·have:=BG.1 h
  simp (disch:=first|omega|simp only[vl];omega) only [AA,ACA]
  simp [Cw,h,JR]
theorem Zd [HA K] {k:Int}:K 7 [.n k] [.s (Cw k)]:=by
 refine AG (f:=N6) rfl ?_; simp only [N6,zu]
 simp (disch:=first|omega|simp only[vl];omega) only [AA]
 refine AE (Cs (K:=K)) rfl ?_
 cases h:Ar 1 6 k
 ·simp (disch:=first|omega|simp only[vl];omega) only [AA]
  simp [Cw,h]
 ·have:=BG.1 h
  simp (disch:=first|omega|simp only[vl];omega) only [AA,ACA]
  simp [Cw,h,JR]
theorem WU {k:Int}:(Cw k).length≤8:=by
 unfold Cw
 split
 ·exact Qd (b:=8) (ws:=JR) (by decide) (i:=(k-1).toNat) |> fun h=>by
   have e:AL JR (k-1)=AL JR ((k-1).toNat:Nat):=by simp [AL]
   rw [e]; exact h
 ·simp
theorem Pb {l:List Int}:(Cv l).length≤1000:=by
 unfold Cv
 split
 ·simp
 ·have h1:=Ni (sep:=[44]) (RP (l:=l)) (DP l).length
  have:=TY (l:=l)
  simp only [glue,A6,Aq] at*
  omega
theorem AF6 {d:List (List Int)}:(Cp d).length≤1000:=by
 unfold Cp
 split
 ·simp
 ·split
  ·simp
  ·split
   ·rename_i _ h20 ha
    have hb:∀ x∈C6 d,x.length≤40:=by
     intro x hx
     obtain ⟨r,hr1,rfl⟩:=List.mem_map.1 hx
     obtain ⟨h2,q1,q2⟩:=Po (BD.1 ha r hr1)
     have b1:=BG.1 q1
     have b2:=BG.1 q2
     have l1:=F8 (n:=AD r 0) (by omega)
     have l2:=F8 (n:=AD r 1) (by omega)
     simp only [Ad]; omega
    have h1:=Ni (sep:=[32]) hb (C6 d).length
    have:=Qf (d:=d)
    simp only [glue,A6,Aq] at*
    omega
   ·simp
def E6 (t:List (List Nat)):Nat→List Nat
 | 0=>[]
 | i+1=>E6 t i++([32]++AL t i)
theorem ACC {t:List (List Nat)}:∀ i,E6 t (i+1)=[32]++CD [32] t (i+1)
 | 0=>by simp [E6,CD]
 | i+1=>by
  have e:CD [32] t (i+1+1)=CD [32] t (i+1)++[32]++AL t ((i+1:Nat):Int):=by
   show CD [32] t (i+1)++(if 0<i+1 then [32] else [])++_=_
   rw [if_pos (by omega)]
  rw [e,E6,ACC i]
  simp only [Bw]
theorem WE {t:List (List Nat)} {i:Nat} (h:∀ j:Nat,j<i→BU (AL t j)=true):(E6 t i).length≤i*26:=by
 induction i with
 | zero=>simp [E6]
 | succ i ih=>
  have h1:=ih fun j hj=>h j (by omega)
  obtain ⟨x,hx,hn⟩:=Ek (h i (by omega))
  have h2:=BT.tl x
  simp only [E6,Ad,A6,Aq,hx]
  omega
open Classical in
noncomputable def DL (k:Int) (f:List Nat) (t:List (List Nat)) (n o:List Int) (r:List (List Int)):List Nat:=
 if k=1∨k=2 then (if (1≤t.length∧t.length≤40)∧∀ j:Nat,j<t.length→BU (AL t j)=true then Cw k++E6 t t.length else [])
 else if k=3 then (if BW f=true then Cw k++[32]++Cv n++[32,98,121,32]++f else [])
 else if k=5 then (if Cp r=[] then [] else Cw k++[32]++Cv n++[32,98,121,32]++Cp r)
 else if k=4∨k=6 then Cw k++[32]++Cv n++[32,98,121,32]++Cv o
 else []
structure CLf (f:List Nat) (t:List (List Nat)) (n o:List Int) (r:List (List Int)):Prop where
 lf:f.length≤1000000000
 ln:n.length≤1099511627776
 lo:o.length≤1099511627776
 lr:r.length≤1099511627776
 lrs:∀ x∈r,x.length≤1099511627776
theorem fc_i [HA K] {k:Int} {f s:List Nat} {t:List (List Nat)} {n o:List Int} {r:List (List Int)} (h:CLf f t n o r):K 342 [CL k f s t n o r] [.s (DL k f t n o r)]:=by
 obtain ⟨lf,ln,lo,lr,lrs⟩:=h
 have w1:=WU (k:=k)
 have w2:=Pb (l:=n)
 have w3:=Pb (l:=o)
 have w4:=AF6 (d:=r)
 refine AG (f:=Mk) rfl ?_; simp only [Mk,zu]
 simp (disch:=first|omega|simp only[vl];omega) only [AA,AU,AV,A4]
 refine AE (VI (K:=K) (k:=k)) rfl ?_
 by_cases h12:k=1∨k=2
 ·have hv:DL k f t n o r=if (1≤t.length∧t.length≤40)∧∀ j:Nat,j<t.length→BU (AL t j)=true then Cw k++E6 t t.length else []:=if_pos h12
  rcases h12 with h1 | h1
  all_goals
   rw [hv]
   simp (disch:=first|omega|simp only[vl];omega) only [AA,AU,AV,A4]
   refine AE (DW (K:=K)) rfl ?_
   by_cases hl:1≤t.length∧t.length≤40
   ·have hi:Ar 1 40 (t.length:Int)=true:=BG.2 (by omega)
    simp (disch:=first|omega|simp only[vl];omega) only [AA,hi,AU]
    refine Ag (fun i=>∀ j:Nat,j<i→BU (AL t j)=true) (fun i=>[.u,.p [.n k,.s f,.s s,LS t,LI n,LI o,LL r],.u,.s (Cw k),.u,.u,.u,.u,.u,LS t,.n t.length,.n i,.u,.u,.u,.u,.u,.u,.u]) t.length (by simp) rfl (fun i hi hP=>?_) (fun hP=>?_)
    ·simp (disch:=first|omega|simp only[vl];omega) only [AA]
     refine AE (XE (K:=K)) rfl ?_
     cases hb:BU (AL t i)
     ·simp (disch:=first|omega|simp only[vl];omega) only [AA]
      rw [if_neg fun q=>by have:=q.2 i hi; rw [hb] at this; cases this]
     ·simp (disch:=first|omega|simp only[vl];omega) only [AA]
      exact CH hP hb
    ·rw [if_pos ⟨hl,hP⟩]
     have hsl:=WE hP
     have e:E6 t t.length=[32]++glue [32] t:=by
      obtain ⟨m,hm⟩:∃ m,t.length=m+1:=⟨t.length-1,by omega⟩
      rw [glue,hm,ACC]
     rw [e] at hsl ⊢
     simp only [Ad,A6,Aq] at hsl
     have kg:=RM (K:=K) (ws:=t) (sep:=[32]) (by omega) (fun x hx=>by
      obtain ⟨j,hj,rfl⟩:=List.getElem_of_mem hx
      have hb:=hP j hj
      obtain ⟨y,hy,hn⟩:=Ek hb
      have h2:=BT.tl y
      have e:AL t j=t[j]:=by simp [AL,hj]
      rw [← e,hy]; omega) (by simp)
     simp (disch:=first|omega|simp only[vl];omega) only [AA,AU]
     refine AE (kg) rfl ?_
     simp (disch:=first|omega|simp only[vl];omega) only [AA]
     simp
   ·have hi:Ar 1 40 (t.length:Int)=false:=MM.2 (by omega)
    rw [if_neg fun q=>hl q.1]
    simp (disch:=first|omega|simp only[vl];omega) only [AA,hi]
 ·have g1:k≠1:=fun q=>h12 (.inl q)
  have g2:k≠2:=fun q=>h12 (.inr q)
  by_cases h3:k=3
  ·have hv:DL k f t n o r=if BW f=true then Cw k++[32]++Cv n++[32,98,121,32]++f else []:=by unfold DL; rw [if_neg h12,if_pos h3]
   rw [hv]
   simp (disch:=first|omega|simp only[vl];omega) only [AA,AU,AV,A4]
   refine AE (Hc (K:=K) (w:=f) lf) rfl ?_
   cases hd:BW f
   ·simp (disch:=first|omega|simp only[vl];omega) only [AA]
    rfl
   ·simp (disch:=first|omega|simp only[vl];omega) only [AA,AV]
    refine AE (ON (K:=K) (l:=n) (by omega)) rfl ?_
    simp (disch:=first|omega|simp only[vl];omega) only [AA]
  ·by_cases h5:k=5
   ·have hv:DL k f t n o r=if Cp r=[] then [] else Cw k++[32]++Cv n++[32,98,121,32]++Cp r:=by unfold DL; rw [if_neg h12,if_neg h3,if_pos h5]
    rw [hv]
    simp (disch:=first|omega|simp only[vl];omega) only [AA,AU,AV,A4]
    refine AE (dg_i (K:=K) (d:=r) (by omega) (fun x hx=>Nat.le_trans (lrs x hx) (by omega))) rfl ?_
    by_cases hd:Cp r=[]
    ·simp (disch:=first|omega|simp only[vl];omega) only [AA,hd]
    ·have e:(Cp r == [])=false:=beq_eq_false_iff_ne.2 hd
     rw [if_neg hd]
     simp (disch:=first|omega|simp only[vl];omega) only [AA,e,AV]
     refine AE (ON (K:=K) (l:=n) (by omega)) rfl ?_
     simp (disch:=first|omega|simp only[vl];omega) only [AA]
   ·by_cases h46:k=4∨k=6
    ·have hv:DL k f t n o r=Cw k++[32]++Cv n++[32,98,121,32]++Cv o:=by unfold DL; rw [if_neg h12,if_neg h3,if_neg h5,if_pos h46]
     rw [hv]
     rcases h46 with h4 | h4
     all_goals
      simp (disch:=first|omega|simp only[vl];omega) only [AA,AU,AV,A4]
      refine AE (ON (K:=K) (l:=n) (by omega)) rfl ?_
      simp (disch:=first|omega|simp only[vl];omega) only [AA,AV]
      refine AE (ON (K:=K) (l:=o) (by omega)) rfl ?_
      simp (disch:=first|omega|simp only[vl];omega) only [AA]
    ·have hv:DL k f t n o r=[]:=by unfold DL; rw [if_neg h12,if_neg h3,if_neg h5,if_neg h46]
     have g3:k≠4:=fun q=>h46 (.inl q)
     have g4:k≠6:=fun q=>h46 (.inr q)
     rw [hv]
     simp (disch:=first|omega|simp only[vl];omega) only [AA,AU,AV,A4]
theorem fc_s [HA K] {k:Int} {f s:List Nat} {t:List (List Nat)} {n o:List Int} {r:List (List Int)} (h:CLf f t n o r):K 341 [CL k f s t n o r] [.s (DL k f t n o r)]:=by
 obtain ⟨lf,ln,lo,lr,lrs⟩:=h
 have w1:=WU (k:=k)
 have w2:=Pb (l:=n)
 have w3:=Pb (l:=o)
 have w4:=AF6 (d:=r)
 refine AG (f:=Le) rfl ?_; simp only [Le,zu]
 simp (disch:=first|omega|simp only[vl];omega) only [AA,AU,AV,A4]
 refine AE (Zd (K:=K) (k:=k)) rfl ?_
 by_cases h12:k=1∨k=2
 ·have hv:DL k f t n o r=if (1≤t.length∧t.length≤40)∧∀ j:Nat,j<t.length→BU (AL t j)=true then Cw k++E6 t t.length else []:=if_pos h12
  rcases h12 with h1 | h1
  all_goals
   rw [hv]
   by_cases hl:1≤t.length∧t.length≤40
   ·simp (disch:=first|omega|simp only[vl];omega) only [AA,AU,AV,A4]
    refine Ag (fun i=>∀ j:Nat,j<i→BU (AL t j)=true) (fun i=>[.u,.p [.n k,.s f,.s s,LS t,LI n,LI o,LL r],.u,.s (Cw k++E6 t i),.n i,.u,.u,.u,.u,.u,.u,.u,.u,.u,.u,.u]) t.length (by simp) (by simp [E6]) (fun i hi hP=>?_) (fun hP=>?_)
    ·simp (disch:=first|omega|simp only[vl];omega) only [AA,AU]
     refine AE (G6 (K:=K)) rfl ?_
     cases hb:BU (AL t i)
     ·simp (disch:=first|omega|simp only[vl];omega) only [AA]
      rw [if_neg fun q=>by have:=q.2 i hi; rw [hb] at this; cases this]
     ·have hsl:=WE hP
      obtain ⟨y,hy,hn⟩:=Ek hb
      have h2:=BT.tl y
      have h3:(AL t i).length≤25:=by rw [hy]; omega
      simp (disch:=first|omega|simp only[vl];omega) only [AA,AU]
      exact ⟨CH hP hb,by simp [E6]⟩
    ·rw [if_pos ⟨hl,hP⟩]
     simp (disch:=first|omega|simp only[vl];omega) only [AA,AU]
   ·rw [if_neg fun q=>hl q.1]
    by_cases h40:40<t.length
    ·simp (disch:=first|omega|simp only[vl];omega) only [AA,AU,AV,A4]
    ·have h0:t.length=0:=by omega
     simp (disch:=first|omega|simp only[vl];omega) only [AA,AU,AV,A4]
 ·have g1:k≠1:=fun q=>h12 (.inl q)
  have g2:k≠2:=fun q=>h12 (.inr q)
  by_cases h3:k=3
  ·have hv:DL k f t n o r=if BW f=true then Cw k++[32]++Cv n++[32,98,121,32]++f else []:=by unfold DL; rw [if_neg h12,if_pos h3]
   rw [hv]
   simp (disch:=first|omega|simp only[vl];omega) only [AA,AU,AV,A4]
   refine AE (Fv (K:=K) (w:=f) lf) rfl ?_
   cases hd:BW f
   ·simp (disch:=first|omega|simp only[vl];omega) only [AA]
    rfl
   ·simp (disch:=first|omega|simp only[vl];omega) only [AA,AV]
    refine AE (On (K:=K) (l:=n) (by omega)) rfl ?_
    simp (disch:=first|omega|simp only[vl];omega) only [AA]
  ·by_cases h5:k=5
   ·have hv:DL k f t n o r=if Cp r=[] then [] else Cw k++[32]++Cv n++[32,98,121,32]++Cp r:=by unfold DL; rw [if_neg h12,if_neg h3,if_pos h5]
    rw [hv]
    simp (disch:=first|omega|simp only[vl];omega) only [AA,AU,AV,A4]
    refine AE (dg_s (K:=K) (d:=r) (by omega) (fun x hx=>Nat.le_trans (lrs x hx) (by omega))) rfl ?_
    by_cases hd:Cp r=[]
    ·simp (disch:=first|omega|simp only[vl];omega) only [AA,hd]
    ·have e:(Cp r == [])=false:=beq_eq_false_iff_ne.2 hd
     rw [if_neg hd]
     simp (disch:=first|omega|simp only[vl];omega) only [AA,e,AV]
     refine AE (On (K:=K) (l:=n) (by omega)) rfl ?_
     simp (disch:=first|omega|simp only[vl];omega) only [AA]
   ·by_cases h46:k=4∨k=6
    ·have hv:DL k f t n o r=Cw k++[32]++Cv n++[32,98,121,32]++Cv o:=by unfold DL; rw [if_neg h12,if_neg h3,if_neg h5,if_pos h46]
     rw [hv]
     rcases h46 with h4 | h4
     all_goals
      simp (disch:=first|omega|simp only[vl];omega) only [AA,AU,AV,A4]
      refine AE (On (K:=K) (l:=n) (by omega)) rfl ?_
      simp (disch:=first|omega|simp only[vl];omega) only [AA,AV]
      refine AE (On (K:=K) (l:=o) (by omega)) rfl ?_
      simp (disch:=first|omega|simp only[vl];omega) only [AA]
    ·have hv:DL k f t n o r=[]:=by unfold DL; rw [if_neg h12,if_neg h3,if_neg h5,if_neg h46]
     have g3:k≠4:=fun q=>h46 (.inl q)
     have g4:k≠6:=fun q=>h46 (.inr q)
     rw [hv]
     simp (disch:=first|omega|simp only[vl];omega) only [AA,AU,AV,A4]
end Go.Cat
