/-
 Texts of numbers, diagonals.
-/
import Derived.Test.YtnjjceodpbhlmaaGreatPfPart
import Derived.Test.YtnjjceodpbhlmaaGreatPfClaim
import Derived.Test.YtnjjceodpbhlmaaGreatIrHas
set_option linter.unusedSimpArgs false
set_option linter.unusedVariables false
namespace Go.Cat
variable {K:Nat→List D→List D→Prop}
def CD (sep:List Nat) (ws:List (List Nat)):Nat→List Nat
 | 0=>[]
 | i+1=>CD sep ws i++(if 0<i then sep else [])++AL ws i
def glue (sep:List Nat) (ws:List (List Nat)):List Nat:=CD sep ws ws.length
theorem Qd {ws:List (List Nat)} {b i:Nat} (h:∀ x∈ws,x.length≤b):(AL ws i).length≤b:=by
 rcases CC i ws.length with q | q
 ·exact h _ (by simp [AL,q])
 ·have:AL ws i=[]:=by simp [AL,q]
  rw [this]; simp
theorem Ni {sep:List Nat} {ws:List (List Nat)} {b:Nat} (h:∀ x∈ws,x.length≤b):∀ i,(CD sep ws i).length≤i*(b+sep.length)
 | 0=>by simp [CD]
 | i+1=>by
  have h1:=Ni (sep:=sep) h i
  have h2:=Qd (i:=i) h
  simp only [CD,Ad,Nat.succ_mul]
  have:(if 0<i then sep else []).length≤sep.length:=by split <;> simp
  omega
theorem RM [HA K] {ws:List (List Nat)} {sep:List Nat} (hl:ws.length≤100000) (hb:∀ x∈ws,x.length≤100000) (hs:sep.length≤100):K 184 [LS ws,.s sep] [.s (glue sep ws)]:=by
 refine AG (f:=LF) rfl ?_; simp only [LF,zu]
 simp (disch:=first|omega|simp only[vl];omega) only [AA]
 refine Ag (fun _=>True) (fun i=>[.u,.s sep,.u,.s (CD sep ws i),.u,.u,LS ws,.n ws.length,.n i,.u,.u]) ws.length trivial rfl (fun i hi _=>?_) (fun _=>?_)
 ·have h1:=Ni (sep:=sep) hb i
  have h2:=Qd (i:=i) hb
  have h3:i*(100000+sep.length)≤100000*(100000+100):=Nat.mul_le_mul (by omega) (by omega)
  by_cases h0:0<i
  ·simp (disch:=first|omega|simp only[vl];omega) only [AA]
   simp only [CD,if_pos h0]
  ·simp (disch:=first|omega|simp only[vl];omega) only [AA]
   simp only [CD,if_neg h0,List.append_nil]
 ·simp (disch:=first|omega|simp only[vl];omega) only [AA]
  rfl
def EN (x:Int):Int:=if x < -99 then -99 else if 99<x then 99 else x
theorem TP {x:Int}:-99≤EN x∧EN x≤99:=by unfold EN; split <;> (try split) <;> omega
def DP (l:List Int):List (List Nat):=l.map fun x=>Cq (EN x)
def Cv (l:List Int):List Nat:=if l.length=0∨40<l.length then [110,111,110,101] else glue [44] (DP l)
theorem RP {l:List Int}:∀ x∈DP l,x.length≤20:=by
 intro x hx
 obtain ⟨y,_,rfl⟩:=List.mem_map.1 hx
 exact F8 (by have:=TP (x:=y); omega)
theorem TN {l:List Int} {i:Nat} (h:i<l.length):AL (DP l) i=Cq (EN (AD l i)):=by simp [AL,DP,AD,h]
theorem AQC {l:List Int} {i:Nat} (h:i<l.length):(DP l).take (i+1)=(DP l).take i++[Cq (EN (AD l i))]:=by
 rw [ED (by simpa [DP] using h)]; simp [DP,AD,h]
theorem TY {l:List Int}:(DP l).length=l.length:=by simp [DP]
theorem YH:D.l []=LS []:=rfl
theorem ON [HA K] {l:List Int} (h:l.length≤9223372036854775807):K 353 [LI l] [.s (Cv l)]:=by
 refine AG (f:=K5) rfl ?_; simp only [K5,zu]
 by_cases h0:l.length=0
 ·simp only [Cv,h0]
  simp (disch:=first|omega|simp only[vl];omega) only [AA]
  simp
 ·by_cases h40:40<l.length
  ·simp only [Cv]
   rw [if_pos (by omega)]
   simp (disch:=first|omega|simp only[vl];omega) only [AA]
  ·simp only [Cv]
   rw [if_neg (by omega)]
   have hw:=TY (l:=l)
   simp (disch:=first|omega|simp only[vl];omega) only [AA]
   rw [YH]
   refine Ag (fun _=>True) (fun i=>[.u,.u,LS ((DP l).take i),.u,.u,LI l,.n l.length,.n i,.u]) l.length trivial (by simp) (fun i hi _=>?_) (fun _=>?_)
   ·have hb:=TP (x:=AD l i)
    have ht:((DP l).take i).length=i:=by simp; omega
    have e:min (max (AD l i) (-99)) 99=EN (AD l i):=by unfold EN; omega
    simp (disch:=first|omega|simp only[vl];omega) only [AA,e]
    refine AE (Tm (K:=K) (n:=EN (AD l i)) (by omega)) rfl ?_
    simp (disch:=first|omega|simp only[vl];omega) only [AA,AQC hi]
   ·have ht:(DP l).take l.length=DP l:=List.take_of_length_le (by omega)
    simp (disch:=first|omega|simp only[vl];omega) only [AA,ht]
    have kg:=RM (K:=K) (ws:=DP l) (sep:=[44]) (by omega) (fun x hx=>Nat.le_trans (RP x hx) (by omega)) (by simp)
    refine AE (kg) rfl ?_
    simp (disch:=first|omega|simp only[vl];omega) only [AA]
theorem On [HA K] {l:List Int} (h:l.length≤9223372036854775807):K 351 [LI l] [.s (Cv l)]:=by
 refine AG (f:=NH) rfl ?_; simp only [NH,zu]
 by_cases h0:l.length=0
 ·simp only [Cv]
  rw [if_pos (.inl h0)]
  simp (disch:=first|omega|simp only[vl];omega) only [AA]
  refine B9 (fun (_:Unit)=>True) (fun _=>[LI l,.u,.s [],.n 0,.u,.u,.u]) (fun _=>0) () trivial rfl (fun _ _=>?_)
  simp (disch:=first|omega|simp only[vl];omega) only [AA]
 ·by_cases h40:40<l.length
  ·simp only [Cv]
   rw [if_pos (.inr h40)]
   simp (disch:=first|omega|simp only[vl];omega) only [AA]
   refine B9 (fun (_:Unit)=>True) (fun _=>[LI l,.u,.s [],.n 0,.u,.u,.u]) (fun _=>0) () trivial rfl (fun _ _=>?_)
   simp (disch:=first|omega|simp only[vl];omega) only [AA]
  ·simp only [Cv]
   rw [if_neg (by omega)]
   have hw:=TY (l:=l)
   simp (disch:=first|omega|simp only[vl];omega) only [AA]
   refine Ag (fun i=>0<i→CD [44] (DP l) i≠[]) (fun i=>[LI l,.u,.s (CD [44] (DP l) i),.n i,.u,.u,.u]) l.length (by simp) rfl (fun i hi hP=>?_) (fun hP=>?_)
   ·have hb:=TP (x:=AD l i)
    have e:max (-99) (min 99 (AD l i))=EN (AD l i):=by unfold EN; omega
    have h1:=Ni (sep:=[44]) (RP (l:=l)) i
    have h2:=F8 (n:=EN (AD l i)) (by omega)
    have h3:=Rf (n:=EN (AD l i))
    have hq:CD [44] (DP l) (i+1)≠[]:=by
     simp only [CD,TN hi]
     intro q
     have:=congrArg List.length q
     simp only [Ad,Aq] at this
     omega
    simp only [A6,Aq] at h1
    by_cases hi0:0<i
    ·simp (disch:=first|omega|simp only[vl];omega) only [AA,e]
     refine AE (J3 (K:=K) (n:=EN (AD l i)) (by omega)) rfl ?_
     simp (disch:=first|omega|simp only[vl];omega) only [AA]
     exact ⟨fun _=>hq,by simp only [CD,if_pos hi0,TN hi]⟩
    ·simp (disch:=first|omega|simp only[vl];omega) only [AA,e]
     refine AE (J3 (K:=K) (n:=EN (AD l i)) (by omega)) rfl ?_
     simp (disch:=first|omega|simp only[vl];omega) only [AA]
     exact ⟨fun _=>hq,by simp only [CD,if_neg hi0,TN hi,List.append_nil]⟩
   ·have e:(CD [44] (DP l) l.length == [])=false:=beq_eq_false_iff_ne.2 (hP (by omega))
    simp (disch:=first|omega|simp only[vl];omega) only [AA,e]
    simp only [glue,hw]
def E8 (r:List Int):Bool:=decide (r.length=2)&&(Ar 0 9 (AD r 0)&&Ar 0 9 (AD r 1))
def C6 (d:List (List Int)):List (List Nat):=d.map fun r=>Cq (AD r 0)++Cq (AD r 1)
def Cp (d:List (List Int)):List Nat:=if d.length=0 then [110,111,110,101] else if 20<d.length then [] else if d.all E8=true then glue [32] (C6 d) else []
theorem Qf {d:List (List Int)}:(C6 d).length=d.length:=by simp [C6]
theorem Qn {d:List (List Int)} {i:Nat} (h:i<d.length):AL (C6 d) i=Cq (AD (AH d i) 0)++Cq (AD (AH d i) 1):=by simp [AL,C6,AH,h]
theorem AJP {d:List (List Int)} {i:Nat} (h:i<d.length):(C6 d).take (i+1)=(C6 d).take i++[Cq (AD (AH d i) 0)++Cq (AD (AH d i) 1)]:=by
 rw [ED (by simpa [C6] using h)]; simp [C6,AH,h]
theorem UF {d:List (List Int)} (h:∀ j:Nat,j<d.length→E8 (AH d j)=true):d.all E8=true:=by
 refine BD.2 fun x hx=>?_
 obtain ⟨j,hj,rfl⟩:=List.getElem_of_mem hx
 have:=h j hj
 simpa [AH,hj] using this
theorem ADS {d:List (List Int)} {i:Nat} (hi:i<d.length) (h:E8 (AH d i)=false):d.all E8=false:=by
 refine Bool.eq_false_iff.2 fun q=>?_
 have:=BD.1 q (AH d i) (by simp [AH,hi])
 rw [h] at this; cases this
theorem Po {r:List Int} (h:E8 r=true):r.length=2∧Ar 0 9 (AD r 0)=true∧Ar 0 9 (AD r 1)=true:=by
 simpa [E8] using h
theorem dg_i [HA K] {d:List (List Int)} (h:d.length≤9223372036854775807) (hr:∀ r∈d,r.length≤9223372036854775807):K 354 [LL d] [.s (Cp d)]:=by
 refine AG (f:=Ln) rfl ?_; simp only [Ln,zu]
 by_cases h0:d.length=0
 ·simp only [Cp]
  rw [if_pos h0]
  simp (disch:=first|omega|simp only[vl];omega) only [AA]
 ·by_cases h20:20<d.length
  ·simp only [Cp]
   rw [if_neg h0,if_pos h20]
   simp (disch:=first|omega|simp only[vl];omega) only [AA]
  ·simp only [Cp]
   rw [if_neg h0,if_neg h20]
   have hw:=Qf (d:=d)
   simp (disch:=first|omega|simp only[vl];omega) only [AA]
   rw [YH]
   refine Ag (fun i=>∀ j:Nat,j<i→E8 (AH d j)=true) (fun i=>[.u,.u,LS ((C6 d).take i),.u,.u,.u,LL d,.n d.length,.n i,.u,.u]) d.length (by simp) (by simp) (fun i hi hP=>?_) (fun hP=>?_)
   ·have ht:((C6 d).take i).length=i:=by simp; omega
    have hrl:=hr _ (K3 (i:=i) (m:=d) hi)
    cases hd:E8 (AH d i)
    ·rw [ADS hi hd]
     by_cases h2:(AH d i).length=2
     ·simp (disch:=first|omega|simp only[vl];omega) only [AA,h2]
      refine AE (DW (K:=K)) rfl ?_
      cases q1:Ar 0 9 (AD (AH d i) 0)
      ·simp (disch:=first|omega|simp only[vl];omega) only [AA]
       simp
      ·simp (disch:=first|omega|simp only[vl];omega) only [AA]
       refine AE (DW (K:=K)) rfl ?_
       have q2:Ar 0 9 (AD (AH d i) 1)=false:=by
        simpa [E8,h2,q1] using hd
       simp (disch:=first|omega|simp only[vl];omega) only [AA,q2]
       simp
     ·simp (disch:=first|omega|simp only[vl];omega) only [AA]
      simp
    ·obtain ⟨h2,q1,q2⟩:=Po hd
     have b1:=BG.1 q1
     have b2:=BG.1 q2
     have l1:=F8 (n:=AD (AH d i) 0) (by omega)
     have l2:=F8 (n:=AD (AH d i) 1) (by omega)
     simp (disch:=first|omega|simp only[vl];omega) only [AA,h2]
     refine AE (DW (K:=K)) rfl ?_
     simp (disch:=first|omega|simp only[vl];omega) only [AA,q1]
     refine AE (DW (K:=K)) rfl ?_
     simp (disch:=first|omega|simp only[vl];omega) only [AA,q2]
     refine AE (Tm (K:=K) (n:=AD (AH d i) 0) (by omega)) rfl ?_
     simp (disch:=first|omega|simp only[vl];omega) only [AA]
     refine AE (Tm (K:=K) (n:=AD (AH d i) 1) (by omega)) rfl ?_
     simp (disch:=first|omega|simp only[vl];omega) only [AA,AJP hi]
     exact CH hP hd
   ·have ht:(C6 d).take d.length=C6 d:=List.take_of_length_le (by omega)
    have hlen:∀ x∈C6 d,x.length≤100000:=by
     intro x hx
     obtain ⟨r,hr1,rfl⟩:=List.mem_map.1 hx
     obtain ⟨h2,q1,q2⟩:=Po (BD.1 (UF hP) r hr1)
     have b1:=BG.1 q1
     have b2:=BG.1 q2
     have l1:=F8 (n:=AD r 0) (by omega)
     have l2:=F8 (n:=AD r 1) (by omega)
     simp only [Ad]; omega
    have kg:=RM (K:=K) (ws:=C6 d) (sep:=[32]) (by omega) hlen (by simp)
    rw [UF hP]
    simp (disch:=first|omega|simp only[vl];omega) only [AA,ht]
    refine AE (kg) rfl ?_
    simp (disch:=first|omega|simp only[vl];omega) only [AA]
theorem AF4 {d:List (List Int)} (h0:d.length≠0) (h:20<d.length∨d.all E8=false):Cp d=[]:=by
 unfold Cp
 rw [if_neg h0]
 split
 ·rfl
 ·rcases h with h | h
  ·omega
  ·rw [h]; rfl
theorem dg_s [HA K] {d:List (List Int)} (h:d.length≤9223372036854775807) (hr:∀ r∈d,r.length≤9223372036854775807):K 352 [LL d] [.s (Cp d)]:=by
 refine AG (f:=Kt) rfl ?_; simp only [Kt,zu]
 have hw:=Qf (d:=d)
 simp (disch:=first|omega|simp only[vl];omega) only [AA]
 refine Ag (fun i=>(i=0∨d.length≤20)∧(∀ j:Nat,j<i→E8 (AH d j)=true)∧(CD [32] (C6 d) i).length≤i*100∧(0<i→CD [32] (C6 d) i≠[])) (fun i=>[LL d,.u,.s (CD [32] (C6 d) i),.n i,.u,.u,.u,.u]) d.length (by simp [CD]) rfl (fun i hi hP=>?_) (fun hP=>?_)
 ·obtain ⟨g1,g2,g3,g4⟩:=hP
  have hrl:=hr _ (K3 (i:=i) (m:=d) hi)
  cases hd:E8 (AH d i)
  ·rw [AF4 (by omega) (.inr (ADS hi hd))]
   by_cases h2:(AH d i).length=2
   ·simp (disch:=first|omega|simp only[vl];omega) only [AA,h2]
    refine AE (Cs (K:=K)) rfl ?_
    cases q1:Ar 0 9 (AD (AH d i) 0)
    ·simp (disch:=first|omega|simp only[vl];omega) only [AA]
    ·simp (disch:=first|omega|simp only[vl];omega) only [AA]
     refine AE (Cs (K:=K)) rfl ?_
     have q2:Ar 0 9 (AD (AH d i) 1)=false:=by
      simpa [E8,h2,q1] using hd
     simp (disch:=first|omega|simp only[vl];omega) only [AA,q2]
   ·simp (disch:=first|omega|simp only[vl];omega) only [AA]
  ·obtain ⟨h2,q1,q2⟩:=Po hd
   have b1:=BG.1 q1
   have b2:=BG.1 q2
   have l1:=F8 (n:=AD (AH d i) 0) (by omega)
   have l2:=F8 (n:=AD (AH d i) 1) (by omega)
   have l3:=Rf (n:=AD (AH d i) 0)
   simp (disch:=first|omega|simp only[vl];omega) only [AA,h2]
   refine AE (Cs (K:=K)) rfl ?_
   simp (disch:=first|omega|simp only[vl];omega) only [AA,q1]
   refine AE (Cs (K:=K)) rfl ?_
   by_cases h20:20<d.length
   ·rw [AF4 (by omega) (.inl h20)]
    simp (disch:=first|omega|simp only[vl];omega) only [AA,q2]
   ·have hq:(CD [32] (C6 d) (i+1)).length≤(i+1)*100∧(0<i+1→CD [32] (C6 d) (i+1)≠[]):=by
     simp only [CD,Qn hi,Ad]
     have:(if 0<i then [32] else ([]:List Nat)).length≤1:=by split <;> simp
     refine ⟨by omega,fun _ q=>?_⟩
     have:=congrArg List.length q
     simp only [Ad,Aq] at this
     omega
    by_cases hi0:0<i
    ·simp (disch:=first|omega|simp only[vl];omega) only [AA,q2]
     refine AE (J3 (K:=K) (n:=AD (AH d i) 0) (by omega)) rfl ?_
     simp (disch:=first|omega|simp only[vl];omega) only [AA]
     refine AE (J3 (K:=K) (n:=AD (AH d i) 1) (by omega)) rfl ?_
     simp (disch:=first|omega|simp only[vl];omega) only [AA]
     exact ⟨⟨by omega,CH g2 hd,hq.1,fun _=>hq.2 (by omega)⟩,by simp only [CD,if_pos hi0,Qn hi,Bw]⟩
    ·simp (disch:=first|omega|simp only[vl];omega) only [AA,q2]
     refine AE (J3 (K:=K) (n:=AD (AH d i) 0) (by omega)) rfl ?_
     simp (disch:=first|omega|simp only[vl];omega) only [AA]
     refine AE (J3 (K:=K) (n:=AD (AH d i) 1) (by omega)) rfl ?_
     simp (disch:=first|omega|simp only[vl];omega) only [AA]
     exact ⟨⟨by omega,CH g2 hd,hq.1,fun _=>hq.2 (by omega)⟩,by simp only [CD,if_neg hi0,Qn hi,Bw,List.append_nil]⟩
 ·obtain ⟨g1,g2,g3,g4⟩:=hP
  by_cases h0:d.length=0
  ·have e:Cp d=[110,111,110,101]:=by unfold Cp; rw [if_pos h0]
   have e2:CD [32] (C6 d) d.length=[]:=by rw [h0]; rfl
   rw [e,e2]
   simp (disch:=first|omega|simp only[vl];omega) only [AA]
  ·have e:(CD [32] (C6 d) d.length == [])=false:=beq_eq_false_iff_ne.2 (g4 (by omega))
   have e2:Cp d=glue [32] (C6 d):=by
    unfold Cp; rw [if_neg h0,if_neg (by omega),UF g2]; rfl
   rw [e2]
   simp (disch:=first|omega|simp only[vl];omega) only [AA,e]
   simp only [glue,hw]
end Go.Cat
