/-
 Texts of numbers, diagonals.
-/
import Derived.Test.YtdaefhflccndlaaGreatPfFmt
import Derived.Test.YtdaefhflccndlaaGreatPfClaim
import Derived.Test.YtdaefhflccndlaaGreatIrHas
set_option linter.unusedSimpArgs false
set_option linter.unusedVariables false
namespace Go.Cat
variable {K:Nat→List D→List D→Prop}
def glT (sep:List Nat) (ws:List (List Nat)):Nat→List Nat
 | 0=>[]
 | i+1=>glT sep ws i++(if 0<i then sep else [])++atS ws i
def glue (sep:List Nat) (ws:List (List Nat)):List Nat:=glT sep ws ws.length
theorem atS_len {ws:List (List Nat)} {b i:Nat} (h:∀ x∈ws,x.length≤b):(atS ws i).length≤b:=by
 rcases qlg i ws.length with q | q
 ·exact h _ (by simp [atS,q])
 ·have:atS ws i=[]:=by simp [atS,q]
  rw [this]; simp
theorem glT_len {sep:List Nat} {ws:List (List Nat)} {b:Nat} (h:∀ x∈ws,x.length≤b):∀ i,(glT sep ws i).length≤i*(b+sep.length)
 | 0=>by simp [glT]
 | i+1=>by
  have h1:=glT_len (sep:=sep) h i
  have h2:=atS_len (i:=i) h
  simp only [glT,qla,Nat.succ_mul]
  have:(if 0<i then sep else []).length≤sep.length:=by split <;> simp
  omega
theorem glued_ok [HA K] {ws:List (List Nat)} {sep:List Nat} (hl:ws.length≤100000) (hb:∀ x∈ws,x.length≤100000) (hs:sep.length≤100):K 184 [LS ws,.s sep] [.s (glue sep ws)]:=by
 refine body_by (f:=ir_impl_glued) rfl ?_; simp only [ir_impl_glued,zn,zs,zq,zi,zg,zp]
 simp (disch:=first|omega|simp only[vl];omega) only [vcd]
 refine loop_ix (fun _=>True) (fun i=>[.u,.s sep,.u,.s (glT sep ws i),.u,.u,LS ws,.n ws.length,.n i,.u,.u]) ws.length trivial rfl (fun i hi _=>?_) (fun _=>?_)
 ·have h1:=glT_len (sep:=sep) hb i
  have h2:=atS_len (i:=i) hb
  have h3:i*(100000+sep.length)≤100000*(100000+100):=Nat.mul_le_mul (by omega) (by omega)
  by_cases h0:0<i
  ·simp (disch:=first|omega|simp only[vl];omega) only [vcd]
   simp only [glT,if_pos h0]
  ·simp (disch:=first|omega|simp only[vl];omega) only [vcd]
   simp only [glT,if_neg h0,List.append_nil]
 ·simp (disch:=first|omega|simp only[vl];omega) only [vcd]
  rfl
theorem LS_nilT:D.l []=LS []:=rfl
def dgB (r:List Int):Bool:=decide (r.length=2)&&(inR 0 9 (atI r 0)&&inR 0 9 (atI r 1))
def dgW (d:List (List Int)):List (List Nat):=d.map fun r=>fmtI (atI r 0)++fmtI (atI r 1)
def dgF (d:List (List Int)):List Nat:=if d.length=0 then [110,111,110,101] else if 20<d.length then [] else if d.all dgB=true then glue [32] (dgW d) else []
theorem dgW_len {d:List (List Int)}:(dgW d).length=d.length:=by simp [dgW]
theorem dgW_take {d:List (List Int)} {i:Nat} (h:i<d.length):(dgW d).take (i+1)=(dgW d).take i++[fmtI (atI (atL d i) 0)++fmtI (atI (atL d i) 1)]:=by
 rw [qta (by simpa [dgW] using h)]; simp [dgW,atL,h]
theorem dg_all {d:List (List Int)} (h:∀ j:Nat,j<d.length→dgB (atL d j)=true):d.all dgB=true:=by
 refine qat.2 fun x hx=>?_
 obtain ⟨j,hj,rfl⟩:=List.getElem_of_mem hx
 have:=h j hj
 simpa [atL,hj] using this
theorem dg_no {d:List (List Int)} {i:Nat} (hi:i<d.length) (h:dgB (atL d i)=false):d.all dgB=false:=by
 refine Bool.eq_false_iff.2 fun q=>?_
 have:=qat.1 q (atL d i) (by simp [atL,hi])
 rw [h] at this; cases this
theorem dgB_len {r:List Int} (h:dgB r=true):r.length=2∧inR 0 9 (atI r 0)=true∧inR 0 9 (atI r 1)=true:=by
 simpa [dgB] using h
theorem dg_i [HA K] {d:List (List Int)} (h:d.length≤9223372036854775807) (hr:∀ r∈d,r.length≤9223372036854775807):K 354 [LL d] [.s (dgF d)]:=by
 refine body_by (f:=ir_impl_FormatDiagonals) rfl ?_; simp only [ir_impl_FormatDiagonals,zn,zs,zq,zi,zg,zp]
 by_cases h0:d.length=0
 ·simp only [dgF]
  rw [if_pos h0]
  simp (disch:=first|omega|simp only[vl];omega) only [vcd]
 ·by_cases h20:20<d.length
  ·simp only [dgF]
   rw [if_neg h0,if_pos h20]
   simp (disch:=first|omega|simp only[vl];omega) only [vcd]
  ·simp only [dgF]
   rw [if_neg h0,if_neg h20]
   have hw:=dgW_len (d:=d)
   simp (disch:=first|omega|simp only[vl];omega) only [vcd]
   rw [LS_nilT]
   refine loop_ix (fun i=>∀ j:Nat,j<i→dgB (atL d j)=true) (fun i=>[.u,.u,LS ((dgW d).take i),.u,.u,.u,LL d,.n d.length,.n i,.u,.u]) d.length (by simp) (by simp) (fun i hi hP=>?_) (fun hP=>?_)
   ·have ht:((dgW d).take i).length=i:=by simp; omega
    have hrl:=hr _ (atL_in (i:=i) (m:=d) hi)
    cases hd:dgB (atL d i)
    ·rw [dg_no hi hd]
     by_cases h2:(atL d i).length=2
     ·simp (disch:=first|omega|simp only[vl];omega) only [vcd,h2]
      refine call_by (within_ok (K:=K)) rfl ?_
      cases q1:inR 0 9 (atI (atL d i) 0)
      ·simp (disch:=first|omega|simp only[vl];omega) only [vcd]
       simp
      ·simp (disch:=first|omega|simp only[vl];omega) only [vcd]
       refine call_by (within_ok (K:=K)) rfl ?_
       have q2:inR 0 9 (atI (atL d i) 1)=false:=by
        simpa [dgB,h2,q1] using hd
       simp (disch:=first|omega|simp only[vl];omega) only [vcd,q2]
       simp
     ·simp (disch:=first|omega|simp only[vl];omega) only [vcd]
      simp
    ·obtain ⟨h2,q1,q2⟩:=dgB_len hd
     have b1:=inR_iff.1 q1
     have b2:=inR_iff.1 q2
     have l1:=fmt_len (n:=atI (atL d i) 0) (by omega)
     have l2:=fmt_len (n:=atI (atL d i) 1) (by omega)
     simp (disch:=first|omega|simp only[vl];omega) only [vcd,h2]
     refine call_by (within_ok (K:=K)) rfl ?_
     simp (disch:=first|omega|simp only[vl];omega) only [vcd,q1]
     refine call_by (within_ok (K:=K)) rfl ?_
     simp (disch:=first|omega|simp only[vl];omega) only [vcd,q2]
     refine call_by (fmt_i (K:=K) (n:=atI (atL d i) 0) (by omega)) rfl ?_
     simp (disch:=first|omega|simp only[vl];omega) only [vcd]
     refine call_by (fmt_i (K:=K) (n:=atI (atL d i) 1) (by omega)) rfl ?_
     simp (disch:=first|omega|simp only[vl];omega) only [vcd,dgW_take hi]
     exact all_s hP hd
   ·have ht:(dgW d).take d.length=dgW d:=List.take_of_length_le (by omega)
    have hlen:∀ x∈dgW d,x.length≤100000:=by
     intro x hx
     obtain ⟨r,hr1,rfl⟩:=List.mem_map.1 hx
     obtain ⟨h2,q1,q2⟩:=dgB_len (qat.1 (dg_all hP) r hr1)
     have b1:=inR_iff.1 q1
     have b2:=inR_iff.1 q2
     have l1:=fmt_len (n:=atI r 0) (by omega)
     have l2:=fmt_len (n:=atI r 1) (by omega)
     simp only [qla]; omega
    have kg:=glued_ok (K:=K) (ws:=dgW d) (sep:=[32]) (by omega) hlen (by simp)
    rw [dg_all hP]
    simp (disch:=first|omega|simp only[vl];omega) only [vcd,ht]
    refine call_by (kg) rfl ?_
    simp (disch:=first|omega|simp only[vl];omega) only [vcd]
end Go.Cat
