/-
 Numbers of paths: heights, returns, area, peaks, places of valleys, runs, depth.
-/
import Derived.Test.YtdaefhflccndlaaGreatPfMat
import Derived.Test.YtdaefhflccndlaaGreatIrHas
set_option linter.unusedSimpArgs false
set_option linter.unusedVariables false
namespace Go.Cat
variable {K:Nat→List D→List D→Prop}
theorem LI_nilS:D.l []=LI []:=rfl
theorem take_snocI {m:List Int} {i:Nat} (h:i<m.length):m.take (i+1)=m.take i++[atI m i]:=by
 rw [qta h]; simp [atI,h]
theorem Hh_bd {w:List Nat} {i:Nat}:Hh w i≤i∧-(i:Int)≤Hh w i:=by
 have h1:=cnt_le (w:=w.take i) (c:=117)
 have h2:=cnt_le (w:=w.take i) (c:=100)
 simp only [Hh]
 simp only [List.length_take] at h1 h2
 omega
def hL (w:List Nat):List Int:=(List.range (w.length+1)).map fun i=>Hh w i
theorem hL_len {w:List Nat}:(hL w).length=w.length+1:=by simp [hL]
theorem hL_at {w:List Nat} {i:Nat} (h:i<w.length+1):atI (hL w) i=Hh w i:=by simp [hL,atI,h]
theorem hts_len:∀ (w:List Nat) (h:Int),(hts w h).length=w.length
 | [],_=>rfl
 | c::w,h=>by unfold hts; split <;> simp [hts_len w]
theorem hts_at:∀ (w:List Nat) (h:Int) (i:Nat),allud w=true→i≤w.length→atI (h::hts w h) i=h+Hh w i
 | w,h,0,_,_=>by simp [atI,Hh_0]
 | [],h,i+1,_,hi=>by simp at hi
 | c::w,h,i+1,ha,hi=>by
  rw [allud_cons,qba,qde] at ha
  have e:∀ (l:List Int),atI (h::l) ((i+1:Nat):Int)=atI l i:=fun l=>by simp [atI]
  rw [e,Hh_cons]
  simp only [hts]
  simp only [qlc] at hi
  rcases ha.1 with hc | hc
  ·rw [if_pos hc,hts_at w (h+1) i ha.2 (by omega),hc]; simp; omega
  ·rw [if_neg (by omega),hts_at w (h-1) i ha.2 (by omega),hc]; simp; omega
theorem dy_all {w:List Nat} (hd:dyck w=true):allud w=true:=by
 have:=dyck_iff.1 hd
 exact this.2.1
theorem hts_hL {w:List Nat} (hd:dyck w=true):htsR w=hL w∧htsO w=true:=by
 have hw:walkH w 0=some 0:=by
  simp only [dyck,qba,qde] at hd
  exact hd.1
 refine ⟨?_,by simp [htsO,hw]⟩
 simp only [htsR,hw]
 refine extI (by rw [hL_len,qlc,hts_len]) fun j hj=>?_
 rw [qlc,hts_len] at hj
 rw [hts_at w 0 j (dy_all hd) (by omega),hL_at hj]
 omega
theorem ho_i [HA K] {w:List Nat} (hd:dyck w=true):K 501 [.s w] [LI (hL w)]:=by
 have hl:=(DY_of hd).l
 obtain ⟨e1,e2⟩:=hts_hL hd
 have k1:=heights_ok (K:=K) (w:=w) (by omega)
 rw [e1,e2] at k1
 refine body_by (f:=ir_impl_HeightsOf) rfl ?_; simp only [ir_impl_HeightsOf,zn,zs,zq,zi,zg,zp]
 simp (disch:=omega) only [vcd]
 repeat (first | (refine call_by (dyck_i (K:=K) (w:=w) (by omega)) rfl ?_; try simp (disch:=omega) only [vcd,hd]))
 refine call_by (k1) rfl ?_
 simp (disch:=omega) only [vcd]
def pvF (a b:Nat) (g:Nat→Nat) (w:List Nat) (i:Nat):Nat:=sumU (fun j=>if atB w j=a∧atB w ((j:Int)+1)=b then g j else 0) i
end Go.Cat
