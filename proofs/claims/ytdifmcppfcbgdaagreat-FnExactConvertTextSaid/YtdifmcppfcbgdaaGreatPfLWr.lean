/-
 WriteAs, KindsLine, ListOf answer as the reference does.
-/
import Derived.Test.YtdifmcppfcbgdaaGreatPfWrite
import Derived.Test.YtdifmcppfcbgdaaGreatPfAp2
import Derived.Test.YtdifmcppfcbgdaaGreatIrHas
import Derived.Test.YtdifmcppfcbgdaaGreatPfDraw
set_option linter.unusedSimpArgs false
set_option linter.unusedVariables false
namespace Go.Cat
variable {K:Nat→List D→List D→Prop}
theorem has_s [HA K] {ws:List (List Nat)} {k:List Nat} (h:ws.length≤1099511627776):K 378 [LS ws,.s k] [.b (ws.contains k)]:=by
 refine body_by (f:=ir_spec_l15Has) rfl ?_; simp only [ir_spec_l15Has,zn,zs,zq,zi,zg,zp]
 simp (disch:=omega) only [vcd]
 refine loop_ix (fun i=>k∉ws.take i) (fun i=>[LS ws,.s k,.u,.n i,.u,.u]) ws.length (by simp) rfl (fun i hi hP=>?_) (fun hP=>?_)
 ·have et:ws.take (i+1)=ws.take i++[atS ws i]:=by
   rw [qta hi]; simp [atS,hi]
  have hm:atS ws i∈ws:=by simp [atS,hi]
  cases hc:(atS ws i == k)
  ·simp (disch:=omega) only [vcd,hc]
   rw [et]
   intro q
   rcases qma.1 q with q | q
   ·exact hP q
   ·simp only [List.mem_singleton] at q
    rw [q] at hc
    simp at hc
  ·have e:atS ws i=k:=by simpa using hc
   simp (disch:=omega) only [vcd,hc]
   refine Db ?_
   rw [← e]
   simpa using hm
 ·simp (disch:=omega) only [vcd]
  refine Db ?_
  rw [List.take_length] at hP
  simpa using hP
theorem kix_has {k:List Nat}:kdN.contains k=decide (kix k<9):=by
 by_cases h:kix k<9
 ·have e:=kix_at h
  have hm:atS kdN (kix k)∈kdN:=by
   have:kix k<kdN.length:=h
   simp [atS,this]
  rw [← e] at hm
  simp [h,hm]
 ·have:k∉kdN:=by
   intro q
   have:=kix_no h q
   simp at this
  simp [h,this]
theorem kix_i:∀ i:Nat,i<9→kix (atS kdN i)=i
 | 0,_=>by decide
 | 1,_=>by decide
 | 2,_=>by decide
 | 3,_=>by decide
 | 4,_=>by decide
 | 5,_=>by decide
 | 6,_=>by decide
 | 7,_=>by decide
 | 8,_=>by decide
 | i+9,h=>absurd h (by omega)
end Go.Cat
namespace Go.Cat
variable {K:Nat→List D→List D→Prop}
set_option maxRecDepth 100000
theorem un_good {a b:Int} (h:unO a b=true):dyck (unRR a b)=true∧rkR (unRR a b)=b∧szR (unRR a b)=a∧(unRR a b).length≤16:=by
 have h':0≤a∧a≤8∧0≤b∧b<bw a.toNat a.toNat:=by simpa [unO] using h
 obtain ⟨n,rfl⟩:=qoz h'.1
 obtain ⟨k,rfl⟩:=qoz h'.2.2.1
 simp only [qtn] at h'
 have hk:k<bw n n:=by omega
 obtain ⟨⟨g1,g2,g3⟩,g4⟩:=unr_ok (n+n) n n k (by omega) rfl hk
 rw [unRR_in (by omega) hk]
 have hd:dyck (unr (n+n) n n k)=true:=by
  simp only [dyck,qba,qde]
  exact ⟨by rw [← g3]; congr 1; omega,by omega⟩
 refine ⟨hd,?_,?_,by omega⟩
 ·simp only [rkR,hd,if_true,g2]
  rw [show (n+n) / 2=n by omega,g4]
 ·simp only [szR,hd,if_true,g2]; omega
theorem unRR_len {a b:Int}:(unRR a b).length≤16:=by
 cases h:unO a b
 ·rw [unRR_out h]; simp
 ·exact (un_good h).2.2.2
theorem rk_good {w:List Nat} (h:dyck w=true):∃ n r:Nat,w.length=2*n∧n≤8∧rkR w=r∧szR w=n∧r<bw n n∧unRR n r=w∧unO n r=true:=by
 obtain ⟨g,hl⟩:=gw_dyck h
 obtain ⟨q1,q2⟩:=rk_ok w _ _ g
 have g2:=g.2.1
 refine ⟨w.length / 2,rkF w (w.length / 2) (w.length / 2),by omega,by omega,by simp [rkR,h],by simp only [szR,h,if_true]; omega,q1,?_,unO_in (by omega) q1⟩
 rw [unRR_in (by omega) q1,q2]
end Go.Cat
