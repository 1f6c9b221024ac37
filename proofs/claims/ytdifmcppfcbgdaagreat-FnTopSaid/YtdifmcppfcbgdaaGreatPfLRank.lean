/-
 Paths by rank: the law.
-/
import Derived.Test.YtdifmcppfcbgdaaGreatPfDrawP
import Derived.Test.YtdifmcppfcbgdaaGreatIrHas
set_option linter.unusedSimpArgs false
set_option linter.unusedVariables false
namespace Go.Cat
variable {K:Nat→List D→List D→Prop}
set_option maxRecDepth 100000
theorem joinK {P G:Prop} (f:G→P) (g:G):P:=f g
theorem bigK_ok [HA K] {code:List Nat}:K 220 [LB code] [.b (decide (1048576<(code.length:Int)))]:=by
 refine body_by (f:=ir_laws_big) rfl ?_; simp only [ir_laws_big,zn,zs,zq,zi,zg,zp]
 simp (disch:=first|omega|simp only[vl];omega) only [vc]
theorem sameWordsK [HA K] {a:List (List Nat)} (h:a.length≤1099511627776):K 255 [LS a,LS a] [.b true]:=by
 refine body_by (f:=ir_laws_sameWords) rfl ?_; simp only [ir_laws_sameWords,zn,zs,zq,zi,zg,zp]
 simp (disch:=first|omega|simp only[vl];omega) only [vcd]
 refine loop_ix (fun i=>True) (fun i=>[LS a,LS a,.u,.n i,.u,.u,.u]) a.length trivial rfl (fun i hi hP=>?_) (fun hP=>?_) <;> simp (disch:=first|omega|simp only[vl];omega) only [vcd]
theorem un_good {a b:Int} (h:unO a b=true):dyck (unRR a b)=true∧rkR (unRR a b)=b∧szR (unRR a b)=a∧(unRR a b).length≤16:=by
 have h':0≤a∧a≤8∧0≤b∧b<bw a.toNat a.toNat:=by simpa [unO] using h
 obtain ⟨n,rfl⟩:=qoz h'.1
 obtain ⟨k,rfl⟩:=qoz h'.2.2.1
 simp only [qtn] at h'
 have hk:k<bw n n:=by omega
 obtain ⟨⟨g1,g2,g3⟩,g4⟩:=unr_ok (n+n) n n k (by omega) rfl hk
 rw [unRR_in (by omega) hk]
 have hd:dyck (unr (n+n) n n k)=true:=by
  simp only [dyck,qba,qde]
  exact ⟨by rw [← g3]; congr 1; omega,by omega⟩
 refine ⟨hd,?_,?_,by omega⟩
 ·simp only [rkR,hd,if_true,g2]
  rw [show (n+n) / 2=n by omega,g4]
 ·simp only [szR,hd,if_true,g2]; omega
theorem unRR_len {a b:Int}:(unRR a b).length≤16:=by
 cases h:unO a b
 ·rw [unRR_out h]; simp
 ·exact (un_good h).2.2.2
theorem rk_good {w:List Nat} (h:dyck w=true):∃ n r:Nat,w.length=2*n∧n≤8∧rkR w=r∧szR w=n∧r<bw n n∧unRR n r=w∧unO n r=true:=by
 obtain ⟨g,hl⟩:=gw_dyck h
 obtain ⟨q1,q2⟩:=rk_ok w _ _ g
 have g2:=g.2.1
 refine ⟨w.length / 2,rkF w (w.length / 2) (w.length / 2),by omega,by omega,by simp [rkR,h],by simp only [szR,h,if_true]; omega,q1,?_,unO_in (by omega) q1⟩
 rw [unRR_in (by omega) q1,q2]
end Go.Cat
