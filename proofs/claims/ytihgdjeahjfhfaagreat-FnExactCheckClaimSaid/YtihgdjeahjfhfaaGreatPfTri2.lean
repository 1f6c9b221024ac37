/-
 Triangulations of trees, both sides.
-/
import Derived.Test.YtihgdjeahjfhfaaGreatPfTri
set_option linter.unusedSimpArgs false
set_option linter.unusedVariables false
namespace Go.Cat
variable {K:Nat→List D→List D→Prop}
theorem no_i [HA K] {x:BT} (h:x.n≤8):K 169 [.s x.t] [.n x.n]:=by
 refine body_by (f:=ir_impl_NodesOf) rfl ?_; simp only [ir_impl_NodesOf,zn,zs,zq,zi,zg,zp]
 simp (disch:=omega) only [vcd]
 refine call_by (pt_yes (K:=K) h) rfl ?_
 simp (disch:=omega) only [vcd,BT.known_d]
 refine call_by (nodes_ok (K:=K) x (by omega)) rfl ?_
 simp (disch:=omega) only [vcd]
theorem no_i0 [HA K] {s:List Nat} (h:isB s=false):K 169 [.s s] [.n (-1)]:=by
 refine body_by (f:=ir_impl_NodesOf) rfl ?_; simp only [ir_impl_NodesOf,zn,zs,zq,zi,zg,zp]
 simp (disch:=omega) only [vcd]
 refine call_by (pt_no (K:=K) h) rfl ?_
 simp (disch:=omega) only [vcd]
theorem no_s [HA K] {x:BT} (h:x.n≤8):K 162 [.s x.t] [.n x.n]:=by
 have hl:=BT.tl x
 refine body_by (f:=ir_spec_NodesOf) rfl ?_; simp only [ir_spec_NodesOf,zn,zs,zq,zi,zg,zp]
 simp (disch:=omega) only [vcd]
 refine call_by (isb_s (K:=K) (s:=x.t)) rfl ?_
 simp (disch:=omega) only [vcd,isB_yes h]
 exact Dn (by omega)
theorem bef_s [HA K] {x y:List Int} (hx:row2 x) (hy:row2 y):K 374 [LI x,LI y] [.b (ltR x y)]:=by
 have lx:x.length=2:=hx
 have ly:y.length=2:=hy
 refine body_by (f:=ir_spec_l7Before) rfl ?_; simp only [ir_spec_l7Before,zn,zs,zq,zi,zg,zp]
 simp (disch:=omega) only [vcd]
 by_cases h1:atI x 0<atI y 0
 ·simp (disch:=omega) only [vcd]
  simp [ltR,h1]
 ·by_cases h2:atI x 0=atI y 0
  ·simp (disch:=omega) only [vcd,h2]
   simp [ltR,h2]
  ·simp (disch:=omega) only [vcd]
   simp [ltR,h1,h2]
theorem t_len {a b:BT}:(BT.nd a b).t.length=a.t.length+b.t.length+2:=by simp [BT.t]; omega
theorem t_a {a b:BT}:sub (BT.nd a b).t 1 (1+(a.t.length:Int))=a.t:=by
 have e:(1+(a.t.length:Int)).toNat=a.t.length+1:=by omega
 show (List.take (1+(a.t.length:Int)).toNat (BT.nd a b).t).drop (1:Int).toNat=_
 rw [e]
 simp [BT.t]
theorem t_b {a b:BT} {j:Int} (hj:j=(BT.nd a b).t.length-1):sub (BT.nd a b).t (1+(a.t.length:Int)) j=b.t:=by
 have e:(1+(a.t.length:Int)).toNat=(40::a.t).length:=by simp; omega
 have hl:=t_len (a:=a) (b:=b)
 have e2:j.toNat=(40::a.t++b.t).length:=by simp; omega
 have e3:(BT.nd a b).t=(40::a.t++b.t)++[41]:=by simp [BT.t]
 show (List.take j.toNat (BT.nd a b).t).drop (1+(a.t.length:Int)).toNat=_
 rw [e,e2,e3,List.take_left,List.drop_left]
theorem le_1 [HA K] {a b:BT} (h:(BT.nd a b).n≤1000000):K 188 [.s (BT.nd a b).t,.n 1] [.n (1+a.t.length)]:=by
 have hl:=BT.tl (.nd a b)
 exact le_yes (K:=K) (s:=(BT.nd a b).t) (by omega) a 1 (b.t++[41]) (by simp [BT.t])
theorem nd_ne {a b:BT}:((BT.nd a b).t == [46])=false:=by simp [BT.t]
end Go.Cat
