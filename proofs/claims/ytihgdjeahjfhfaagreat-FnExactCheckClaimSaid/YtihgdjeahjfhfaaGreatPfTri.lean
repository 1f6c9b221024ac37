/-
 Triangulations of trees.
-/
import Derived.Test.YtihgdjeahjfhfaaGreatPfSrt
import Derived.Test.YtihgdjeahjfhfaaGreatPfBT
import Derived.Test.YtihgdjeahjfhfaaGreatPfPart
import Derived.Test.YtihgdjeahjfhfaaGreatIrHas
set_option linter.unusedSimpArgs false
set_option linter.unusedVariables false
namespace Go.Cat
variable {K:Nat→List D→List D→Prop}
def BT.isLf:BT→Bool
 | .lf=>true
 | .nd _ _=>false
theorem BT.nz {x:BT}:nzD x.d=some x.isLf:=by cases x <;> rfl
theorem BT.isLf_n {x:BT}:x.isLf=decide (x.n=0):=by cases x <;> simp [BT.isLf,BT.n]
theorem BT.isLf_t {x:BT} (h:x.isLf=true):x=.lf:=by cases x <;> simp [BT.isLf] at h ⊢
def dgI:BT→Int→Int→List (List Int)
 | .lf,_,_=>[]
 | .nd a b,l,r=>(if a.isLf=true then [] else [[l,l+a.n+1]])++((if b.isLf=true then [] else [[l+a.n+1,r]])++(dgI a l (l+a.n+1)++dgI b (l+a.n+1) r))
def cnI:BT→Int→Int→List (List Int)
 | .lf,_,_=>[]
 | .nd a b,l,r=>[[l,l+a.n+1,r]]++(cnI a l (l+a.n+1)++cnI b (l+a.n+1) r)
theorem dgI_len:∀ {x:BT} {l r:Int},(dgI x l r).length≤2*x.n
 | .lf,_,_=>by simp [dgI]
 | .nd a b,l,r=>by
  have h1:=dgI_len (x:=a) (l:=l) (r:=l+a.n+1)
  have h2:=dgI_len (x:=b) (l:=l+a.n+1) (r:=r)
  simp only [dgI,qla,BT.n]
  have:(if a.isLf=true then [] else [[l,l+(a.n:Int)+1]]).length≤1:=by split <;> simp
  have:(if b.isLf=true then [] else [[l+(a.n:Int)+1,r]]).length≤1:=by split <;> simp
  omega
theorem cnI_len:∀ {x:BT} {l r:Int},(cnI x l r).length=x.n
 | .lf,_,_=>rfl
 | .nd a b,l,r=>by
  simp only [cnI,qla,BT.n,qlc,qln,cnI_len]; omega
theorem b_tf:(true == false)=false:=rfl
theorem LL_appT {a b:List (List Int)} (h:a.length+b.length≤1099511627776):appD false (LL a) (LL b)=some (LL (a++b)):=LL_app ⟨h,rfl⟩
theorem tri_i [HA K]:∀ {x:BT} {l r:Int} {c s:List (List Int)},x.n≤1000→0≤l→l+x.n≤100000→r=l+x.n+1→c.length+x.n≤1000000→s.length+2*x.n≤1000000→
  K 541 [x.d,.n l,.n r,LL c,LL s] [LL (c++cnI x l r),LL (s++dgI x l r)]
 | .lf,l,r,c,s,_,_,_,_,_,_=>by
  refine body_by (f:=ir_impl_tree_triangles) rfl ?_; simp only [ir_impl_tree_triangles,zn,zs,zq,zi,zg,zp]
  simp only [BT.d,cnI,dgI,List.append_nil]
  simp (disch:=first|omega|simp only[vl];omega) only [vcd]
 | .nd a b,l,r,c,s,h,h0,h1,hr,hc,hs=>by
  simp only [BT.n] at h h1 hr hc hs
  have l1:=cnI_len (x:=a) (l:=l) (r:=l+a.n+1)
  have l2:=dgI_len (x:=a) (l:=l) (r:=l+a.n+1)
  have kn:=nodes_ok (K:=K) a (by omega)
  refine body_by (f:=ir_impl_tree_triangles) rfl ?_; simp only [ir_impl_tree_triangles,zn,zs,zq,zi,zg,zp]
  simp only [BT.d]
  simp (disch:=first|omega|simp only[vl];omega) only [vcd,BT.known_d,b_ft]
  refine call_by (kn) rfl ?_
  simp (disch:=first|omega|simp only[vl];omega) only [vcd,li_3,ll_1,LL_appT]
  have ea:(l+(a.n:Int)+1)=l+a.n+1:=rfl
  have ka:=fun (s':List (List Int)) (hs':s'.length≤s.length+2)=>tri_i (x:=a) (l:=l) (r:=l+a.n+1) (c:=c++[[l,l+(a.n:Int)+1,r]]) (s:=s') (by omega) h0 (by omega) rfl (by simp; omega) (by omega)
  have kb:=fun (s':List (List Int)) (hs':s'.length≤s.length+2+2*a.n)=>tri_i (x:=b) (l:=l+a.n+1) (r:=r) (c:=(c++[[l,l+(a.n:Int)+1,r]])++cnI a l (l+a.n+1)) (s:=s') (by omega) (by omega) (by omega) (by omega) (by simp; omega) (by omega)
  cases hla:a.isLf <;> cases hlb:b.isLf
  all_goals
   simp (disch:=first|omega|simp only[vl];omega) only [vcd,BT.known_d,BT.nz,hla,hlb,b_ft,b_tf,li_2,ll_1,LL_appT]
   refine call_by (ka _ (by first | omega | (simp only [qla,qlc,qln]; omega))) rfl ?_
   simp (disch:=first|omega|simp only[vl];omega) only [vcd,BT.known_d]
   refine call_by (kb _ (by first | omega | (simp only [qla,qlc,qln]; omega))) rfl ?_
   simp (disch:=first|omega|simp only[vl];omega) only [vcd]
   refine D2 ?_ ?_
   ·simp [cnI]
   ·simp [dgI,hla,hlb]
end Go.Cat
