/-
 What two trees have in common; trees between two; the line of a pair.
-/
import Derived.Test.YtfoiofhilbdlaaaPfPairA
import Derived.Test.YtfoiofhilbdlaaaPfWayD
import Derived.Test.YtfoiofhilbdlaaaPfTri2
import Derived.Test.YtfoiofhilbdlaaaPfBT
import Derived.Test.YtfoiofhilbdlaaaPfAp
import Derived.Test.YtfoiofhilbdlaaaPfPLine
import Derived.Test.YtfoiofhilbdlaaaIrHas
set_option linter.unusedSimpArgs false
set_option linter.unusedVariables false
namespace Go.Cat
variable {K:Nat→List D→List D→Prop}
theorem trees_ex:∀ (l:List (List Nat)),(∀ w∈l,dyck w=true)→∃ t:List BT,t.map BT.p=l
 | [],_=>⟨[],rfl⟩
 | w::l,h=>by
  obtain ⟨t,ht⟩:=trees_ex l (fun w hw=>h w (qmc _ hw))
  obtain ⟨x,rfl,_⟩:=ex_p (h w (List.mem_cons_self ..))
  exact ⟨x::t,by simp [ht]⟩
theorem prs42:∀ n:Nat,n<6→(pathsR n).length≤42∧∀ w∈pathsR n,dyck w=true:=by decide
theorem atS_mapP {l:List BT} {i:Nat} (h:i<l.length):atS (l.map BT.p) (i:Nat)=(btG l i).p:=by simp [atS,btG,h]
theorem trs_ok [HA K] {n:Nat} (h:n≤5):∃ t:List BT,t.length≤42∧(∀ z∈t,z.n≤8)∧K 506 [.n n] [LT_ t]∧K 504 [.n n] [LT_ t]:=by
 obtain ⟨h42,hd⟩:=prs42 n (by omega)
 obtain ⟨t,ht⟩:=trees_ex (pathsR n) hd
 have hl:t.length=(pathsR n).length:=by rw [← ht,List.length_map]
 have hn:∀ z∈t,z.n≤8:=fun z hz=>by
  have h1:z.p∈pathsR n:=by rw [← ht]; exact List.mem_map.2 ⟨z,hz,rfl⟩
  obtain ⟨y,e,hy⟩:=ex_p (hd _ h1)
  rw [BT.pinj e]; exact hy
 refine ⟨t,by omega,hn,?_,?_⟩
 ·have k1:=ap_i (K:=K) (n:=n) (by omega)
  rw [← ht] at k1
  refine body_by (f:=ir_impl_treesOf) rfl ?_; simp only [ir_impl_treesOf,zn,zs,zq,zi,zg,zp]
  simp (disch:=first|omega|simp only[vl];omega) only [vcd]
  refine call_by (k1) rfl ?_
  simp (disch:=first|omega|simp only[vl];omega) only [vcd,List.length_map]
  refine loop_ix (fun _=>True) (fun i=>[.u,.u,LT_ (t.take i),.u,LS (t.map BT.p),.n t.length,.n i,.u]) t.length trivial rfl (fun i hi _=>?_) (fun _=>?_)
  ·have ea:=atS_mapP hi
   have hz:=hn _ (btG_mem hi)
   have et:t.take (i+1)=t.take i++[btG t i]:=by rw [qta hi,btG_eq hi]
   have el:(t.take i).length≤42:=by rw [List.length_take]; omega
   simp (disch:=first|omega|simp only[vl];omega) only [vcd,List.length_map,ea]
   refine call_by (top_i (K:=K) (x:=btG t i) hz) rfl ?_
   simp (disch:=first|omega|simp only[vl];omega) only [vcd]
   refine call_by (text_ok (K:=K) (x:=btG t i) (by omega)) rfl ?_
   simp (disch:=first|omega|simp only[vl];omega) only [vcd,List.length_map]
   rw [et,LT_,List.map_append]
   rfl
  ·rw [List.take_length]
   simp (disch:=first|omega|simp only[vl];omega) only [vcd]
 ·have k1:=pl_s (K:=K) (n:=n) (by omega)
  rw [← ht] at k1
  refine body_by (f:=ir_spec_l17Trees) rfl ?_; simp only [ir_spec_l17Trees,zn,zs,zq,zi,zg,zp]
  simp (disch:=first|omega|simp only[vl];omega) only [vcd]
  refine call_by (k1) rfl ?_
  simp (disch:=first|omega|simp only[vl];omega) only [vcd,List.length_map]
  refine loop_ix (fun _=>True) (fun i=>[.u,.u,LT_ (t.take i),LS (t.map BT.p),.n i,.u]) t.length trivial rfl (fun i hi _=>?_) (fun _=>?_)
  ·have ea:=atS_mapP hi
   have hz:=hn _ (btG_mem hi)
   have et:t.take (i+1)=t.take i++[btG t i]:=by rw [qta hi,btG_eq hi]
   have el:(t.take i).length≤42:=by rw [List.length_take]; omega
   simp (disch:=first|omega|simp only[vl];omega) only [vcd,List.length_map,ea]
   refine call_by (l6b_ok (K:=K) (x:=btG t i) hz) rfl ?_
   simp (disch:=first|omega|simp only[vl];omega) only [vcd,List.length_map]
   rw [et,LT_,List.map_append]
   rfl
  ·rw [List.take_length]
   simp (disch:=first|omega|simp only[vl];omega) only [vcd,List.length_map]
end Go.Cat
