/-
 Drawn paths.
-/
import Derived.Test.YtjbonmaggidboaaPfDraw
import Derived.Test.YtjbonmaggidboaaIrHas
set_option linter.unusedSimpArgs false
set_option linter.unusedVariables false
namespace Go.Cat
variable {K:Nat→List D→List D→Prop}
theorem l2Draw_ok [HA K] {d:D} (hd:Cur d) {n:Int} (hn:n≤1000):∃ rs,(∃ x d',rs=[.s x,d']∧(x.length:Int)≤2*max n 0∧Cur d')∧K 306 [d,.n n] rs:=by
 refine body_ex (f:=ir_spec_l2Draw) rfl ?_; simp only [ir_spec_l2Draw,zn,zs,zq,zi,zg,zp]
 simp (disch:=first|omega|simp only[vl];omega) only [vcd]
 refine loop_wh (fun (q:D×List Nat×Int×Int)=>Cur q.1∧(0≤q.2.2.1∧q.2.2.1≤max n 0∧0≤q.2.2.2∧q.2.2.2≤max n 0)∧(q.2.1.length:Int)=q.2.2.1+q.2.2.2) (fun q=>[q.1,.n n,.u,.s q.2.1,.n q.2.2.1,.n q.2.2.2,.u,.u]) (fun q=>(2*max n 0-q.2.2.1-q.2.2.2).toNat) (d,[],0,0) ⟨hd,by simp; omega,by simp⟩ rfl ?_
 rintro ⟨d1,x,u,v⟩ ⟨hd1,hr,hx⟩
 simp only at hd1 hr hx ⊢
 by_cases h0:v<n
 ·by_cases h1:u<n
  ·by_cases h2:u=v
   ·simp (disch:=first|omega|simp only[vl];omega) only [vcd,h2]
    exact ⟨(d1,x++[117],v+1,v),by simp only []; omega,⟨hd1,by simp only []; omega,by simp; omega⟩,rfl⟩
   ·obtain ⟨_,⟨b,d2,rfl,hd2⟩,k2⟩:=l1Once_ok (K:=K) hd1 (n:=2)
    simp (disch:=first|omega|simp only[vl];omega) only [vcd]
    refine call_by (k2) rfl ?_
    cases b
    ·simp (disch:=first|omega|simp only[vl];omega) only [vcd]
     exact ⟨(d2,x++[100],u,v+1),by simp only []; omega,⟨hd2,by simp only []; omega,by simp; omega⟩,rfl⟩
    ·simp (disch:=first|omega|simp only[vl];omega) only [vcd]
     exact ⟨(d2,x++[117],u+1,v),by simp only []; omega,⟨hd2,by simp only []; omega,by simp; omega⟩,rfl⟩
  ·simp (disch:=first|omega|simp only[vl];omega) only [vcd]
   exact ⟨(d1,x++[100],u,v+1),by simp only []; omega,⟨hd1,by simp only []; omega,by simp; omega⟩,rfl⟩
 ·simp (disch:=first|omega|simp only[vl];omega) only [vcd]
  exact ⟨x,d1,rfl,by omega,hd1⟩
theorem l2Path_ok [HA K] {d:D} (hd:Cur d):∃ rs,(∃ x d',rs=[.s x,d']∧x.length≤12∧Cur d')∧K 317 [d] rs:=by
 refine body_ex (f:=ir_spec_l2Path) rfl ?_; simp only [ir_spec_l2Path,zn,zs,zq,zi,zg,zp]
 obtain ⟨_,⟨n,d1,rfl,hn,hd1⟩,k1⟩:=l1Below_ok (K:=K) hd (n:=7)
 have hn:=hn.2 (by omega)
 obtain ⟨_,⟨x,d2,rfl,hx,hd2⟩,k2⟩:=l2Draw_ok (K:=K) hd1 (n:=n) (by omega)
 simp (disch:=omega) only [vcd]
 refine call_by (k1) rfl ?_
 simp (disch:=omega) only [vcd]
 refine call_by (k2) rfl ?_
 simp (disch:=omega) only [vcd]
 exact ⟨_,_,rfl,by omega,hd2⟩
end Go.Cat
