/-
 Rotations at the level of texts.
-/
import Derived.Test.YtihgdjeahjfhfaaGreatPfRotM
import Derived.Test.YtihgdjeahjfhfaaGreatPfTri2
import Derived.Test.YtihgdjeahjfhfaaGreatIrHas
import Derived.Test.YtihgdjeahjfhfaaGreatCatFour
set_option linter.unusedSimpArgs false
set_option linter.unusedVariables false
namespace Go.Cat
variable {K:Nat→List D→List D→Prop}
def BT.at:BT→Int→BT
 | .lf,_=>.lf
 | .nd l r,v=>if v<l.n then l.at v else if (l.n:Int)<v then r.at (v-l.n-1) else .nd l r
def BT.rep:BT→Int→BT→BT
 | .lf,_,_=>.lf
 | .nd l r,v,y=>if v<l.n then .nd (l.rep v y) r else if (l.n:Int)<v then .nd l (r.rep (v-l.n-1) y) else y
theorem at_nd:∀ {x:BT} {v:Int},0≤v→v<x.n→∃ a b,x.at v=.nd a b
 | .lf,v,h1,h2=>by simp only [BT.n] at h2; omega
 | .nd l r,v,h1,h2=>by
  simp only [BT.n] at h2
  simp only [BT.at]
  split
  ·exact at_nd h1 (by omega)
  ·split
   ·exact at_nd (by omega) (by omega)
   ·exact ⟨_,_,rfl⟩
theorem at_n:∀ {x:BT} {v:Int},(x.at v).n≤x.n
 | .lf,_=>Nat.le_refl _
 | .nd l r,v=>by
  simp only [BT.at]
  split
  ·have:=at_n (x:=l) (v:=v); simp only [BT.n]; omega
  ·split
   ·have:=at_n (x:=r) (v:=v-l.n-1); simp only [BT.n]; omega
   ·exact Nat.le_refl _
theorem rrB_out:∀ {x:BT} {v:Int},v<0∨(x.n:Int)≤v→rrB x v=none
 | .lf,_,_=>rfl
 | .nd l r,v,h=>by
  simp only [BT.n] at h
  simp only [rrB]
  split
  ·rfl
  ·rw [if_neg (by omega),if_neg (by omega),rrB_out (by omega)]; rfl
theorem rlB_out:∀ {x:BT} {v:Int},v<0∨(x.n:Int)≤v→rlB x v=none
 | .lf,_,_=>rfl
 | .nd l r,v,h=>by
  simp only [BT.n] at h
  simp only [rlB]
  split
  ·rfl
  ·rw [if_neg (by omega),if_neg (by omega),rlB_out (by omega)]; rfl
theorem rrB_lf:∀ {x:BT} {v:Int} {c:BT},0≤v→v<x.n→x.at v=.nd .lf c→rrB x v=none
 | .lf,_,_,_,_,_=>rfl
 | .nd l r,v,c,h1,h2,h=>by
  simp only [BT.n] at h2
  simp only [BT.at] at h
  simp only [rrB]
  rw [if_neg (by omega)]
  by_cases q:v<(l.n:Int)
  ·rw [if_pos q] at h ⊢
   rw [rrB_lf h1 q h]; rfl
  ·rw [if_neg q] at h ⊢
   by_cases q2:(l.n:Int)<v
   ·rw [if_pos q2] at h
    rw [if_neg (by omega),rrB_lf (by omega) (by omega) h]; rfl
   ·rw [if_neg q2] at h
    rw [if_pos (by omega)]
    injection h with h3 _
    subst h3
    rfl
theorem rrB_nd:∀ {x:BT} {v:Int} {a b c:BT},0≤v→v<x.n→x.at v=.nd (.nd a b) c→rrB x v=some (x.rep v (.nd a (.nd b c)))
 | .lf,v,_,_,_,h1,h2,_=>by simp only [BT.n] at h2; omega
 | .nd l r,v,a,b,c,h1,h2,h=>by
  simp only [BT.n] at h2
  simp only [BT.at] at h
  simp only [rrB,BT.rep]
  rw [if_neg (by omega)]
  by_cases q:v<(l.n:Int)
  ·rw [if_pos q] at h ⊢
   rw [rrB_nd h1 q h,if_pos q]; rfl
  ·rw [if_neg q] at h ⊢
   rw [if_neg q]
   by_cases q2:(l.n:Int)<v
   ·rw [if_pos q2] at h ⊢
    rw [if_neg (by omega),rrB_nd (by omega) (by omega) h]; rfl
   ·rw [if_neg q2] at h ⊢
    rw [if_pos (by omega)]
    injection h with h3 h4
    subst h3 h4
    rfl
theorem rlB_lf:∀ {x:BT} {v:Int} {c:BT},0≤v→v<x.n→x.at v=.nd c .lf→rlB x v=none
 | .lf,_,_,_,_,_=>rfl
 | .nd l r,v,c,h1,h2,h=>by
  simp only [BT.n] at h2
  simp only [BT.at] at h
  simp only [rlB]
  rw [if_neg (by omega)]
  by_cases q:v<(l.n:Int)
  ·rw [if_pos q] at h ⊢
   rw [rlB_lf h1 q h]; rfl
  ·rw [if_neg q] at h ⊢
   by_cases q2:(l.n:Int)<v
   ·rw [if_pos q2] at h
    rw [if_neg (by omega),rlB_lf (by omega) (by omega) h]; rfl
   ·rw [if_neg q2] at h
    rw [if_pos (by omega)]
    injection h with h3 h4
    subst h4
    rfl
theorem rlB_nd:∀ {x:BT} {v:Int} {a b c:BT},0≤v→v<x.n→x.at v=.nd a (.nd b c)→rlB x v=some (x.rep v (.nd (.nd a b) c))
 | .lf,v,_,_,_,h1,h2,_=>by simp only [BT.n] at h2; omega
 | .nd l r,v,a,b,c,h1,h2,h=>by
  simp only [BT.n] at h2
  simp only [BT.at] at h
  simp only [rlB,BT.rep]
  rw [if_neg (by omega)]
  by_cases q:v<(l.n:Int)
  ·rw [if_pos q] at h ⊢
   rw [rlB_nd h1 q h,if_pos q]; rfl
  ·rw [if_neg q] at h ⊢
   rw [if_neg q]
   by_cases q2:(l.n:Int)<v
   ·rw [if_pos q2] at h ⊢
    rw [if_neg (by omega),rlB_nd (by omega) (by omega) h]; rfl
   ·rw [if_neg q2] at h ⊢
    rw [if_pos (by omega)]
    injection h with h3 h4
    subst h3 h4
    rfl
theorem div3 {a:BT}:((a.t.length:Int)-1).tdiv 3=a.n:=by
 rw [BT.tl,Int.tdiv_eq_ediv_of_nonneg (by omega)]
 omega
theorem div3' {a:BT}:((a.t.length:Int)-1) / 3=a.n:=by
 rw [BT.tl]
 omega
theorem repB_n:∀ {x:BT} {v:Int} {y:BT},(x.rep v y).n≤x.n+y.n
 | .lf,_,_=>by simp [BT.rep,BT.n]
 | .nd l r,v,y=>by
  simp only [BT.rep]
  split
  ·have:=repB_n (x:=l) (v:=v) (y:=y); simp only [BT.n]; omega
  ·split
   ·have:=repB_n (x:=r) (v:=v-l.n-1) (y:=y); simp only [BT.n]; omega
   ·omega
theorem l16n_s [HA K]:∀ {x:BT} {v:Int},x.n≤8→0≤v→v<x.n→K 191 [.s x.t,.n v] [.s (x.at v).t]
 | .lf,v,_,h1,h2=>by simp only [BT.n] at h2; omega
 | .nd a b,v,h,h1,h2=>by
  have h':=h
  have h2':=h2
  simp only [BT.n] at h' h2'
  have ta:=BT.tl a
  have tb:=BT.tl b
  have hl:=t_len (a:=a) (b:=b)
  have ea:=t_a (a:=a) (b:=b)
  have ke:=le_1 (K:=K) (a:=a) (b:=b) (by omega)
  have e0:=nd_ne (a:=a) (b:=b)
  have eb:=t_b (a:=a) (b:=b) (j:=(BT.nd a b).t.length-1) rfl
  have hq:=div3 (a:=a)
  have hq2:=div3' (a:=a)
  simp only [BT.at]
  by_cases q:v<(a.n:Int)
  ·have k1:=l16n_s (x:=a) (v:=v) (by omega) h1 q
   rw [if_pos q]
   generalize hw:(BT.nd a b).t=w at hl ea eb ke e0
   refine body_by (f:=ir_spec_l16Node) rfl ?_; simp only [ir_spec_l16Node,zn,zs,zq,zi,zg,zp]
   simp (disch:=first|omega|simp only[vl];omega) only [vcd,e0]
   refine call_by (ke) rfl ?_
   simp (disch:=first|omega|simp only[vl];omega) only [vcd,ea,hq,hq2]
   refine call_by (k1) rfl ?_
   simp (disch:=first|omega|simp only[vl];omega) only [vcd]
  ·rw [if_neg q]
   by_cases q2:(a.n:Int)<v
   ·have k2:=l16n_s (x:=b) (v:=v-a.n-1) (by omega) (by omega) (by omega)
    rw [if_pos q2]
    generalize hw:(BT.nd a b).t=w at hl ea eb ke e0
    refine body_by (f:=ir_spec_l16Node) rfl ?_; simp only [ir_spec_l16Node,zn,zs,zq,zi,zg,zp]
    simp (disch:=first|omega|simp only[vl];omega) only [vcd,e0]
    refine call_by (ke) rfl ?_
    simp (disch:=first|omega|simp only[vl];omega) only [vcd,ea,hq,hq2,eb]
    refine call_by (k2) rfl ?_
    simp (disch:=first|omega|simp only[vl];omega) only [vcd]
   ·rw [if_neg q2]
    generalize hw:(BT.nd a b).t=w at hl ea eb ke e0
    refine body_by (f:=ir_spec_l16Node) rfl ?_; simp only [ir_spec_l16Node,zn,zs,zq,zi,zg,zp]
    simp (disch:=first|omega|simp only[vl];omega) only [vcd,e0]
    refine call_by (ke) rfl ?_
    simp (disch:=first|omega|simp only[vl];omega) only [vcd,ea,hq,hq2]
theorem l16r_s [HA K]:∀ {x:BT} {v:Int} {y:BT},x.n≤8→y.n≤8→0≤v→v<x.n→K 207 [.s x.t,.n v,.s y.t] [.s (x.rep v y).t]
 | .lf,v,_,_,_,h1,h2=>by simp only [BT.n] at h2; omega
 | .nd a b,v,y,h,hy,h1,h2=>by
  have h':=h
  have h2':=h2
  simp only [BT.n] at h' h2'
  have ta:=BT.tl a
  have tb:=BT.tl b
  have hl:=t_len (a:=a) (b:=b)
  have ea:=t_a (a:=a) (b:=b)
  have ke:=le_1 (K:=K) (a:=a) (b:=b) (by omega)
  have e0:=nd_ne (a:=a) (b:=b)
  have eb:=t_b (a:=a) (b:=b) (j:=(BT.nd a b).t.length-1) rfl
  have hq:=div3 (a:=a)
  have hq2:=div3' (a:=a)
  simp only [BT.rep]
  by_cases q:v<(a.n:Int)
  ·have k1:=l16r_s (x:=a) (v:=v) (y:=y) (by omega) hy h1 q
   have n1:=repB_n (x:=a) (v:=v) (y:=y)
   have t1:=BT.tl (a.rep v y)
   rw [if_pos q]
   simp only [BT.t]
   generalize hw:(BT.nd a b).t=w at hl ea eb ke e0
   simp only [BT.t] at hw
   rw [hw]
   refine body_by (f:=ir_spec_l16Replace) rfl ?_; simp only [ir_spec_l16Replace,zn,zs,zq,zi,zg,zp]
   simp (disch:=first|omega|simp only[vl];omega) only [vcd,e0]
   refine call_by (ke) rfl ?_
   simp (disch:=first|omega|simp only[vl];omega) only [vcd,ea,hq,hq2,eb]
   refine call_by (k1) rfl ?_
   simp (disch:=first|omega|simp only[vl];omega) only [vcd]
   simp
  ·rw [if_neg q]
   by_cases q2:(a.n:Int)<v
   ·have k2:=l16r_s (x:=b) (v:=v-a.n-1) (y:=y) (by omega) hy (by omega) (by omega)
    have n1:=repB_n (x:=b) (v:=v-a.n-1) (y:=y)
    have t1:=BT.tl (b.rep (v-a.n-1) y)
    rw [if_pos q2]
    simp only [BT.t]
    generalize hw:(BT.nd a b).t=w at hl ea eb ke e0
    simp only [BT.t] at hw
    rw [hw]
    refine body_by (f:=ir_spec_l16Replace) rfl ?_; simp only [ir_spec_l16Replace,zn,zs,zq,zi,zg,zp]
    simp (disch:=first|omega|simp only[vl];omega) only [vcd,e0]
    refine call_by (ke) rfl ?_
    simp (disch:=first|omega|simp only[vl];omega) only [vcd,ea,hq,hq2,eb]
    refine call_by (k2) rfl ?_
    simp (disch:=first|omega|simp only[vl];omega) only [vcd]
    simp
   ·rw [if_neg q2]
    generalize hw:(BT.nd a b).t=w at hl ea eb ke e0
    refine body_by (f:=ir_spec_l16Replace) rfl ?_; simp only [ir_spec_l16Replace,zn,zs,zq,zi,zg,zp]
    simp (disch:=first|omega|simp only[vl];omega) only [vcd,e0]
    refine call_by (ke) rfl ?_
    simp (disch:=first|omega|simp only[vl];omega) only [vcd,ea,hq,hq2,eb]
def roR (y:Option BT):List D:=[.s (y.elim [] BT.t),.b y.isSome]
theorem nd_46 {a b:BT}:¬ (BT.nd a b).t=[46]:=by simp [BT.t]
theorem rr_s [HA K] {x:BT} {v:Int} (h:x.n≤8) (hv:-1000000000≤v∧v≤1000000000):K 192 [.s x.t,.n v] (roR (rrB x v)):=by
 refine body_by (f:=ir_spec_RotateRight) rfl ?_; simp only [ir_spec_RotateRight,zn,zs,zq,zi,zg,zp]
 simp (disch:=first|omega|simp only[vl];omega) only [vcd]
 refine call_by (no_s (K:=K) h) rfl ?_
 simp (disch:=first|omega|simp only[vl];omega) only [vcd]
 refine call_by (l1In_ok (K:=K)) rfl ?_
 cases hi:inR 0 ((x.n:Int)-1) v
 ·have:v<0∨(x.n:Int)≤v:=by
   have:=inR_f.1 hi
   omega
  simp (disch:=first|omega|simp only[vl];omega) only [vcd]
  rw [rrB_out this]
  rfl
 ·have hi2:=inR_iff.1 hi
  obtain ⟨a,b,hab⟩:=at_nd (x:=x) (v:=v) (by omega) (by omega)
  have k1:=l16n_s (K:=K) (x:=x) (v:=v) h (by omega) (by omega)
  have hn:=at_n (x:=x) (v:=v)
  rw [hab] at k1 hn
  have hn':=hn
  simp only [BT.n] at hn'
  have ta:=BT.tl a
  have tb:=BT.tl b
  have hl:=t_len (a:=a) (b:=b)
  have ea:=t_a (a:=a) (b:=b)
  have ke:=le_1 (K:=K) (a:=a) (b:=b) (by omega)
  have eb:=t_b (a:=a) (b:=b) (j:=(BT.nd a b).t.length-1) rfl
  simp (disch:=first|omega|simp only[vl];omega) only [vcd]
  refine call_by (k1) rfl ?_
  simp (disch:=first|omega|simp only[vl];omega) only [vcd]
  refine call_by (ke) rfl ?_
  cases a with
  | lf=>
   have e3:(BT.lf.t == [46])=true:=rfl
   simp (disch:=first|omega|simp only[vl];omega) only [vcd,ea,e3]
   rw [rrB_lf (by omega) (by omega) hab]
   rfl
  | nd a1 a2=>
   have e3:=nd_ne (a:=a1) (b:=a2)
   have e4:=nd_46 (a:=a1) (b:=a2)
   have hn2:=hn'
   simp only [BT.n] at hn2
   have ta1:=BT.tl a1
   have ta2:=BT.tl a2
   have hl2:=t_len (a:=a1) (b:=a2)
   have ea2:=t_a (a:=a1) (b:=a2)
   have ke2:=le_1 (K:=K) (a:=a1) (b:=a2) (by omega)
   have eb2:=t_b (a:=a1) (b:=a2) (j:=(BT.nd a1 a2).t.length-1) rfl
   have k5:=l16r_s (K:=K) (x:=x) (v:=v) (y:=.nd a1 (.nd a2 b)) h (by simp only [BT.n]; omega) (by omega) (by omega)
   rw [rrB_nd (by omega) (by omega) hab]
   simp (disch:=first|omega|simp only[vl];omega) only [vcd,ea,e3,e4]
   refine call_by (ke2) rfl ?_
   simp (disch:=first|omega|simp only[vl];omega) only [vcd,ea2,eb2,eb]
   have ey:(40::(a1.t++[40]++a2.t++b.t++[41,41]))=(BT.nd a1 (.nd a2 b)).t:=by simp [BT.t]
   rw [ey]
   refine call_by (k5) rfl ?_
   simp (disch:=first|omega|simp only[vl];omega) only [vcd]
   rfl
theorem rl_s [HA K] {x:BT} {v:Int} (h:x.n≤8) (hv:-1000000000≤v∧v≤1000000000):K 193 [.s x.t,.n v] (roR (rlB x v)):=by
 refine body_by (f:=ir_spec_RotateLeft) rfl ?_; simp only [ir_spec_RotateLeft,zn,zs,zq,zi,zg,zp]
 simp (disch:=first|omega|simp only[vl];omega) only [vcd]
 refine call_by (no_s (K:=K) h) rfl ?_
 simp (disch:=first|omega|simp only[vl];omega) only [vcd]
 refine call_by (l1In_ok (K:=K)) rfl ?_
 cases hi:inR 0 ((x.n:Int)-1) v
 ·have:v<0∨(x.n:Int)≤v:=by
   have:=inR_f.1 hi
   omega
  simp (disch:=first|omega|simp only[vl];omega) only [vcd]
  rw [rlB_out this]
  rfl
 ·have hi2:=inR_iff.1 hi
  obtain ⟨b,a,hab⟩:=at_nd (x:=x) (v:=v) (by omega) (by omega)
  have k1:=l16n_s (K:=K) (x:=x) (v:=v) h (by omega) (by omega)
  have hn:=at_n (x:=x) (v:=v)
  rw [hab] at k1 hn
  have hn':=hn
  simp only [BT.n] at hn'
  have ta:=BT.tl a
  have tb:=BT.tl b
  have hl:=t_len (a:=b) (b:=a)
  have ea:=t_a (a:=b) (b:=a)
  have ke:=le_1 (K:=K) (a:=b) (b:=a) (by omega)
  have eb:=t_b (a:=b) (b:=a) (j:=(BT.nd b a).t.length-1) rfl
  simp (disch:=first|omega|simp only[vl];omega) only [vcd]
  refine call_by (k1) rfl ?_
  simp (disch:=first|omega|simp only[vl];omega) only [vcd]
  refine call_by (ke) rfl ?_
  cases a with
  | lf=>
   have e3:(BT.lf.t == [46])=true:=rfl
   simp (disch:=first|omega|simp only[vl];omega) only [vcd,eb,e3]
   rw [rlB_lf (by omega) (by omega) hab]
   rfl
  | nd a1 a2=>
   have e3:=nd_ne (a:=a1) (b:=a2)
   have e4:=nd_46 (a:=a1) (b:=a2)
   have hn2:=hn'
   simp only [BT.n] at hn2
   have ta1:=BT.tl a1
   have ta2:=BT.tl a2
   have hl2:=t_len (a:=a1) (b:=a2)
   have ea2:=t_a (a:=a1) (b:=a2)
   have ke2:=le_1 (K:=K) (a:=a1) (b:=a2) (by omega)
   have eb2:=t_b (a:=a1) (b:=a2) (j:=(BT.nd a1 a2).t.length-1) rfl
   have k5:=l16r_s (K:=K) (x:=x) (v:=v) (y:=.nd (.nd b a1) a2) h (by simp only [BT.n]; omega) (by omega) (by omega)
   rw [rlB_nd (by omega) (by omega) hab]
   simp (disch:=first|omega|simp only[vl];omega) only [vcd,eb,e3,e4]
   refine call_by (ke2) rfl ?_
   simp (disch:=first|omega|simp only[vl];omega) only [vcd,ea,ea2,eb2,eb]
   have ey:(40::40::(b.t++a1.t++[41]++a2.t++[41]))=(BT.nd (.nd b a1) a2).t:=by simp [BT.t]
   rw [ey]
   refine call_by (k5) rfl ?_
   simp (disch:=first|omega|simp only[vl];omega) only [vcd]
   rfl
def roL (f:BT→Int→Option BT) (x:BT) (k:Nat):List BT:=(List.range k).filterMap fun i:Nat=>f x i
theorem roL_s {f:BT→Int→Option BT} {x:BT} {k:Nat}:roL f x (k+1)=roL f x k++(f x (k:Nat)).toList:=by
 simp only [roL,List.range_succ,List.filterMap_append]
 congr 1
theorem roL_len {f:BT→Int→Option BT} {x:BT} {k:Nat}:(roL f x k).length≤k:=by
 have:=List.length_filterMap_le (fun i:Nat=>f x i) (List.range k)
 simpa [roL] using this
abbrev LT_ (l:List BT):D:=LS (l.map BT.t)
theorem rots_r [HA K] [HRot K] {x:BT} (h:x.n≤8):K 201 [.s x.t,.f 200 []] [LT_ (roL rrB x x.n)]:=by
 refine body_by (f:=ir_impl_rotations) rfl ?_; simp only [ir_impl_rotations,zn,zs,zq,zi,zg,zp]
 simp (disch:=first|omega|simp only[vl];omega) only [vcd]
 refine loop_up (fun i (r:List (List Nat))=>r=(roL rrB x i).map BT.t) (fun i r=>[.s x.t,.f 200 [],.u,LS r,.n i,.u,.u,.u,.u]) x.n [] rfl rfl (fun i r hi hP=>?_) (fun r hP=>?_)
 ·have hl:=roL_len (f:=rrB) (x:=x) (k:=i)
  have hr:r.length≤i:=by rw [hP,List.length_map]; exact hl
  simp (disch:=first|omega|simp only[vl];omega) only [vcd]
  refine call_by (no_i (K:=K) h) rfl ?_
  have k1:=HRot.rr (K:=K) x (i:Nat) h (by omega) (by omega)
  simp (disch:=first|omega|simp only[vl];omega) only [vcd]
  refine call_by (k1) rfl ?_
  cases hy:rrB x (i:Nat) with
  | none=>
   simp only [Option.isSome_none,Option.elim_none]
   simp (disch:=first|omega|simp only[vl];omega) only [vcd]
   refine ⟨_,?_,rfl⟩
   rw [hP,roL_s,hy]
   simp
  | some y=>
   simp only [Option.isSome_some,Option.elim_some]
   have tn:=BT.tl y
   have hn:=rrB_n hy
   simp (disch:=first|omega|simp only[vl];omega) only [vcd]
   refine ⟨_,?_,rfl⟩
   rw [hP,roL_s,hy]
   simp
 ·simp (disch:=first|omega|simp only[vl];omega) only [vcd]
  refine call_by (no_i (K:=K) h) rfl ?_
  simp (disch:=first|omega|simp only[vl];omega) only [vcd]
  rw [hP]
theorem rots_l [HA K] [HasV K 201 ir_impl_rotations_w202] [HA K] [HRot K] {x:BT} (h:x.n≤8):K 201 [.s x.t,.f 202 []] [LT_ (roL rlB x x.n)]:=by
 refine body_byV (f:=ir_impl_rotations_w202) rfl ?_; simp only [ir_impl_rotations_w202,zn,zs,zq,zi,zg,zp]
 simp (disch:=first|omega|simp only[vl];omega) only [vcd]
 refine loop_up (fun i (r:List (List Nat))=>r=(roL rlB x i).map BT.t) (fun i r=>[.s x.t,.f 202 [],.u,LS r,.n i,.u,.u,.u,.u]) x.n [] rfl rfl (fun i r hi hP=>?_) (fun r hP=>?_)
 ·have hl:=roL_len (f:=rlB) (x:=x) (k:=i)
  have hr:r.length≤i:=by rw [hP,List.length_map]; exact hl
  simp (disch:=first|omega|simp only[vl];omega) only [vcd]
  refine call_by (no_i (K:=K) h) rfl ?_
  have k1:=HRot.rl (K:=K) x (i:Nat) h (by omega) (by omega)
  simp (disch:=first|omega|simp only[vl];omega) only [vcd]
  refine call_by (k1) rfl ?_
  cases hy:rlB x (i:Nat) with
  | none=>
   simp only [Option.isSome_none,Option.elim_none]
   simp (disch:=first|omega|simp only[vl];omega) only [vcd]
   refine ⟨_,?_,rfl⟩
   rw [hP,roL_s,hy]
   simp
  | some y=>
   simp only [Option.isSome_some,Option.elim_some]
   have tn:=BT.tl y
   have hn:=rlB_n hy
   simp (disch:=first|omega|simp only[vl];omega) only [vcd]
   refine ⟨_,?_,rfl⟩
   rw [hP,roL_s,hy]
   simp
 ·simp (disch:=first|omega|simp only[vl];omega) only [vcd]
  refine call_by (no_i (K:=K) h) rfl ?_
  simp (disch:=first|omega|simp only[vl];omega) only [vcd]
  rw [hP]
end Go.Cat
