/-
 Rotations at the level of texts.
-/
import Derived.Test.YtnjjceodpbhlmaaGreatPfRotM
import Derived.Test.YtnjjceodpbhlmaaGreatPfTri2
import Derived.Test.YtnjjceodpbhlmaaGreatIrHas
import Derived.Test.YtnjjceodpbhlmaaGreatCatFour
set_option linter.unusedSimpArgs false
set_option linter.unusedVariables false
namespace Go.Cat
variable {K:Nat→List D→List D→Prop}
def BT.at:BT→Int→BT
 | .lf,_=>.lf
 | .nd l r,v=>if v<l.n then l.at v else if (l.n:Int)<v then r.at (v-l.n-1) else .nd l r
def BT.rep:BT→Int→BT→BT
 | .lf,_,_=>.lf
 | .nd l r,v,y=>if v<l.n then .nd (l.rep v y) r else if (l.n:Int)<v then .nd l (r.rep (v-l.n-1) y) else y
theorem IG:∀ {x:BT} {v:Int},0≤v→v<x.n→∃ a b,x.at v=.nd a b
 | .lf,v,h1,h2=>by simp only [BT.n] at h2; omega
 | .nd l r,v,h1,h2=>by
  simp only [BT.n] at h2
  simp only [BT.at]
  split
  ·exact IG h1 (by omega)
  ·split
   ·exact IG (by omega) (by omega)
   ·exact ⟨_,_,rfl⟩
theorem LW:∀ {x:BT} {v:Int},(x.at v).n≤x.n
 | .lf,_=>Nat.le_refl _
 | .nd l r,v=>by
  simp only [BT.at]
  split
  ·have:=LW (x:=l) (v:=v); simp only [BT.n]; omega
  ·split
   ·have:=LW (x:=r) (v:=v-l.n-1); simp only [BT.n]; omega
   ·exact Nat.le_refl _
theorem ZO:∀ {x:BT} {v:Int},v<0∨(x.n:Int)≤v→BB x v=none
 | .lf,_,_=>rfl
 | .nd l r,v,h=>by
  simp only [BT.n] at h
  simp only [BB]
  split
  ·rfl
  ·rw [if_neg (by omega),if_neg (by omega),ZO (by omega)]; rfl
theorem AEU:∀ {x:BT} {v:Int},v<0∨(x.n:Int)≤v→Bk x v=none
 | .lf,_,_=>rfl
 | .nd l r,v,h=>by
  simp only [BT.n] at h
  simp only [Bk]
  split
  ·rfl
  ·rw [if_neg (by omega),if_neg (by omega),AEU (by omega)]; rfl
theorem NR:∀ {x:BT} {v:Int} {c:BT},0≤v→v<x.n→x.at v=.nd .lf c→BB x v=none
 | .lf,_,_,_,_,_=>rfl
 | .nd l r,v,c,h1,h2,h=>by
  simp only [BT.n] at h2
  simp only [BT.at] at h
  simp only [BB]
  rw [if_neg (by omega)]
  by_cases q:v<(l.n:Int)
  ·rw [if_pos q] at h ⊢
   rw [NR h1 q h]; rfl
  ·rw [if_neg q] at h ⊢
   by_cases q2:(l.n:Int)<v
   ·rw [if_pos q2] at h
    rw [if_neg (by omega),NR (by omega) (by omega) h]; rfl
   ·rw [if_neg q2] at h
    rw [if_pos (by omega)]
    injection h with h3 _
    subst h3
    rfl
theorem IU:∀ {x:BT} {v:Int} {a b c:BT},0≤v→v<x.n→x.at v=.nd (.nd a b) c→BB x v=some (x.rep v (.nd a (.nd b c)))
 | .lf,v,_,_,_,h1,h2,_=>by simp only [BT.n] at h2; omega
 | .nd l r,v,a,b,c,h1,h2,h=>by
  simp only [BT.n] at h2
  simp only [BT.at] at h
  simp only [BB,BT.rep]
  rw [if_neg (by omega)]
  by_cases q:v<(l.n:Int)
  ·rw [if_pos q] at h ⊢
   rw [IU h1 q h,if_pos q]; rfl
  ·rw [if_neg q] at h ⊢
   rw [if_neg q]
   by_cases q2:(l.n:Int)<v
   ·rw [if_pos q2] at h ⊢
    rw [if_neg (by omega),IU (by omega) (by omega) h]; rfl
   ·rw [if_neg q2] at h ⊢
    rw [if_pos (by omega)]
    injection h with h3 h4
    subst h3 h4
    rfl
theorem RE:∀ {x:BT} {v:Int} {c:BT},0≤v→v<x.n→x.at v=.nd c .lf→Bk x v=none
 | .lf,_,_,_,_,_=>rfl
 | .nd l r,v,c,h1,h2,h=>by
  simp only [BT.n] at h2
  simp only [BT.at] at h
  simp only [Bk]
  rw [if_neg (by omega)]
  by_cases q:v<(l.n:Int)
  ·rw [if_pos q] at h ⊢
   rw [RE h1 q h]; rfl
  ·rw [if_neg q] at h ⊢
   by_cases q2:(l.n:Int)<v
   ·rw [if_pos q2] at h
    rw [if_neg (by omega),RE (by omega) (by omega) h]; rfl
   ·rw [if_neg q2] at h
    rw [if_pos (by omega)]
    injection h with h3 h4
    subst h4
    rfl
theorem Rb:∀ {x:BT} {v:Int} {a b c:BT},0≤v→v<x.n→x.at v=.nd a (.nd b c)→Bk x v=some (x.rep v (.nd (.nd a b) c))
 | .lf,v,_,_,_,h1,h2,_=>by simp only [BT.n] at h2; omega
 | .nd l r,v,a,b,c,h1,h2,h=>by
  simp only [BT.n] at h2
  simp only [BT.at] at h
  simp only [Bk,BT.rep]
  rw [if_neg (by omega)]
  by_cases q:v<(l.n:Int)
  ·rw [if_pos q] at h ⊢
   rw [Rb h1 q h,if_pos q]; rfl
  ·rw [if_neg q] at h ⊢
   rw [if_neg q]
   by_cases q2:(l.n:Int)<v
   ·rw [if_pos q2] at h ⊢
    rw [if_neg (by omega),Rb (by omega) (by omega) h]; rfl
   ·rw [if_neg q2] at h ⊢
    rw [if_pos (by omega)]
    injection h with h3 h4
    subst h3 h4
    rfl
theorem Vd {a:BT}:((a.t.length:Int)-1).tdiv 3=a.n:=by
 rw [BT.tl,Int.tdiv_eq_ediv_of_nonneg (by omega)]
 omega
theorem ADN {a:BT}:((a.t.length:Int)-1) / 3=a.n:=by
 rw [BT.tl]
 omega
theorem Pc:∀ {x:BT} {v:Int} {y:BT},(x.rep v y).n≤x.n+y.n
 | .lf,_,_=>by simp [BT.rep,BT.n]
 | .nd l r,v,y=>by
  simp only [BT.rep]
  split
  ·have:=Pc (x:=l) (v:=v) (y:=y); simp only [BT.n]; omega
  ·split
   ·have:=Pc (x:=r) (v:=v-l.n-1) (y:=y); simp only [BT.n]; omega
   ·omega
theorem Lc [HA K]:∀ {x:BT} {v:Int},x.n≤8→0≤v→v<x.n→K 191 [.s x.t,.n v] [.s (x.at v).t]
 | .lf,v,_,h1,h2=>by simp only [BT.n] at h2; omega
 | .nd a b,v,h,h1,h2=>by
  have h':=h
  have h2':=h2
  simp only [BT.n] at h' h2'
  have ta:=BT.tl a
  have tb:=BT.tl b
  have hl:=Ge (a:=a) (b:=b)
  have ea:=IY (a:=a) (b:=b)
  have ke:=HY (K:=K) (a:=a) (b:=b) (by omega)
  have e0:=Lm (a:=a) (b:=b)
  have eb:=Ho (a:=a) (b:=b) (j:=(BT.nd a b).t.length-1) rfl
  have hq:=Vd (a:=a)
  have hq2:=ADN (a:=a)
  simp only [BT.at]
  by_cases q:v<(a.n:Int)
  ·have k1:=Lc (x:=a) (v:=v) (by omega) h1 q
   rw [if_pos q]
   generalize hw:(BT.nd a b).t=w at hl ea eb ke e0
   refine AG (f:=Ga) rfl ?_; simp only [Ga,zu]
   simp (disch:=omega) only [AA,e0]
   refine AE (ke) rfl ?_
   simp (disch:=omega) only [AA,ea,hq,hq2]
   refine AE (k1) rfl ?_
   simp (disch:=omega) only [AA]
  ·rw [if_neg q]
   by_cases q2:(a.n:Int)<v
   ·have k2:=Lc (x:=b) (v:=v-a.n-1) (by omega) (by omega) (by omega)
    rw [if_pos q2]
    generalize hw:(BT.nd a b).t=w at hl ea eb ke e0
    refine AG (f:=Ga) rfl ?_; simp only [Ga,zu]
    simp (disch:=omega) only [AA,e0]
    refine AE (ke) rfl ?_
    simp (disch:=omega) only [AA,ea,hq,hq2,eb]
    refine AE (k2) rfl ?_
    simp (disch:=omega) only [AA]
   ·rw [if_neg q2]
    generalize hw:(BT.nd a b).t=w at hl ea eb ke e0
    refine AG (f:=Ga) rfl ?_; simp only [Ga,zu]
    simp (disch:=omega) only [AA,e0]
    refine AE (ke) rfl ?_
    simp (disch:=omega) only [AA,ea,hq,hq2]
theorem Pp [HA K]:∀ {x:BT} {v:Int} {y:BT},x.n≤8→y.n≤8→0≤v→v<x.n→K 207 [.s x.t,.n v,.s y.t] [.s (x.rep v y).t]
 | .lf,v,_,_,_,h1,h2=>by simp only [BT.n] at h2; omega
 | .nd a b,v,y,h,hy,h1,h2=>by
  have h':=h
  have h2':=h2
  simp only [BT.n] at h' h2'
  have ta:=BT.tl a
  have tb:=BT.tl b
  have hl:=Ge (a:=a) (b:=b)
  have ea:=IY (a:=a) (b:=b)
  have ke:=HY (K:=K) (a:=a) (b:=b) (by omega)
  have e0:=Lm (a:=a) (b:=b)
  have eb:=Ho (a:=a) (b:=b) (j:=(BT.nd a b).t.length-1) rfl
  have hq:=Vd (a:=a)
  have hq2:=ADN (a:=a)
  simp only [BT.rep]
  by_cases q:v<(a.n:Int)
  ·have k1:=Pp (x:=a) (v:=v) (y:=y) (by omega) hy h1 q
   have n1:=Pc (x:=a) (v:=v) (y:=y)
   have t1:=BT.tl (a.rep v y)
   rw [if_pos q]
   simp only [BT.t]
   generalize hw:(BT.nd a b).t=w at hl ea eb ke e0
   simp only [BT.t] at hw
   rw [hw]
   refine AG (f:=GX) rfl ?_; simp only [GX,zu]
   simp (disch:=first|omega|simp only[vl];omega) only [AA,e0]
   refine AE (ke) rfl ?_
   simp (disch:=first|omega|simp only[vl];omega) only [AA,ea,hq,hq2,eb]
   refine AE (k1) rfl ?_
   simp (disch:=first|omega|simp only[vl];omega) only [AA]
   simp
  ·rw [if_neg q]
   by_cases q2:(a.n:Int)<v
   ·have k2:=Pp (x:=b) (v:=v-a.n-1) (y:=y) (by omega) hy (by omega) (by omega)
    have n1:=Pc (x:=b) (v:=v-a.n-1) (y:=y)
    have t1:=BT.tl (b.rep (v-a.n-1) y)
    rw [if_pos q2]
    simp only [BT.t]
    generalize hw:(BT.nd a b).t=w at hl ea eb ke e0
    simp only [BT.t] at hw
    rw [hw]
    refine AG (f:=GX) rfl ?_; simp only [GX,zu]
    simp (disch:=first|omega|simp only[vl];omega) only [AA,e0]
    refine AE (ke) rfl ?_
    simp (disch:=first|omega|simp only[vl];omega) only [AA,ea,hq,hq2,eb]
    refine AE (k2) rfl ?_
    simp (disch:=first|omega|simp only[vl];omega) only [AA]
    simp
   ·rw [if_neg q2]
    generalize hw:(BT.nd a b).t=w at hl ea eb ke e0
    refine AG (f:=GX) rfl ?_; simp only [GX,zu]
    simp (disch:=first|omega|simp only[vl];omega) only [AA,e0]
    refine AE (ke) rfl ?_
    simp (disch:=first|omega|simp only[vl];omega) only [AA,ea,hq,hq2,eb]
def Iu (y:Option BT):List D:=[.s (y.elim [] BT.t),.b y.isSome]
theorem YZ {a b:BT}:¬ (BT.nd a b).t=[46]:=by simp [BT.t]
theorem T0 [HA K] {x:BT} {v:Int} (h:x.n≤8) (hv:-1000000000≤v∧v≤1000000000):K 192 [.s x.t,.n v] (Iu (BB x v)):=by
 refine AG (f:=Mw) rfl ?_; simp only [Mw,zu]
 simp (disch:=first|omega|simp only[vl];omega) only [AA]
 refine AE (Ef (K:=K) h) rfl ?_
 simp (disch:=first|omega|simp only[vl];omega) only [AA]
 refine AE (Cs (K:=K)) rfl ?_
 cases hi:Ar 0 ((x.n:Int)-1) v
 ·have:v<0∨(x.n:Int)≤v:=by
   have:=MM.1 hi
   omega
  simp (disch:=first|omega|simp only[vl];omega) only [AA]
  rw [ZO this]
  rfl
 ·have hi2:=BG.1 hi
  obtain ⟨a,b,hab⟩:=IG (x:=x) (v:=v) (by omega) (by omega)
  have k1:=Lc (K:=K) (x:=x) (v:=v) h (by omega) (by omega)
  have hn:=LW (x:=x) (v:=v)
  rw [hab] at k1 hn
  have hn':=hn
  simp only [BT.n] at hn'
  have ta:=BT.tl a
  have tb:=BT.tl b
  have hl:=Ge (a:=a) (b:=b)
  have ea:=IY (a:=a) (b:=b)
  have ke:=HY (K:=K) (a:=a) (b:=b) (by omega)
  have eb:=Ho (a:=a) (b:=b) (j:=(BT.nd a b).t.length-1) rfl
  simp (disch:=first|omega|simp only[vl];omega) only [AA]
  refine AE (k1) rfl ?_
  simp (disch:=first|omega|simp only[vl];omega) only [AA]
  refine AE (ke) rfl ?_
  cases a with
  | lf=>
   have e3:(BT.lf.t == [46])=true:=rfl
   simp (disch:=first|omega|simp only[vl];omega) only [AA,ea,e3]
   rw [NR (by omega) (by omega) hab]
   rfl
  | nd a1 a2=>
   have e3:=Lm (a:=a1) (b:=a2)
   have e4:=YZ (a:=a1) (b:=a2)
   have hn2:=hn'
   simp only [BT.n] at hn2
   have ta1:=BT.tl a1
   have ta2:=BT.tl a2
   have hl2:=Ge (a:=a1) (b:=a2)
   have ea2:=IY (a:=a1) (b:=a2)
   have ke2:=HY (K:=K) (a:=a1) (b:=a2) (by omega)
   have eb2:=Ho (a:=a1) (b:=a2) (j:=(BT.nd a1 a2).t.length-1) rfl
   have k5:=Pp (K:=K) (x:=x) (v:=v) (y:=.nd a1 (.nd a2 b)) h (by simp only [BT.n]; omega) (by omega) (by omega)
   rw [IU (by omega) (by omega) hab]
   simp (disch:=first|omega|simp only[vl];omega) only [AA,ea,e3,e4]
   refine AE (ke2) rfl ?_
   simp (disch:=first|omega|simp only[vl];omega) only [AA,ea2,eb2,eb]
   have ey:(40::(a1.t++[40]++a2.t++b.t++[41,41]))=(BT.nd a1 (.nd a2 b)).t:=by simp [BT.t]
   rw [ey]
   refine AE (k5) rfl ?_
   simp (disch:=first|omega|simp only[vl];omega) only [AA]
   rfl
theorem rl_s [HA K] {x:BT} {v:Int} (h:x.n≤8) (hv:-1000000000≤v∧v≤1000000000):K 193 [.s x.t,.n v] (Iu (Bk x v)):=by
 refine AG (f:=LO) rfl ?_; simp only [LO,zu]
 simp (disch:=first|omega|simp only[vl];omega) only [AA]
 refine AE (Ef (K:=K) h) rfl ?_
 simp (disch:=first|omega|simp only[vl];omega) only [AA]
 refine AE (Cs (K:=K)) rfl ?_
 cases hi:Ar 0 ((x.n:Int)-1) v
 ·have:v<0∨(x.n:Int)≤v:=by
   have:=MM.1 hi
   omega
  simp (disch:=first|omega|simp only[vl];omega) only [AA]
  rw [AEU this]
  rfl
 ·have hi2:=BG.1 hi
  obtain ⟨b,a,hab⟩:=IG (x:=x) (v:=v) (by omega) (by omega)
  have k1:=Lc (K:=K) (x:=x) (v:=v) h (by omega) (by omega)
  have hn:=LW (x:=x) (v:=v)
  rw [hab] at k1 hn
  have hn':=hn
  simp only [BT.n] at hn'
  have ta:=BT.tl a
  have tb:=BT.tl b
  have hl:=Ge (a:=b) (b:=a)
  have ea:=IY (a:=b) (b:=a)
  have ke:=HY (K:=K) (a:=b) (b:=a) (by omega)
  have eb:=Ho (a:=b) (b:=a) (j:=(BT.nd b a).t.length-1) rfl
  simp (disch:=first|omega|simp only[vl];omega) only [AA]
  refine AE (k1) rfl ?_
  simp (disch:=first|omega|simp only[vl];omega) only [AA]
  refine AE (ke) rfl ?_
  cases a with
  | lf=>
   have e3:(BT.lf.t == [46])=true:=rfl
   simp (disch:=first|omega|simp only[vl];omega) only [AA,eb,e3]
   rw [RE (by omega) (by omega) hab]
   rfl
  | nd a1 a2=>
   have e3:=Lm (a:=a1) (b:=a2)
   have e4:=YZ (a:=a1) (b:=a2)
   have hn2:=hn'
   simp only [BT.n] at hn2
   have ta1:=BT.tl a1
   have ta2:=BT.tl a2
   have hl2:=Ge (a:=a1) (b:=a2)
   have ea2:=IY (a:=a1) (b:=a2)
   have ke2:=HY (K:=K) (a:=a1) (b:=a2) (by omega)
   have eb2:=Ho (a:=a1) (b:=a2) (j:=(BT.nd a1 a2).t.length-1) rfl
   have k5:=Pp (K:=K) (x:=x) (v:=v) (y:=.nd (.nd b a1) a2) h (by simp only [BT.n]; omega) (by omega) (by omega)
   rw [Rb (by omega) (by omega) hab]
   simp (disch:=first|omega|simp only[vl];omega) only [AA,eb,e3,e4]
   refine AE (ke2) rfl ?_
   simp (disch:=first|omega|simp only[vl];omega) only [AA,ea,ea2,eb2,eb]
   have ey:(40::40::(b.t++a1.t++[41]++a2.t++[41]))=(BT.nd (.nd b a1) a2).t:=by simp [BT.t]
   rw [ey]
   refine AE (k5) rfl ?_
   simp (disch:=first|omega|simp only[vl];omega) only [AA]
   rfl
def CV (f:BT→Int→Option BT) (x:BT) (k:Nat):List BT:=(List.range k).filterMap fun i:Nat=>f x i
theorem Gl {f:BT→Int→Option BT} {x:BT} {k:Nat}:CV f x (k+1)=CV f x k++(f x (k:Nat)).toList:=by
 simp only [CV,List.range_succ,List.filterMap_append]
 congr 1
theorem Fj {f:BT→Int→Option BT} {x:BT} {k:Nat}:(CV f x k).length≤k:=by
 have:=List.length_filterMap_le (fun i:Nat=>f x i) (List.range k)
 simpa [CV] using this
abbrev G8 (l:List BT):D:=LS (l.map BT.t)
theorem AAD [HA K] [CZ K] {x:BT} (h:x.n≤8):K 201 [.s x.t,.f 200 []] [G8 (CV BB x x.n)]:=by
 refine AG (f:=Lf) rfl ?_; simp only [Lf,zu]
 simp (disch:=first|omega|simp only[vl];omega) only [AA]
 refine CK (fun i (r:List (List Nat))=>r=(CV BB x i).map BT.t) (fun i r=>[.s x.t,.f 200 [],.u,LS r,.n i,.u,.u,.u,.u]) x.n [] rfl rfl (fun i r hi hP=>?_) (fun r hP=>?_)
 ·have hl:=Fj (f:=BB) (x:=x) (k:=i)
  have hr:r.length≤i:=by rw [hP,List.length_map]; exact hl
  simp (disch:=first|omega|simp only[vl];omega) only [AA]
  refine AE (G1 (K:=K) h) rfl ?_
  have k1:=CZ.rr (K:=K) x (i:Nat) h (by omega) (by omega)
  simp (disch:=first|omega|simp only[vl];omega) only [AA]
  refine AE (k1) rfl ?_
  cases hy:BB x (i:Nat) with
  | none=>
   simp only [Option.isSome_none,Option.elim_none]
   simp (disch:=first|omega|simp only[vl];omega) only [AA]
   refine ⟨_,?_,rfl⟩
   rw [hP,Gl,hy]
   simp
  | some y=>
   simp only [Option.isSome_some,Option.elim_some]
   have tn:=BT.tl y
   have hn:=Dx hy
   simp (disch:=first|omega|simp only[vl];omega) only [AA]
   refine ⟨_,?_,rfl⟩
   rw [hP,Gl,hy]
   simp
 ·simp (disch:=first|omega|simp only[vl];omega) only [AA]
  refine AE (G1 (K:=K) h) rfl ?_
  simp (disch:=first|omega|simp only[vl];omega) only [AA]
  rw [hP]
theorem AR2 [HA K] [Cm K 201 C7] [HA K] [CZ K] {x:BT} (h:x.n≤8):K 201 [.s x.t,.f 202 []] [G8 (CV Bk x x.n)]:=by
 refine ALK (f:=C7) rfl ?_; simp only [C7,zu]
 simp (disch:=first|omega|simp only[vl];omega) only [AA]
 refine CK (fun i (r:List (List Nat))=>r=(CV Bk x i).map BT.t) (fun i r=>[.s x.t,.f 202 [],.u,LS r,.n i,.u,.u,.u,.u]) x.n [] rfl rfl (fun i r hi hP=>?_) (fun r hP=>?_)
 ·have hl:=Fj (f:=Bk) (x:=x) (k:=i)
  have hr:r.length≤i:=by rw [hP,List.length_map]; exact hl
  simp (disch:=first|omega|simp only[vl];omega) only [AA]
  refine AE (G1 (K:=K) h) rfl ?_
  have k1:=CZ.rl (K:=K) x (i:Nat) h (by omega) (by omega)
  simp (disch:=first|omega|simp only[vl];omega) only [AA]
  refine AE (k1) rfl ?_
  cases hy:Bk x (i:Nat) with
  | none=>
   simp only [Option.isSome_none,Option.elim_none]
   simp (disch:=first|omega|simp only[vl];omega) only [AA]
   refine ⟨_,?_,rfl⟩
   rw [hP,Gl,hy]
   simp
  | some y=>
   simp only [Option.isSome_some,Option.elim_some]
   have tn:=BT.tl y
   have hn:=Hg hy
   simp (disch:=first|omega|simp only[vl];omega) only [AA]
   refine ⟨_,?_,rfl⟩
   rw [hP,Gl,hy]
   simp
 ·simp (disch:=first|omega|simp only[vl];omega) only [AA]
  refine AE (G1 (K:=K) h) rfl ?_
  simp (disch:=first|omega|simp only[vl];omega) only [AA]
  rw [hP]
end Go.Cat
