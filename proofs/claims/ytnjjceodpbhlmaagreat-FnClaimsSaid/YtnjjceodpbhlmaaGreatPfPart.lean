/-
 Partitions of a path: blocks, numbers of blocks.
-/
import Derived.Test.YtnjjceodpbhlmaaGreatPfStat
import Derived.Test.YtnjjceodpbhlmaaGreatPfMatP
import Derived.Test.YtnjjceodpbhlmaaGreatPfClaim
import Derived.Test.YtnjjceodpbhlmaaGreatIrHas
import Derived.Test.YtnjjceodpbhlmaaGreatPfPath
set_option linter.unusedSimpArgs false
set_option linter.unusedVariables false
namespace Go.Cat
variable {K:Nat→List D→List D→Prop}
def nxF (p:List Int):Nat→Int
 | 0=>0
 | i+1=>max (nxF p i) (AD p i+1)
def ptV (p:List Int) (i:Nat):Prop:=∀ j:Nat,j<i→Ar 0 (nxF p j) (AD p j)=true
instance {p:List Int} {i:Nat}:Decidable (ptV p i):=by unfold ptV; infer_instance
end Go.Cat
namespace Go.Cat
variable {K:Nat→List D→List D→Prop}
def Cq (n:Int):List Nat:=if n=0 then [48] else if n<0 then 45::D1 n.natAbs else D1 n.natAbs
theorem Mx {n:Nat} (h:n≠0):D1 n=D1 (n / 10)++[48+n % 10]:=by
 cases n with
 | zero=>exact absurd rfl h
 | succ n=>rw [D1]
theorem Ot:∀ {k n:Nat},n<10 ^ k→(D1 n).length≤k
 | 0,n,h=>by
  obtain rfl:n=0:=by omega
  simp [D1]
 | k+1,n,h=>by
  by_cases h0:n=0
  ·subst h0; simp [D1]
  ·rw [Mx h0]
   have:=Ot (k:=k) (n:=n / 10) (by rw [Nat.pow_succ] at h; omega)
   simp only [Ad,A6,Aq]; omega
theorem UI {x:Int}:(x.tdiv 10).natAbs=x.natAbs / 10:=by rw [Int.natAbs_tdiv]; rfl
theorem Se {x:Int}:(x.tmod 10).natAbs=x.natAbs % 10:=by rw [Int.natAbs_tmod]; rfl
theorem AC9 {x:Int} (h:-9223372036854775808≤x∧x≤9223372036854775807):-9223372036854775808≤x.tdiv 10∧x.tdiv 10≤9223372036854775807:=by
 have:=UI (x:=x); omega
theorem Zl {x:Int}:-9≤x.tmod 10∧x.tmod 10≤9:=by
 have:=Se (x:=x); omega
theorem J3 [HA K] {n:Int} (h:-9223372036854775808≤n∧n≤9223372036854775807):K 138 [.n n] [.s (Cq n)]:=by
 refine AG (f:=K8) rfl ?_; simp only [K8,zu]
 by_cases h0:n=0
 ·subst h0
  simp (disch:=first|omega|simp only[vl];omega) only [AA]
  rfl
 ·have hk:=Ot (k:=19) (n:=n.natAbs) (by omega)
  simp (disch:=first|omega|simp only[vl];omega) only [AA]
  refine B9 (fun (x:Int×List Nat)=>D1 x.1.natAbs++x.2=D1 n.natAbs∧(-9223372036854775808≤x.1∧x.1≤9223372036854775807)) (fun x=>[.n x.1,.u,.s x.2,.b (decide (n<0)),.u,.u,.u,.u,.u]) (fun x=>x.1.natAbs) (n,[]) ⟨by simp,h⟩ rfl ?_
  rintro ⟨x,s⟩ ⟨h1,h2⟩
  simp only at h1 h2 ⊢
  have hsl:=congrArg List.length h1
  rw [Ad] at hsl
  have hb:=AC9 h2
  have hm:=Zl (x:=x)
  have e1:=UI (x:=x)
  have e2:=Se (x:=x)
  by_cases hx:x=0
  ·subst hx
   have h1:s=D1 n.natAbs:=by simpa [D1] using h1
   by_cases hn:n<0
   ·simp (disch:=first|omega|simp only[vl];omega) only [AA]
    simp only [Cq,if_neg h0,if_pos hn,h1,List.cons_append,List.nil_append]
   ·simp (disch:=first|omega|simp only[vl];omega) only [AA]
    simp only [Cq,if_neg h0,if_neg hn,h1]
  ·have hx2:x.natAbs≠0:=by omega
   rw [Mx hx2] at h1
   have e3:48+x.natAbs % 10<256:=by omega
   by_cases hq:x.tmod 10<0
   ·have e4:(48+(0-x.tmod 10)).toNat=48+x.natAbs % 10:=by omega
    simp (disch:=first|omega|simp only[vl];omega) only [AA,e4]
    exact ⟨(x.tdiv 10,(48+x.natAbs % 10)::s),by show (x.tdiv 10).natAbs<x.natAbs; omega,⟨by rw [e1,← h1]; simp,hb⟩,rfl⟩
   ·have e4:(48+x.tmod 10).toNat=48+x.natAbs % 10:=by omega
    simp (disch:=first|omega|simp only[vl];omega) only [AA,e4]
    exact ⟨(x.tdiv 10,(48+x.natAbs % 10)::s),by show (x.tdiv 10).natAbs<x.natAbs; omega,⟨by rw [e1,← h1]; simp,hb⟩,rfl⟩
def Ew (b:List Nat) (i:Int) (c:Nat):List Nat:=b.set i.toNat c
theorem Ko {b:List Nat} {i:Int} {c:Nat}:(Ew b i c).length=b.length:=by simp [Ew]
theorem AC1 {b:List Nat} {i j:Nat} {c:Nat} (hi:i<b.length):Ap (Ew b i c) j=if i=j then c else Ap b j:=by
 simp only [Ap,Ew,CB,BP,List.getElem?_set]
 by_cases q:i=j
 ·subst q; simp [hi]
 ·simp [q]
theorem extB {a b:List Nat} (hl:a.length=b.length) (h:∀ j:Nat,j<a.length→Ap a j=Ap b j):a=b:=by
 refine List.ext_getElem hl fun i h1 h2=>?_
 have:=h i h1
 simpa [Ap,h1,h2] using this
theorem ACV {b:List Nat} {i:Int} {c:Nat} (h:0≤i∧i<b.length):Aa [i.toNat] (LB b) (.y c)=some (LB (Ew b i c)):=JH D.y (by omega)
theorem ABS {is:List Nat} {d:D} {c:Nat}:GY (some is) d (.y c)=Aa is d (.y c):=rfl
def Jv (a o:List Nat) (i:Nat):Prop:=o.length=a.length∧∀ j:Nat,j<a.length→Ap o j=if j<i∨a.length≤j+i then Ap a (a.length-1-j:Nat) else Ap a j
theorem Xd {a:List Nat}:Jv a a 0:=⟨rfl,fun j hj=>by rw [if_neg (by omega)]⟩
theorem W0 {a o:List Nat} {i:Nat} (h:Jv a o i) (hc:2*i+1<a.length):Jv a (Ew (Ew o i (Ap o ((a.length-1-i:Nat):Int))) ((a.length-1-i:Nat):Int) (Ap o i)) (i+1):=by
 obtain ⟨h2,h3⟩:=h
 refine ⟨by rw [Ko,Ko,h2],fun j hj=>?_⟩
 rw [AC1 (by rw [Ko]; omega),AC1 (by omega)]
 have a1:=h3 i (by omega)
 have a2:=h3 (a.length-1-i) (by omega)
 rw [if_neg (by omega)] at a1 a2
 by_cases j1:a.length-1-i=j
 ·rw [if_pos j1,if_pos (by omega),a1]
  congr 2; omega
 ·rw [if_neg j1]
  by_cases j2:i=j
  ·rw [if_pos j2,if_pos (by omega),a2]
   congr 2; omega
  ·rw [if_neg j2,h3 j hj]
   by_cases j3:j<i∨a.length≤j+i
   ·rw [if_pos j3,if_pos (by omega)]
   ·rw [if_neg j3,if_neg (by omega)]
theorem U0 {a o:List Nat} {i:Nat} (h:Jv a o i) (hc:¬ 2*i+1<a.length):o=a.reverse:=by
 obtain ⟨h2,h3⟩:=h
 refine extB (by simp [h2]) fun j hj=>?_
 rw [h2] at hj
 rw [h3 j hj]
 have hr:Ap a.reverse j=Ap a (a.length-1-j:Nat):=by
  simp only [Ap,CB,BP,List.getElem?_reverse hj]
 rw [hr]
 split
 ·rfl
 ·congr 2; omega
theorem YD:∀ {n:Nat},∀ c∈D1 n,c<256:=by
 intro n
 induction n using Nat.strongRecOn with
 | _ n ih=>
  intro c hc
  by_cases h0:n=0
  ·subst h0; simp [D1] at hc
  ·rw [Mx h0] at hc
   rcases A8.1 hc with q | q
   ·exact ih (n / 10) (by omega) c q
   ·obtain rfl:=List.mem_singleton.1 q; omega
theorem U7 {n:Int}:∀ c∈Cq n,c<256:=by
 intro c hc
 unfold Cq at hc
 split at hc
 ·obtain rfl:=List.mem_singleton.1 hc; omega
 ·split at hc
  ·rcases A5.1 hc with rfl | q
   ·omega
   ·exact YD c q
  ·exact YD c hc
theorem F8 {n:Int} (h:-9223372036854775808≤n∧n≤9223372036854775807):(Cq n).length≤20:=by
 have hk:=Ot (k:=19) (n:=n.natAbs) (by omega)
 unfold Cq
 split
 ·simp
 ·split
  ·simp only [A6]; omega
  ·omega
theorem Rf {n:Int}:0<(Cq n).length:=by
 unfold Cq
 split
 ·simp
 ·rename_i h0
  split
  ·simp
  ·rw [Mx (by omega)]; simp
theorem Tm [HA K] {n:Int} (h:-9223372036854775808≤n∧n≤9223372036854775807):K 143 [.n n] [.s (Cq n)]:=by
 refine AG (f:=Kd) rfl ?_; simp only [Kd,zu]
 by_cases h0:n=0
 ·subst h0
  simp (disch:=first|omega|simp only[vl];omega) only [AA]
  rfl
 ·have hk:=Ot (k:=19) (n:=n.natAbs) (by omega)
  have hfl:=F8 h
  have hfp:=Rf (n:=n)
  simp (disch:=first|omega|simp only[vl];omega) only [AA]
  rw [show D.l []=LB [] from rfl]
  refine B9 (fun (x:Int×List Nat)=>D1 x.1.natAbs++x.2.reverse=D1 n.natAbs∧(-9223372036854775808≤x.1∧x.1≤9223372036854775807)) (fun x=>[.n n,.u,LB x.2,.n x.1,.u,.u,.u,.u,.u,.u,.u,.u]) (fun x=>x.1.natAbs) (n,[]) ⟨by simp,h⟩ rfl ?_
  rintro ⟨x,s⟩ ⟨h1,h2⟩
  simp only at h1 h2 ⊢
  have hsl:=congrArg List.length h1
  rw [Ad,List.length_reverse] at hsl
  have hb:=AC9 h2
  have hm:=Zl (x:=x)
  have e1:=UI (x:=x)
  have e2:=Se (x:=x)
  by_cases hx:x=0
  ·subst hx
   have h1:s.reverse=D1 n.natAbs:=by simpa [D1] using h1
   by_cases hn:n<0
   ·have hf:(s++[45]).reverse=Cq n:=by
     simp only [Cq,if_neg h0,if_pos hn,List.reverse_append,h1]; rfl
    have hal:=congrArg List.length hf
    rw [List.length_reverse] at hal
    simp (disch:=first|omega|simp only[vl];omega) only [AA]
    show wpS K (.loop _) _ [.u,.u,LB (s++[45]),.u,.u,.n 0,.n (((s++[45]).length:Int)-1),.u,.u,.u,.u,.u]
    refine B9 (fun (x:Nat×List Nat)=>2*x.1≤(s++[45]).length+1∧Jv (s++[45]) x.2 x.1) (fun x=>[.u,.u,LB x.2,.u,.u,.n x.1,.n (((s++[45]).length:Int)-1-x.1),.u,.u,.u,.u,.u]) (fun x=>(s++[45]).length-x.1) (0,s++[45]) ⟨by simp,Xd⟩ (by simp) ?_
    rintro ⟨i,o⟩ ⟨g1,g2⟩
    simp only at g1 g2
    have g3:=g2.1
    have hs1:(Ew o i (Ap o (((s++[45]).length:Int)-1-i))).length=o.length:=Ko
    by_cases hc:2*i+1<(s++[45]).length
    ·simp (disch:=first|omega|simp only[vl];omega) only [AA,ACV,ABS]
     have e:(((s++[45]).length-1-i:Nat):Int)=((s++[45]).length:Int)-1-i:=by omega
     rw [← e]
     refine ⟨(i+1,Ew (Ew o i (Ap o (((s++[45]).length-1-i:Nat):Int))) (((s++[45]).length-1-i:Nat):Int) (Ap o i)),by show (s++[45]).length-(i+1)<(s++[45]).length-i; omega,⟨by show 2*(i+1)≤(s++[45]).length+1; omega,W0 g2 hc⟩,?_⟩
     have:(((s++[45]).length-1-i:Nat):Int)-1=((s++[45]).length:Int)-1-((i+1:Nat):Int):=by omega
     rw [this]; rfl
    ·have:=U0 g2 hc
     rw [hf] at this
     subst this
     simp (disch:=first|omega|simp only[vl];omega) only [AA,QG (U7 (n:=n))]
   ·have hf:s.reverse=Cq n:=by
     simp only [Cq,if_neg h0,if_neg hn,h1]
    have hal:=congrArg List.length hf
    rw [List.length_reverse] at hal
    simp (disch:=first|omega|simp only[vl];omega) only [AA]
    show wpS K (.loop _) _ [.u,.u,LB s,.u,.u,.n 0,.n (((s).length:Int)-1),.u,.u,.u,.u,.u]
    refine B9 (fun (x:Nat×List Nat)=>2*x.1≤(s).length+1∧Jv (s) x.2 x.1) (fun x=>[.u,.u,LB x.2,.u,.u,.n x.1,.n (((s).length:Int)-1-x.1),.u,.u,.u,.u,.u]) (fun x=>(s).length-x.1) (0,s) ⟨by simp,Xd⟩ (by simp) ?_
    rintro ⟨i,o⟩ ⟨g1,g2⟩
    simp only at g1 g2
    have g3:=g2.1
    have hs1:(Ew o i (Ap o (((s).length:Int)-1-i))).length=o.length:=Ko
    by_cases hc:2*i+1<(s).length
    ·simp (disch:=first|omega|simp only[vl];omega) only [AA,ACV,ABS]
     have e:(((s).length-1-i:Nat):Int)=((s).length:Int)-1-i:=by omega
     rw [← e]
     refine ⟨(i+1,Ew (Ew o i (Ap o (((s).length-1-i:Nat):Int))) (((s).length-1-i:Nat):Int) (Ap o i)),by show (s).length-(i+1)<(s).length-i; omega,⟨by show 2*(i+1)≤(s).length+1; omega,W0 g2 hc⟩,?_⟩
     have:(((s).length-1-i:Nat):Int)-1=((s).length:Int)-1-((i+1:Nat):Int):=by omega
     rw [this]; rfl
    ·have:=U0 g2 hc
     rw [hf] at this
     subst this
     simp (disch:=first|omega|simp only[vl];omega) only [AA,QG (U7 (n:=n))]
  ·have hx2:x.natAbs≠0:=by omega
   rw [Mx hx2] at h1
   have e3:48+x.natAbs % 10<256:=by omega
   by_cases hq:x.tmod 10<0
   ·have e4:(48+(0-x.tmod 10)).toNat=48+x.natAbs % 10:=by omega
    simp (disch:=first|omega|simp only[vl];omega) only [AA,e4]
    exact ⟨(x.tdiv 10,s++[48+x.natAbs % 10]),by show (x.tdiv 10).natAbs<x.natAbs; omega,⟨by rw [e1,← h1]; simp,hb⟩,rfl⟩
   ·have e4:(48+x.tmod 10).toNat=48+x.natAbs % 10:=by omega
    simp (disch:=first|omega|simp only[vl];omega) only [AA,e4]
    exact ⟨(x.tdiv 10,s++[48+x.natAbs % 10]),by show (x.tdiv 10).natAbs<x.natAbs; omega,⟨by rw [e1,← h1]; simp,hb⟩,rfl⟩
end Go.Cat
