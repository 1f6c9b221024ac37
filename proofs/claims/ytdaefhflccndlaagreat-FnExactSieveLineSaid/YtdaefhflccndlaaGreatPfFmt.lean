/-
 Numbers as texts, and texts glued together.
-/
import Derived.Test.YtdaefhflccndlaaGreatPfH
import Derived.Test.YtdaefhflccndlaaGreatPfIn
import Derived.Test.YtdaefhflccndlaaGreatIrHas
set_option linter.unusedSimpArgs false
set_option linter.unusedVariables false
namespace Go.Cat
variable {K:Nat→List D→List D→Prop}
def fmtI (n:Int):List Nat:=if n=0 then [48] else if n<0 then 45::digs n.natAbs else digs n.natAbs
theorem digs_s {n:Nat} (h:n≠0):digs n=digs (n / 10)++[48+n % 10]:=by
 cases n with
 | zero=>exact absurd rfl h
 | succ n=>rw [digs]
theorem digs_k:∀ {k n:Nat},n<10 ^ k→(digs n).length≤k
 | 0,n,h=>by
  obtain rfl:n=0:=by omega
  simp [digs]
 | k+1,n,h=>by
  by_cases h0:n=0
  ·subst h0; simp [digs]
  ·rw [digs_s h0]
   have:=digs_k (k:=k) (n:=n / 10) (by rw [Nat.pow_succ] at h; omega)
   simp only [qla,qlc,qln]; omega
theorem tdiv_na {x:Int}:(x.tdiv 10).natAbs=x.natAbs / 10:=by rw [Int.natAbs_tdiv]; rfl
theorem tmod_na {x:Int}:(x.tmod 10).natAbs=x.natAbs % 10:=by rw [Int.natAbs_tmod]; rfl
theorem tdiv_b {x:Int} (h:-9223372036854775808≤x∧x≤9223372036854775807):-9223372036854775808≤x.tdiv 10∧x.tdiv 10≤9223372036854775807:=by
 have:=tdiv_na (x:=x); omega
theorem tmod_b {x:Int}:-9≤x.tmod 10∧x.tmod 10≤9:=by
 have:=tmod_na (x:=x); omega
theorem fmt_s [HA K] {n:Int} (h:-9223372036854775808≤n∧n≤9223372036854775807):K 138 [.n n] [.s (fmtI n)]:=by
 refine body_by (f:=ir_spec_FormatInt) rfl ?_; simp only [ir_spec_FormatInt,zn,zs,zq,zi,zg,zp]
 by_cases h0:n=0
 ·subst h0
  simp (disch:=first|omega|simp only[vl];omega) only [vcd]
  rfl
 ·have hk:=digs_k (k:=19) (n:=n.natAbs) (by omega)
  simp (disch:=first|omega|simp only[vl];omega) only [vcd]
  refine loop_wh (fun (x:Int×List Nat)=>digs x.1.natAbs++x.2=digs n.natAbs∧(-9223372036854775808≤x.1∧x.1≤9223372036854775807)) (fun x=>[.n x.1,.u,.s x.2,.b (decide (n<0)),.u,.u,.u,.u,.u]) (fun x=>x.1.natAbs) (n,[]) ⟨by simp,h⟩ rfl ?_
  rintro ⟨x,s⟩ ⟨h1,h2⟩
  simp only at h1 h2 ⊢
  have hsl:=congrArg List.length h1
  rw [qla] at hsl
  have hb:=tdiv_b h2
  have hm:=tmod_b (x:=x)
  have e1:=tdiv_na (x:=x)
  have e2:=tmod_na (x:=x)
  by_cases hx:x=0
  ·subst hx
   have h1:s=digs n.natAbs:=by simpa [digs] using h1
   by_cases hn:n<0
   ·simp (disch:=first|omega|simp only[vl];omega) only [vcd]
    simp only [fmtI,if_neg h0,if_pos hn,h1,List.cons_append,List.nil_append]
   ·simp (disch:=first|omega|simp only[vl];omega) only [vcd]
    simp only [fmtI,if_neg h0,if_neg hn,h1]
  ·have hx2:x.natAbs≠0:=by omega
   rw [digs_s hx2] at h1
   have e3:48+x.natAbs % 10<256:=by omega
   by_cases hq:x.tmod 10<0
   ·have e4:(48+(0-x.tmod 10)).toNat=48+x.natAbs % 10:=by omega
    simp (disch:=first|omega|simp only[vl];omega) only [vcd,e4]
    exact ⟨(x.tdiv 10,(48+x.natAbs % 10)::s),by show (x.tdiv 10).natAbs<x.natAbs; omega,⟨by rw [e1,← h1]; simp,hb⟩,rfl⟩
   ·have e4:(48+x.tmod 10).toNat=48+x.natAbs % 10:=by omega
    simp (disch:=first|omega|simp only[vl];omega) only [vcd,e4]
    exact ⟨(x.tdiv 10,(48+x.natAbs % 10)::s),by show (x.tdiv 10).natAbs<x.natAbs; omega,⟨by rw [e1,← h1]; simp,hb⟩,rfl⟩
def seB (b:List Nat) (i:Int) (c:Nat):List Nat:=b.set i.toNat c
theorem seB_len {b:List Nat} {i:Int} {c:Nat}:(seB b i c).length=b.length:=by simp [seB]
theorem atB_set {b:List Nat} {i j:Nat} {c:Nat} (hi:i<b.length):atB (seB b i c) j=if i=j then c else atB b j:=by
 simp only [atB,seB,qtn,qgd,List.getElem?_set]
 by_cases q:i=j
 ·subst q; simp [hi]
 ·simp [q]
theorem extB {a b:List Nat} (hl:a.length=b.length) (h:∀ j:Nat,j<a.length→atB a j=atB b j):a=b:=by
 refine List.ext_getElem hl fun i h1 h2=>?_
 have:=h i h1
 simpa [atB,h1,h2] using this
theorem LB_set {b:List Nat} {i:Int} {c:Nat} (h:0≤i∧i<b.length):setP [i.toNat] (LB b) (.y c)=some (LB (seB b i c)):=set_map D.y (by omega)
theorem up_y {is:List Nat} {d:D} {c:Nat}:upD (some is) d (.y c)=setP is d (.y c):=rfl
def revI (a o:List Nat) (i:Nat):Prop:=o.length=a.length∧∀ j:Nat,j<a.length→atB o j=if j<i∨a.length≤j+i then atB a (a.length-1-j:Nat) else atB a j
theorem revI_0 {a:List Nat}:revI a a 0:=⟨rfl,fun j hj=>by rw [if_neg (by omega)]⟩
theorem revI_s {a o:List Nat} {i:Nat} (h:revI a o i) (hc:2*i+1<a.length):revI a (seB (seB o i (atB o ((a.length-1-i:Nat):Int))) ((a.length-1-i:Nat):Int) (atB o i)) (i+1):=by
 obtain ⟨h2,h3⟩:=h
 refine ⟨by rw [seB_len,seB_len,h2],fun j hj=>?_⟩
 rw [atB_set (by rw [seB_len]; omega),atB_set (by omega)]
 have a1:=h3 i (by omega)
 have a2:=h3 (a.length-1-i) (by omega)
 rw [if_neg (by omega)] at a1 a2
 by_cases j1:a.length-1-i=j
 ·rw [if_pos j1,if_pos (by omega),a1]
  congr 2; omega
 ·rw [if_neg j1]
  by_cases j2:i=j
  ·rw [if_pos j2,if_pos (by omega),a2]
   congr 2; omega
  ·rw [if_neg j2,h3 j hj]
   by_cases j3:j<i∨a.length≤j+i
   ·rw [if_pos j3,if_pos (by omega)]
   ·rw [if_neg j3,if_neg (by omega)]
theorem revI_e {a o:List Nat} {i:Nat} (h:revI a o i) (hc:¬ 2*i+1<a.length):o=a.reverse:=by
 obtain ⟨h2,h3⟩:=h
 refine extB (by simp [h2]) fun j hj=>?_
 rw [h2] at hj
 rw [h3 j hj]
 have hr:atB a.reverse j=atB a (a.length-1-j:Nat):=by
  simp only [atB,qtn,qgd,List.getElem?_reverse hj]
 rw [hr]
 split
 ·rfl
 ·congr 2; omega
theorem digs_lt:∀ {n:Nat},∀ c∈digs n,c<256:=by
 intro n
 induction n using Nat.strongRecOn with
 | _ n ih=>
  intro c hc
  by_cases h0:n=0
  ·subst h0; simp [digs] at hc
  ·rw [digs_s h0] at hc
   rcases qma.1 hc with q | q
   ·exact ih (n / 10) (by omega) c q
   ·obtain rfl:=List.mem_singleton.1 q; omega
theorem fmt_lt {n:Int}:∀ c∈fmtI n,c<256:=by
 intro c hc
 unfold fmtI at hc
 split at hc
 ·obtain rfl:=List.mem_singleton.1 hc; omega
 ·split at hc
  ·rcases qmn.1 hc with rfl | q
   ·omega
   ·exact digs_lt c q
  ·exact digs_lt c hc
theorem fmt_len {n:Int} (h:-9223372036854775808≤n∧n≤9223372036854775807):(fmtI n).length≤20:=by
 have hk:=digs_k (k:=19) (n:=n.natAbs) (by omega)
 unfold fmtI
 split
 ·simp
 ·split
  ·simp only [qlc]; omega
  ·omega
theorem fmt_pos {n:Int}:0<(fmtI n).length:=by
 unfold fmtI
 split
 ·simp
 ·rename_i h0
  split
  ·simp
  ·rw [digs_s (by omega)]; simp
theorem fmt_i [HA K] {n:Int} (h:-9223372036854775808≤n∧n≤9223372036854775807):K 143 [.n n] [.s (fmtI n)]:=by
 refine body_by (f:=ir_impl_FormatInt) rfl ?_; simp only [ir_impl_FormatInt,zn,zs,zq,zi,zg,zp]
 by_cases h0:n=0
 ·subst h0
  simp (disch:=first|omega|simp only[vl];omega) only [vcd]
  rfl
 ·have hk:=digs_k (k:=19) (n:=n.natAbs) (by omega)
  have hfl:=fmt_len h
  have hfp:=fmt_pos (n:=n)
  simp (disch:=first|omega|simp only[vl];omega) only [vcd]
  rw [show D.l []=LB [] from rfl]
  refine loop_wh (fun (x:Int×List Nat)=>digs x.1.natAbs++x.2.reverse=digs n.natAbs∧(-9223372036854775808≤x.1∧x.1≤9223372036854775807)) (fun x=>[.n n,.u,LB x.2,.n x.1,.u,.u,.u,.u,.u,.u,.u,.u]) (fun x=>x.1.natAbs) (n,[]) ⟨by simp,h⟩ rfl ?_
  rintro ⟨x,s⟩ ⟨h1,h2⟩
  simp only at h1 h2 ⊢
  have hsl:=congrArg List.length h1
  rw [qla,List.length_reverse] at hsl
  have hb:=tdiv_b h2
  have hm:=tmod_b (x:=x)
  have e1:=tdiv_na (x:=x)
  have e2:=tmod_na (x:=x)
  by_cases hx:x=0
  ·subst hx
   have h1:s.reverse=digs n.natAbs:=by simpa [digs] using h1
   by_cases hn:n<0
   ·have hf:(s++[45]).reverse=fmtI n:=by
     simp only [fmtI,if_neg h0,if_pos hn,List.reverse_append,h1]; rfl
    have hal:=congrArg List.length hf
    rw [List.length_reverse] at hal
    simp (disch:=first|omega|simp only[vl];omega) only [vcd]
    show wpS K (.loop _) _ [.u,.u,LB (s++[45]),.u,.u,.n 0,.n (((s++[45]).length:Int)-1),.u,.u,.u,.u,.u]
    refine loop_wh (fun (x:Nat×List Nat)=>2*x.1≤(s++[45]).length+1∧revI (s++[45]) x.2 x.1) (fun x=>[.u,.u,LB x.2,.u,.u,.n x.1,.n (((s++[45]).length:Int)-1-x.1),.u,.u,.u,.u,.u]) (fun x=>(s++[45]).length-x.1) (0,s++[45]) ⟨by simp,revI_0⟩ (by simp) ?_
    rintro ⟨i,o⟩ ⟨g1,g2⟩
    simp only at g1 g2
    have g3:=g2.1
    have hs1:(seB o i (atB o (((s++[45]).length:Int)-1-i))).length=o.length:=seB_len
    by_cases hc:2*i+1<(s++[45]).length
    ·simp (disch:=first|omega|simp only[vl];omega) only [vcd,LB_set,up_y]
     have e:(((s++[45]).length-1-i:Nat):Int)=((s++[45]).length:Int)-1-i:=by omega
     rw [← e]
     refine ⟨(i+1,seB (seB o i (atB o (((s++[45]).length-1-i:Nat):Int))) (((s++[45]).length-1-i:Nat):Int) (atB o i)),by show (s++[45]).length-(i+1)<(s++[45]).length-i; omega,⟨by show 2*(i+1)≤(s++[45]).length+1; omega,revI_s g2 hc⟩,?_⟩
     have:(((s++[45]).length-1-i:Nat):Int)-1=((s++[45]).length:Int)-1-((i+1:Nat):Int):=by omega
     rw [this]; rfl
    ·have:=revI_e g2 hc
     rw [hf] at this
     subst this
     simp (disch:=first|omega|simp only[vl];omega) only [vcd,LB_bs (fmt_lt (n:=n))]
   ·have hf:s.reverse=fmtI n:=by
     simp only [fmtI,if_neg h0,if_neg hn,h1]
    have hal:=congrArg List.length hf
    rw [List.length_reverse] at hal
    simp (disch:=first|omega|simp only[vl];omega) only [vcd]
    show wpS K (.loop _) _ [.u,.u,LB s,.u,.u,.n 0,.n (((s).length:Int)-1),.u,.u,.u,.u,.u]
    refine loop_wh (fun (x:Nat×List Nat)=>2*x.1≤(s).length+1∧revI (s) x.2 x.1) (fun x=>[.u,.u,LB x.2,.u,.u,.n x.1,.n (((s).length:Int)-1-x.1),.u,.u,.u,.u,.u]) (fun x=>(s).length-x.1) (0,s) ⟨by simp,revI_0⟩ (by simp) ?_
    rintro ⟨i,o⟩ ⟨g1,g2⟩
    simp only at g1 g2
    have g3:=g2.1
    have hs1:(seB o i (atB o (((s).length:Int)-1-i))).length=o.length:=seB_len
    by_cases hc:2*i+1<(s).length
    ·simp (disch:=first|omega|simp only[vl];omega) only [vcd,LB_set,up_y]
     have e:(((s).length-1-i:Nat):Int)=((s).length:Int)-1-i:=by omega
     rw [← e]
     refine ⟨(i+1,seB (seB o i (atB o (((s).length-1-i:Nat):Int))) (((s).length-1-i:Nat):Int) (atB o i)),by show (s).length-(i+1)<(s).length-i; omega,⟨by show 2*(i+1)≤(s).length+1; omega,revI_s g2 hc⟩,?_⟩
     have:(((s).length-1-i:Nat):Int)-1=((s).length:Int)-1-((i+1:Nat):Int):=by omega
     rw [this]; rfl
    ·have:=revI_e g2 hc
     rw [hf] at this
     subst this
     simp (disch:=first|omega|simp only[vl];omega) only [vcd,LB_bs (fmt_lt (n:=n))]
  ·have hx2:x.natAbs≠0:=by omega
   rw [digs_s hx2] at h1
   have e3:48+x.natAbs % 10<256:=by omega
   by_cases hq:x.tmod 10<0
   ·have e4:(48+(0-x.tmod 10)).toNat=48+x.natAbs % 10:=by omega
    simp (disch:=first|omega|simp only[vl];omega) only [vcd,e4]
    exact ⟨(x.tdiv 10,s++[48+x.natAbs % 10]),by show (x.tdiv 10).natAbs<x.natAbs; omega,⟨by rw [e1,← h1]; simp,hb⟩,rfl⟩
   ·have e4:(48+x.tmod 10).toNat=48+x.natAbs % 10:=by omega
    simp (disch:=first|omega|simp only[vl];omega) only [vcd,e4]
    exact ⟨(x.tdiv 10,s++[48+x.natAbs % 10]),by show (x.tdiv 10).natAbs<x.natAbs; omega,⟨by rw [e1,← h1]; simp,hb⟩,rfl⟩
end Go.Cat
