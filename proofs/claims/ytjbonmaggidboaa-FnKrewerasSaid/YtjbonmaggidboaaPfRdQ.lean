/-
 Partitions read back: IsNoncrossing, PathOfPartition and l32Partition of the reference, for any list and text.
-/
import Derived.Test.YtjbonmaggidboaaPfPart
import Derived.Test.YtjbonmaggidboaaPfFmt
import Derived.Test.YtjbonmaggidboaaIrHas
set_option linter.unusedSimpArgs false
set_option linter.unusedVariables false
namespace Go.Cat
variable {K:Nat→List D→List D→Prop}
def tlA (f:Int→List Int→Bool):List Int→Bool
 | []=>true
 | x::t=>f x t&&tlA f t
def ncQ (x y z:Int):List Int→Bool:=tlA fun u _=>!(decide (x=z)&&decide (y=u)&&!decide (x=y))
def ncC (x y:Int):List Int→Bool:=tlA fun z t=>ncQ x y z t
def ncB (x:Int):List Int→Bool:=tlA fun y t=>ncC x y t
def ncA:List Int→Bool:=tlA fun x t=>ncB x t
def ncF (p:List Int):Bool:=isPt p&&ncA p
theorem tlA_drop {f:Int→List Int→Bool} {p:List Int} {i:Nat} (h:i<p.length):tlA f (p.drop i)=(f (atI p i) (p.drop (i+1))&&tlA f (p.drop (i+1))):=by
 rw [List.drop_eq_getElem_cons h,tlA]
 simp [atI,h]
theorem tlA_end {f:Int→List Int→Bool} {p:List Int} {i:Nat} (h:p.length≤i):tlA f (p.drop i)=true:=by
 rw [List.drop_of_length_le h]; rfl
theorem nc_s [HA K] {p:List Int} (h:p.length≤1099511627776):K 483 [LI p] [.b (ncF p)]:=by
 have k1:=pt_s (K:=K) (p:=p) h
 refine body_by (f:=ir_spec_IsNoncrossing) rfl ?_; simp only [ir_spec_IsNoncrossing,zn,zs,zq,zi,zg,zp]
 simp (disch:=omega) only [vcd]
 by_cases hp:isPt p=true
 ·rw [hp] at k1
  have h8:p.length≤8:=by simp [isPt] at hp; exact hp.1
  have e0:ncF p=ncA p:=by simp [ncF,hp]
  rw [e0]
  refine loop_ix (fun i=>ncA p=ncA (p.drop i)) (fun i=>[LI p,.u,.n i,.u,.u,.u,.u,.u,.u,.u,.u]) p.length (by simp) rfl (fun a ha hA=>?_) (fun hA=>?_)
  ·have hA:ncA p=(ncB (atI p a) (p.drop (a+1))&&ncA (p.drop (a+1))):=hA.trans (tlA_drop ha)
   simp (disch:=omega) only [vcd]
   refine call_by (k1) rfl ?_
   simp (disch:=omega) only [vcd]
   refine loop_ix (fun j=>ncA p=(ncB (atI p a) (p.drop (a+1+j))&&ncA (p.drop (a+1)))) (fun j=>[LI p,.u,.n a,.n ((a:Int)+1+j),.u,.u,.u,.u,.u,.u,.u]) (p.length-(a+1)) (by simpa using hA) (by simp) (fun j hj hB=>?_) (fun hB=>?_)
   ·obtain ⟨b,hb⟩:∃ b,b=a+1+j:=⟨_,rfl⟩
    have eb:(a:Int)+1+j=(b:Int):=by omega
    have hbl:b<p.length:=by omega
    rw [← hb] at hB
    have hB:ncA p=((ncC (atI p a) (atI p b) (p.drop (b+1))&&ncB (atI p a) (p.drop (b+1)))&&ncA (p.drop (a+1))):=by
     rw [hB]; congr 1; exact tlA_drop hbl
    rw [eb]
    simp (disch:=omega) only [vcd]
    refine loop_ix (fun k=>ncA p=((ncC (atI p a) (atI p b) (p.drop (b+1+k))&&ncB (atI p a) (p.drop (b+1)))&&ncA (p.drop (a+1)))) (fun k=>[LI p,.u,.n a,.n b,.n ((b:Int)+1+k),.u,.u,.u,.u,.u,.u]) (p.length-(b+1)) (by simpa using hB) (by simp) (fun k hk hC=>?_) (fun hC=>?_)
    ·obtain ⟨c,hc⟩:∃ c,c=b+1+k:=⟨_,rfl⟩
     have ec:(b:Int)+1+k=(c:Int):=by omega
     have hcl:c<p.length:=by omega
     rw [← hc] at hC
     have hC:ncA p=(((ncQ (atI p a) (atI p b) (atI p c) (p.drop (c+1))&&ncC (atI p a) (atI p b) (p.drop (c+1)))&&ncB (atI p a) (p.drop (b+1)))&&ncA (p.drop (a+1))):=by
      rw [hC]; congr 2; exact tlA_drop hcl
     rw [ec]
     simp (disch:=omega) only [vcd]
     refine loop_ix (fun l=>ncA p=(((ncQ (atI p a) (atI p b) (atI p c) (p.drop (c+1+l))&&ncC (atI p a) (atI p b) (p.drop (c+1)))&&ncB (atI p a) (p.drop (b+1)))&&ncA (p.drop (a+1)))) (fun l=>[LI p,.u,.n a,.n b,.n c,.n ((c:Int)+1+l),.u,.u,.u,.u,.u]) (p.length-(c+1)) (by simpa using hC) (by simp) (fun l hl hD=>?_) (fun hD=>?_)
     ·obtain ⟨d,hd⟩:∃ d,d=c+1+l:=⟨_,rfl⟩
      have ed:(c:Int)+1+l=(d:Int):=by omega
      have hdl:d<p.length:=by omega
      have ed2:c+1+(l+1)=d+1:=by omega
      have ed3:(c:Int)+1+((l:Int)+1)=(d:Int)+1:=by omega
      rw [← hd] at hD
      have hD:ncA p=((((!(decide (atI p a=atI p c)&&decide (atI p b=atI p d)&&!decide (atI p a=atI p b)))&&ncQ (atI p a) (atI p b) (atI p c) (p.drop (d+1)))&&ncC (atI p a) (atI p b) (p.drop (c+1)))&&ncB (atI p a) (p.drop (b+1))&&ncA (p.drop (a+1))):=by
       rw [hD]; congr 3; exact tlA_drop hdl
      rw [ed,ed2]
      by_cases h1:atI p a=atI p c
      ·by_cases h2:atI p b=atI p d
       ·by_cases h3:atI p a=atI p b
        ·simp (disch:=omega) only [vcd]
         rw [ed3]
         refine ⟨?_,rfl⟩
         rw [hD]; simp [h3]
        ·simp (disch:=omega) only [vcd]
         rw [hD,decide_eq_true h1,decide_eq_true h2,decide_eq_false h3]; simp
       ·simp (disch:=omega) only [vcd]
        rw [ed3]
        refine ⟨?_,rfl⟩
        rw [hD]; simp [h2]
      ·simp (disch:=omega) only [vcd]
       rw [ed3]
       refine ⟨?_,rfl⟩
       rw [hD]; simp [h1]
     ·simp (disch:=omega) only [vcd]
      have e:=tlA_end (f:=fun u _=>!(decide (atI p a=atI p c)&&decide (atI p b=u)&&!decide (atI p a=atI p b))) (p:=p) (i:=c+1+(p.length-(c+1))) (by omega)
      have e:ncQ (atI p a) (atI p b) (atI p c) (p.drop (c+1+(p.length-(c+1))))=true:=e
      rw [e,Bool.true_and] at hD
      have ek:b+1+(k+1)=c+1:=by omega
      have ek3:(b:Int)+1+((k:Int)+1)=(c:Int)+1:=by omega
      rw [ek,ek3]
      exact ⟨hD,rfl⟩
    ·simp (disch:=omega) only [vcd]
     have e:ncC (atI p a) (atI p b) (p.drop (b+1+(p.length-(b+1))))=true:=tlA_end (by omega)
     rw [e,Bool.true_and] at hC
     have ek:a+1+(j+1)=b+1:=by omega
     have ek3:(a:Int)+1+((j:Int)+1)=(b:Int)+1:=by omega
     rw [ek,ek3]
     exact ⟨hC,rfl⟩
   ·simp (disch:=omega) only [vcd]
    have e:ncB (atI p a) (p.drop (a+1+(p.length-(a+1))))=true:=tlA_end (by omega)
    rw [e,Bool.true_and] at hB
    exact hB
  ·have e:ncA (p.drop p.length)=true:=tlA_end (by omega)
   rw [e] at hA
   simp (disch:=omega) only [vcd]
   refine call_by (k1) rfl ?_
   simp (disch:=omega) only [vcd]
   rw [hA]
 ·have hp:isPt p=false:=by simpa using hp
  rw [hp] at k1
  have e0:ncF p=false:=by simp [ncF,hp]
  rw [e0]
  refine loop_ix (fun _=>True) (fun _=>[LI p,.u,.n 0,.u,.u,.u,.u,.u,.u,.u,.u]) 0 trivial rfl (fun i hi _=>absurd hi (by omega)) (fun _=>?_)
  by_cases h0:p.length=0
  ·simp (disch:=omega) only [vcd]
   refine call_by (k1) rfl ?_
   simp (disch:=omega) only [vcd]
  ·simp (disch:=omega) only [vcd]
   refine call_by (k1) rfl ?_
   simp (disch:=omega) only [vcd]
   refine call_by (k1) rfl ?_
   simp (disch:=omega) only [vcd]
theorem isPt_V {p:List Int} (h:isPt p=true):ptV p p.length∧p.length≤8:=by simp [isPt] at h; exact ⟨h.2,h.1⟩
end Go.Cat
