/-
 Words and their reflections.
-/
import Derived.Test.YtdifmcppfcbgdaaGreatPfPath
import Derived.Test.YtdifmcppfcbgdaaGreatIrHas
set_option linter.unusedSimpArgs false
set_option linter.unusedVariables false
namespace Go.Cat
variable {K:Nat→List D→List D→Prop}
def allud (w:List Nat):Bool:=w.all fun c=>decide (c=117∨c=100)
theorem allud_cons {c:Nat} {w:List Nat}:allud (c::w)=(decide (c=117∨c=100)&&allud w):=rfl
theorem steps_allud:∀ (w:List Nat),steps w=allud w
 | []=>rfl
 | c::w=>by
  have ih:=steps_allud w
  have hl:=cnt_le (w:=w) (c:=117)
  have:cnt w 117+cnt w 100≤w.length:=by
   clear ih hl
   induction w with
   | nil=>simp [cnt]
   | cons a w ih=>simp only [cnt_cons,qlc]; split <;> split <;> omega
  rw [allud_cons,← ih]
  simp only [steps,cnt_cons,qlc]
  by_cases h1:c=117
  ·subst h1; simp; omega
  ·by_cases h2:c=100
   ·subst h2; simp; omega
   ·simp [h1,h2]; omega
def exl (a c d x:Nat):Nat:=if x=a then c else d
def only (a b:Nat) (w:List Nat):Bool:=w.all fun x=>decide (x=a∨x=b)
theorem only_cons {a b c:Nat} {w:List Nat}:only a b (c::w)=(decide (c=a∨c=b)&&only a b w):=rfl
theorem exchanged_ok [HA K] {w:List Nat} {a b c d:Nat} (h:w.length≤1000000000) (hc:c<256) (hd:d<256):
  K 83 [.s w,.s [a,b],.s [c,d]] [.s (if only a b w=true then w.map (exl a c d) else []),.b (only a b w)]:=by
 refine body_by (f:=ir_impl_exchanged) rfl ?_; simp only [ir_impl_exchanged,zn,zs,zq,zi,zg,zp]
 have f0:atB [a,b] 0=a:=rfl
 have f1:atB [a,b] 1=b:=rfl
 have f2:atB [c,d] 0=c:=rfl
 have f3:atB [c,d] 1=d:=rfl
 simp (disch:=first|omega|simp only[vl];omega) only [vcd,LB_nil]
 refine loop_up (fun i (l:List Nat)=>l.length=i∧(∀ x∈l,x<256)∧l++(w.drop i).map (exl a c d)=w.map (exl a c d)∧only a b w=only a b (w.drop i)) (fun i l=>[.s w,.s [a,b],.s [c,d],.u,.u,LB l,.n i,.u,.u,.u,.u]) w.length [] ⟨rfl,by simp,by simp,by simp⟩ rfl (fun i l hi hP=>?_) (fun l hP=>?_)
 ·obtain ⟨h1,h2,h3,h4⟩:=hP
  rw [dropB hi] at h3 h4
  rw [only_cons] at h4
  rw [List.map_cons] at h3
  by_cases ha:atB w i=a
  ·have e:exl a c d (atB w i)=c:=by simp [exl,ha]
   simp (disch:=first|omega|simp only[vl];omega) only [vcd,f0,f2]
   refine ⟨l++[c],⟨by simp; omega,?_,?_,?_⟩,rfl⟩
   ·intro x hx
    rcases qma.1 hx with q | q
    ·exact h2 x q
    ·simp at q; omega
   ·rw [← h3,e]; simp
   ·rw [h4,ha]; simp
  ·by_cases hb:atB w i=b
   ·have e:exl a c d (atB w i)=d:=by simp [exl,ha]
    simp (disch:=first|omega|simp only[vl];omega) only [vcd,f0,f1,f3]
    refine ⟨l++[d],⟨by simp; omega,?_,?_,?_⟩,rfl⟩
    ·intro x hx
     rcases qma.1 hx with q | q
     ·exact h2 x q
     ·simp at q; omega
    ·rw [← h3,e]; simp
    ·rw [h4,hb]; simp
   ·simp (disch:=first|omega|simp only[vl];omega) only [vcd,f0,f1]
    have:only a b w=false:=by rw [h4]; simp [ha,hb]
    simp [this]
 ·obtain ⟨h1,h2,h3,h4⟩:=hP
  rw [List.drop_length] at h3 h4
  simp at h3
  have h5:only a b w=true:=by rw [h4]; rfl
  simp (disch:=first|omega|simp only[vl];omega) only [vcd,LB_bs h2]
  simp [h5,h3]
theorem only_allud {w:List Nat}:only 117 100 w=allud w:=rfl
end Go.Cat
