/-
 The path of a permutation, inversions, drawn permutations: the walks.
-/
import Derived.Test.YtdifmcppfcbgdaaGreatPfM231
import Derived.Test.YtdifmcppfcbgdaaGreatPfDraw
set_option linter.unusedSimpArgs false
set_option linter.unusedVariables false
namespace Go.Cat
variable {K:Nat→List D→List D→Prop}
set_option maxRecDepth 100000
def popN:List Int→Int→List Nat×List Int×Int
 | [],n=>([],[],n)
 | y::st,n=>if y=n then (100::(popN st (n+1)).1,(popN st (n+1)).2) else ([],y::st,n)
def pathT:List Int→List Int→Int→List Nat
 | [],_,_=>[]
 | x::p,st,n=>117::((popN (x::st) n).1++pathT p (popN (x::st) n).2.1 (popN (x::st) n).2.2)
def pathO (p:List Int):Bool:=permF p&&!(c231 p)
def pathRR (p:List Int):List Nat:=if pathO p=true then pathT p [] 0 else []
theorem LI_nilM:D.l []=LI []:=rfl
theorem path_s [HA K] {p:List Int} (h:p.length≤1000):K 156 [LI p] [.s (pathRR p),.b (pathO p)]:=by
 refine body_by (f:=ir_spec_PathOfPermutation) rfl ?_; simp only [ir_spec_PathOfPermutation,zn,zs,zq,zi,zg,zp]
 simp (disch:=first|omega|simp only[vl];omega) only [vcd]
 refine call_by (perm_s (K:=K) (p:=p) (by omega)) rfl ?_
 cases hp:permF p
 ·have e:pathO p=false:=by simp [pathO,hp]
  simp only [pathRR,e]
  simp (disch:=first|omega|simp only[vl];omega) only [vcd]
  rfl
 ·simp (disch:=first|omega|simp only[vl];omega) only [vcd]
  refine call_by (con231_s (K:=K) (p:=p) (by omega)) rfl ?_
  have e0:c231P p=c231 p:=by simp [c231P,hp]
  rw [e0]
  cases hc:c231 p
  ·have e:pathO p=true:=by simp [pathO,hp,hc]
   simp only [pathRR,e,if_true]
   simp (disch:=first|omega|simp only[vl];omega) only [vcd,LI_nilM]
   refine loop_up (fun i (x:List Nat×List Int×Int)=>x.1++pathT (p.drop i) x.2.1 x.2.2=pathT p [] 0∧x.1.length+x.2.1.length=2*i∧x.2.2+x.2.1.length=i) (fun i x=>[LI p,.u,.u,.s x.1,LI x.2.1.reverse,.n x.2.2,.n i,.u,.u,.u]) p.length ([],[],0) ⟨by simp,by simp,by simp⟩ rfl (fun i x hi hP=>?_) (fun x hP=>?_)
   ·obtain ⟨w,st,n⟩:=x
    obtain ⟨g1,g2,g3⟩:=hP
    simp only at g1 g2 g3
    rw [dropI hi] at g1
    simp only [pathT] at g1
    obtain ⟨R,hR⟩:∃ R,R=popN (atI p i::st) n:=⟨_,rfl⟩
    rw [← hR] at g1
    simp (disch:=first|omega|simp only[vl];omega) only [vcd]
    refine loop_wh (fun (x:List Nat×List Int×Int)=>x.1++(popN x.2.1 x.2.2).1=w++[117]++R.1∧(popN x.2.1 x.2.2).2=R.2∧x.1.length+x.2.1.length=2*i+2∧x.2.2+x.2.1.length=i+1) (fun x=>[LI p,.u,.u,.s x.1,LI x.2.1.reverse,.n x.2.2,.n i,.u,.u,.u]) (fun x=>x.2.1.length) (w++[117],atI p i::st,n) ⟨by rw [hR],by rw [hR],by simp; omega,by simp; omega⟩ (by simp) ?_
    rintro ⟨w1,s1,n1⟩ ⟨q1,q2,q3,q4⟩
    simp only at q1 q2 q3 q4 ⊢
    cases s1 with
    | nil=>
     simp only [popN,List.append_nil] at q1 q2
     simp only [List.reverse_nil]
     simp only [qln] at q3 q4
     simp (disch:=first|omega|simp only[vl];omega) only [vcd]
     refine ⟨(w1,[],n1),⟨?_,by simp; omega,by simp; omega⟩,rfl⟩
     show w1++pathT (p.drop (i+1)) [] n1=_
     rw [← g1,← q2,q1]; simp
    | cons y t=>
     have hl:t.reverse.length=t.length:=by simp
     have e1:atI (t.reverse++[y]) t.length=y:=by rw [← hl]; exact at_last
     have e2:sub (t.reverse++[y]) 0 t.length=t.reverse:=by rw [← hl]; exact sub_init
     have e3:(((t.reverse++[y]).length:Nat):Int)=(t.length:Int)+1:=by simp
     simp only [List.reverse_cons]
     simp only [qlc] at q3 q4
     by_cases hy:y=n1
     ·subst hy
      simp only [popN,if_true] at q1 q2
      simp (disch:=first|omega|simp only[vl];omega) only [vcd,e3,e1,e2,qas]
      refine ⟨(w1++[100],t,y+1),by simp,⟨by rw [← q1]; simp,q2,by simp; omega,by simp only; omega⟩,rfl⟩
     ·simp only [popN,if_neg hy,List.append_nil] at q1 q2
      simp (disch:=first|omega|simp only[vl];omega) only [vcd,e3,e1,e2,qas]
      refine ⟨(w1,y::t,n1),⟨?_,by simp; omega,by simp; omega⟩,by simp⟩
      show w1++pathT (p.drop (i+1)) (y::t) n1=_
      rw [← g1,← q2,q1]; simp
   ·obtain ⟨w,st,n⟩:=x
    obtain ⟨g1,g2,g3⟩:=hP
    rw [List.drop_length] at g1
    simp only [pathT,List.append_nil] at g1
    simp (disch:=first|omega|simp only[vl];omega) only [vcd,g1]
  ·have e:pathO p=false:=by simp [pathO,hp,hc]
   simp only [pathRR,e]
   simp (disch:=first|omega|simp only[vl];omega) only [vcd]
   rfl
end Go.Cat
namespace Go.Cat
variable {K:Nat→List D→List D→Prop}
set_option maxRecDepth 100000
end Go.Cat
