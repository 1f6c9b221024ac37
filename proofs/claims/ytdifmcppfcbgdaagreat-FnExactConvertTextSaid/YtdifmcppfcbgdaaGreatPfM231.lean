/-
 The pattern 231, there or not: both walks.
-/
import Derived.Test.YtdifmcppfcbgdaaGreatPfPLine
import Derived.Test.YtdifmcppfcbgdaaGreatPfPerm
import Derived.Test.YtdifmcppfcbgdaaGreatPfPath
import Derived.Test.YtdifmcppfcbgdaaGreatIrHas
set_option linter.unusedSimpArgs false
set_option linter.unusedVariables false
namespace Go.Cat
variable {K:Nat→List D→List D→Prop}
set_option maxRecDepth 100000
def anyL (x:Int) (l:List Int):Bool:=l.any fun z=>decide (z<x)
def d231 (x:Int):List Int→Bool
 | []=>false
 | y::l=>(decide (x<y)&&anyL x l) || d231 x l
def c231:List Int→Bool
 | []=>false
 | x::l=>d231 x l || c231 l
theorem anyL_cons {x y:Int} {l:List Int}:anyL x (y::l)=(decide (y<x) || anyL x l):=rfl
theorem d231_cons {x y:Int} {l:List Int}:d231 x (y::l)=((decide (x<y)&&anyL x l) || d231 x l):=rfl
theorem c231_cons {x:Int} {l:List Int}:c231 (x::l)=(d231 x l || c231 l):=rfl
def c231P (p:List Int):Bool:=permF p&&c231 p
theorem con231_s [HA K] {p:List Int} (h:p.length≤1000000):K 186 [LI p] [.b (c231P p)]:=by
 refine body_by (f:=ir_spec_Contains231) rfl ?_; simp only [ir_spec_Contains231,zn,zs,zq,zi,zg,zp]
 simp (disch:=omega) only [vcd]
 cases hp:permF p
 ·have e:c231P p=false:=by simp [c231P,hp]
  rw [e]
  refine loop_ix (fun i=>True) (fun i=>[LI p,.u,.n i,.u,.u,.u,.u,.u,.u]) 0 trivial rfl (fun i hi hP=>?_) (fun hP=>?_)
  ·omega
  ·by_cases h0:0<p.length
   ·simp (disch:=omega) only [vcd]
    refine call_by (perm_s (K:=K) (p:=p) (by omega)) rfl ?_
    simp (disch:=omega) only [vcd,hp]
   ·simp (disch:=omega) only [vcd]
 ·have e:c231P p=c231 p:=by simp [c231P,hp]
  rw [e]
  refine loop_ix (fun i=>c231 (p.drop i)=c231 p) (fun i=>[LI p,.u,.n i,.u,.u,.u,.u,.u,.u]) p.length (by simp) rfl (fun i hi hP=>?_) (fun hP=>?_)
  ·rw [dropI hi,c231_cons] at hP
   simp (disch:=omega) only [vcd]
   refine call_by (perm_s (K:=K) (p:=p) (by omega)) rfl ?_
   simp (disch:=omega) only [vcd,hp]
   refine loop_up (fun j (_:Unit)=>d231 (atI p i) (p.drop (i+1+j))=d231 (atI p i) (p.drop (i+1))) (fun j _=>[LI p,.u,.n i,.n ((i:Int)+1+j),.u,.u,.u,.u,.u]) (p.length-(i+1)) () (by simp) (by simp) (fun j _ hj hQ=>?_) (fun _ hQ=>?_)
   ·rw [dropI (show i+1+j<p.length by omega),d231_cons] at hQ
    rw [show ((i+1+j:Nat):Int)=(i:Int)+1+j by omega] at hQ
    simp (disch:=omega) only [vcd]
    refine loop_up (fun k (_:Unit)=>anyL (atI p i) (p.drop (i+1+j+1+k))=anyL (atI p i) (p.drop (i+1+j+1))∨¬ atI p i<atI p ((i:Int)+1+j)) (fun k _=>[LI p,.u,.n i,.n ((i:Int)+1+j),.n ((i:Int)+1+j+1+k),.u,.u,.u,.u]) (p.length-(i+1+j+1)) () (.inl (by simp)) (by simp) (fun k _ hk hR=>?_) (fun _ hR=>?_)
    ·rw [dropI (show i+1+j+1+k<p.length by omega),anyL_cons] at hR
     rw [show ((i+1+j+1+k:Nat):Int)=(i:Int)+1+j+1+k by omega] at hR
     by_cases h1:atI p ((i:Int)+1+j+1+k)<atI p i
     ·have e1:decide (atI p ((i:Int)+1+j+1+k)<atI p i)=true:=decide_eq_true h1
      by_cases h2:atI p i<atI p ((i:Int)+1+j)
      ·have e2:decide (atI p i<atI p ((i:Int)+1+j))=true:=decide_eq_true h2
       rw [e1] at hR
       have hR:=hR.resolve_right (fun q=>q h2)
       rw [e2,← hR] at hQ
       rw [← hQ] at hP
       simp only [Bool.true_or,Bool.true_and] at hP
       simp (disch:=omega) only [vcd]
       rw [← hP]
      ·simp (disch:=omega) only [vcd]
       exact ⟨(),.inr h2,by simp; omega⟩
     ·have e1:decide (atI p ((i:Int)+1+j+1+k)<atI p i)=false:=decide_eq_false h1
      rw [e1] at hR
      simp (disch:=omega) only [vcd]
      refine ⟨(),?_,by simp; omega⟩
      rcases hR with hR | hR
      ·left
       rw [show i+1+j+1+(k+1)=i+1+j+1+k+1 by omega]
       simpa using hR
      ·exact .inr hR
    ·simp (disch:=omega) only [vcd]
     refine ⟨(),?_,by simp; omega⟩
     have hz:p.drop (i+1+j+1+(p.length-(i+1+j+1)))=[]:=by simp; omega
     rw [hz] at hR
     rw [show i+1+(j+1)=i+1+j+1 by omega]
     rcases hR with hR | hR
     ·rw [← hR] at hQ
      simpa [anyL] using hQ
     ·have e2:decide (atI p i<atI p ((i:Int)+1+j))=false:=decide_eq_false hR
      rw [e2] at hQ
      simpa using hQ
   ·simp (disch:=omega) only [vcd]
    have hz:p.drop (i+1+(p.length-(i+1)))=[]:=by simp; omega
    rw [hz] at hQ
    rw [← hQ] at hP
    simpa [d231] using hP
  ·rw [List.drop_length] at hP
   simp (disch:=omega) only [vcd]
   rw [← hP]; rfl
end Go.Cat
namespace Go.Cat
variable {K:Nat→List D→List D→Prop}
end Go.Cat
