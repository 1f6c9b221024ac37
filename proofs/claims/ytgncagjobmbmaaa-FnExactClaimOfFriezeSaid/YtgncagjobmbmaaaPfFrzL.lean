/-
 Friezes of rows of numbers: ears cut off, and the rows.
-/
import Derived.Test.YtgncagjobmbmaaaPfFrzM
set_option linter.unusedSimpArgs false
set_option linter.unusedVariables false
namespace Go.Cat
def pvQ (n j:Nat):Nat:=(j+n-1) % n
def nxQ (n j:Nat):Nat:=(j+1) % n
def dcQ (q:List Int) (j:Nat):List Int:=seI (seI q (pvQ q.length j:Nat) (atI q (pvQ q.length j:Nat)-1)) (nxQ q.length j:Nat) (atI (seI q (pvQ q.length j:Nat) (atI q (pvQ q.length j:Nat)-1)) (nxQ q.length j:Nat)-1)
def rmQ {α:Type} (l:List α) (j:Nat):List α:=l.take j++l.drop (j+1)
def cutQ (q:List Int) (j:Nat):List Int:=rmQ (dcQ q j) j
theorem seI_lenQ {l:List Int} {i x:Int}:(seI l i x).length=l.length:=by simp [seI]
theorem dcQ_len {q:List Int} {j:Nat}:(dcQ q j).length=q.length:=by simp [dcQ,seI]
theorem rmQ_len {α:Type} {l:List α} {j:Nat} (h:j<l.length):(rmQ l j).length=l.length-1:=by simp [rmQ]; omega
theorem cutQ_len {q:List Int} {j:Nat} (h:j<q.length):(cutQ q j).length=q.length-1:=by rw [cutQ,rmQ_len (by rw [dcQ_len]; exact h),dcQ_len]
theorem atI_se {l:List Int} {i k:Nat} {x:Int} (h:i<l.length):atI (seI l (i:Int) x) (k:Int)=if k=i then x else atI l (k:Int):=by
 simp only [atI,seI,qtn,qgd,List.getElem?_set]
 by_cases q:i=k
 ·subst q; simp [h]
 ·simp [q,Ne.symm q]
theorem dcQ_at {q:List Int} {j k:Nat} (hq:3≤q.length) (hj:j<q.length):atI (dcQ q j) (k:Int)=atI q (k:Int)-(if k=pvQ q.length j then 1 else 0)-(if k=nxQ q.length j then 1 else 0):=by
 have a:pvQ q.length j<q.length:=Nat.mod_lt _ (by omega)
 have b:nxQ q.length j<q.length:=Nat.mod_lt _ (by omega)
 have c:pvQ q.length j≠nxQ q.length j:=by
  unfold pvQ nxQ
  generalize q.length=n at*
  rcases qlg (j+1) n with h | h
  ·rw [Nat.mod_eq_of_lt h]
   cases j with
   | zero=>rw [Nat.mod_eq_of_lt (by omega)]; omega
   | succ j=>rw [show j+1+n-1=j+n by omega,Nat.add_mod_right,Nat.mod_eq_of_lt (by omega)]; omega
  ·obtain rfl:n=j+1:=by omega
   rw [Nat.mod_self,show j+(j+1)-1=j-1+(j+1) by omega,Nat.add_mod_right,Nat.mod_eq_of_lt (by omega)]; omega
 rw [dcQ,atI_se (by rw [seI_lenQ]; exact b),atI_se a,atI_se a]
 split
 ·rename_i h; subst h
  rw [if_neg (Ne.symm c),if_neg (Ne.symm c)]; omega
 ·split
  ·rename_i h; subst h; omega
  ·omega
def f1Q (q:List Int):Nat:=q.findIdx (fun x=>x == 1)
def ctQ:Nat→List Int→Bool
 | 0,q=>q == [1,1,1]
 | f+1,q=>decide (f1Q q<q.length)&&ctQ f (cutQ q (f1Q q))
theorem f1Q_at {q:List Int} (h:f1Q q<q.length):atI q (f1Q q:Nat)=1:=by
 have:=List.findIdx_getElem (w:=h)
 simp only [beq_iff_eq] at this
 simp only [atI,qtn,qgd]
 rw [qge h]
 exact this
end Go.Cat
