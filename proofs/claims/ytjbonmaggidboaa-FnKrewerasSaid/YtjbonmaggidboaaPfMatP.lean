/-
 The partners of a path's letters, as both sides find them.
-/
import Derived.Test.YtjbonmaggidboaaPfMat
import Derived.Test.YtjbonmaggidboaaPfAp
import Derived.Test.YtjbonmaggidboaaPfPerm
import Derived.Test.YtjbonmaggidboaaIrHas
set_option linter.unusedSimpArgs false
set_option linter.unusedVariables false
namespace Go.Cat
variable {K:Nat→List D→List D→Prop}
def cI (l:List Nat):List Int:=l.map fun (j:Nat)=>(j:Int)
theorem cI_cons {j:Nat} {l:List Nat}:(cI (j::l)).reverse=(cI l).reverse++[(j:Int)]:=by simp [cI]
theorem cI_len {l:List Nat}:((cI l).reverse).length=l.length:=by simp [cI]
theorem cI_l {l:List Nat}:(cI l).length=l.length:=by simp [cI]
theorem Hh_le {w:List Nat} {i:Nat}:Hh w i≤i:=by
 have:=cnt_le (w:=w.take i) (c:=117)
 simp only [Hh]
 simp only [List.length_take] at this
 omega
def PS (w:List Nat) (i:Nat) (out:List Int) (st:List Nat):Prop:=
 SO w st i∧out.length=w.length∧∀ a:Nat,a<i→a∉st→∃ b:Nat,atI out a=b∧(PR w a b∨PR w b a)
theorem PS_up {w:List Nat} {i:Nat} {out:List Int} {st:List Nat} (h:PS w i out st) (hi:i<w.length) (hu:atB w i=117):PS w (i+1) out (i::st):=by
 obtain ⟨h1,h2,h3⟩:=h
 refine ⟨SO_up h1 hi hu,h2,fun a ha hn=>?_⟩
 have e:a≠i:=fun e=>hn (by rw [e]; exact List.mem_cons_self ..)
 exact h3 a (by omega) fun q=>hn (qmc _ q)
theorem PS_dn {w:List Nat} {i j:Nat} {out:List Int} {st:List Nat} (h:PS w i out (j::st)) (hi:i<w.length) (hd:atB w i=100):PS w (i+1) (seI (seI out i j) j i) st:=by
 obtain ⟨h1,h2,h3⟩:=h
 obtain ⟨q1,q2⟩:=SO_dn h1 hi hd
 have hj:=q1.1
 refine ⟨q2,by rw [seI_len,seI_len,h2],fun a ha hn=>?_⟩
 rw [atI_set (by rw [seI_len]; omega),atI_set (by omega)]
 by_cases e1:j=a
 ·subst e1
  rw [if_pos rfl]
  exact ⟨i,rfl,.inl q1⟩
 ·rw [if_neg e1]
  by_cases e2:i=a
  ·subst e2
   rw [if_pos rfl]
   exact ⟨j,rfl,.inr q1⟩
  ·rw [if_neg e2]
   exact h3 a (by omega) fun q=>by
    rcases qmn.1 q with q | q
    ·exact e1 q.symm
    ·exact hn q
theorem part_i [HA K] {w:List Nat} (hw:dyck w=true):∃ rs,(∃ m,rs=[LI m]∧PP w m)∧K 373 [.s w] rs:=by
 have hd:=DY_of hw
 have hl:=hd.l
 refine body_ex (f:=ir_impl_partners) rfl ?_; simp only [ir_impl_partners,zn,zs,zq,zi,zg,zp]
 simp (disch:=first|omega|simp only[vl];omega) only [vcd]
 refine loop_up (fun i (x:List Int×List Nat)=>PS w i x.1 x.2) (fun i x=>[.s w,.u,LI x.1,LI (cI x.2).reverse,.n i,.u,.u,.u]) w.length (rep w.length 0,[]) ⟨by simp [SO,Hh_0],by simp [rep],by simp⟩ rfl (fun i x hi hP=>?_) (fun x hP=>?_)
 ·obtain ⟨out,st⟩:=x
  simp only at hP
  have hs:=SO_len hP.1
  have hlen:=cI_len (l:=st)
  have hlen2:=cI_l (l:=st)
  have hle:=Hh_le (w:=w) (i:=i)
  have hout:=hP.2.1
  rcases hd.ud i hi with hu | hu
  ·simp (disch:=first|omega|simp only[vl];omega) only [vcd,hu]
   exact ⟨(out,i::st),PS_up hP hi hu,by rw [cI_cons]⟩
  ·have e:=Hh_dn hi hu
   have e0:=hd.h0 (i+1) (by omega)
   cases st with
   | nil=>simp only [qln] at hs; omega
   | cons j t=>
    have hj:=hP.1.1
    have hl2:((cI t).reverse).length=t.length:=cI_len
    have e1:atI ((cI t).reverse++[(j:Int)]) t.length=j:=by rw [← hl2]; exact at_last
    have e2:sub ((cI t).reverse++[(j:Int)]) 0 t.length=(cI t).reverse:=by rw [← hl2]; exact sub_init
    have e3:((((cI t).reverse++[(j:Int)]).length:Nat):Int)=(t.length:Int)+1:=by simp [hl2]
    have hl3:=cI_l (l:=t)
    simp only [qlc] at hs
    simp only [cI_cons]
    simp (disch:=first|omega|simp only[vl];omega) only [vcd,hu,e3,e1,e2,qas]
    exact ⟨(seI (seI out i j) j i,t),PS_dn hP hi hu,rfl⟩
 ·obtain ⟨out,st⟩:=x
  simp only at hP
  simp (disch:=first|omega|simp only[vl];omega) only [vcd]
  refine ⟨_,rfl,hP.2.1,fun a ha=>?_⟩
  obtain ⟨h1,h2,h3⟩:=hP
  refine h3 a ha fun q=>?_
  have:=SO_len h1
  rw [hd.he] at this
  have:st=[]:=qez (by omega)
  subst this
  cases q
def inL (m:List Int):Prop:=∀ j:Nat,j<m.length→0≤atI m j∧atI m j<m.length
theorem inL_of {m:List Int} (h:matF m=true):inL m:=fun j hj=>by
 have:=inR_iff.1 ((matF_t h).2 j hj).1
 omega
theorem atS_mem {ws:List (List Nat)} {i:Nat} (h:i<ws.length):atS ws i∈ws:=by simp [atS,h]
end Go.Cat
