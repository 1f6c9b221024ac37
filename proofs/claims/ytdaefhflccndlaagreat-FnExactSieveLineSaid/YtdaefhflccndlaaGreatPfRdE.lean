/-
 Texts of objects, read back: what the readers make of the text of a path is that path.
-/
import Derived.Test.YtdaefhflccndlaaGreatPfWrite
import Derived.Test.YtdaefhflccndlaaGreatPfRdD
import Derived.Test.YtdaefhflccndlaaGreatPfRdM
import Derived.Test.YtdaefhflccndlaaGreatPfRdP
import Derived.Test.YtdaefhflccndlaaGreatPfPI
import Derived.Test.YtdaefhflccndlaaGreatPfMach
import Derived.Test.YtdaefhflccndlaaGreatPfRankA
set_option linter.unusedSimpArgs false
set_option linter.unusedVariables false
namespace Go.Cat
set_option maxRecDepth 100000
theorem sep_snoc {b:Nat}:∀ {ws:List (List Nat)} {x:List Nat},sep b (ws++[x])=sep b ws++(if 0<ws.length then [b] else [])++x
 | [],x=>by simp [sep]
 | [p],x=>by simp [sep]
 | p::q::t,x=>by
  have:=sep_snoc (b:=b) (ws:=q::t) (x:=x)
  simp only [List.cons_append] at this
  simp only [List.cons_append,sep]
  rw [this]; simp
theorem glT_sep {b:Nat} {ws:List (List Nat)}:∀ i,i≤ws.length→glT [b] ws i=sep b (ws.take i)
 | 0,_=>by simp [glT,sep]
 | i+1,h=>by
  have hl:(ws.take i).length=i:=by simp; omega
  rw [glT,glT_sep i (by omega),take_snocS (by omega),sep_snoc,hl]
theorem glue_sep {b:Nat} {ws:List (List Nat)}:glue [b] ws=sep b ws:=by
 rw [glue,glT_sep _ (Nat.le_refl _),List.take_length]
theorem fmt_1 {x:Int} (h0:0≤x) (h9:x≤9):fmtI x=[48+x.toNat]:=by
 unfold fmtI
 split
 ·rename_i h; rw [h]; rfl
 ·rename_i h
  have e0:digs 0=[]:=by simp [digs]
  have e1:x.natAbs / 10=0:=by omega
  have e2:x.natAbs % 10=x.toNat:=by omega
  rw [if_neg (by omega),digs_s (by omega),e1,e0,e2]; rfl
def btP:Nat→List Nat→BT×List Nat
 | 0,w=>(.lf,w)
 | f+1,w=>if w.headD 0=117 then (BT.nd (btP f w.tail).1 (btP f (btP f w.tail).2.tail).1,(btP f (btP f w.tail).2.tail).2) else (.lf,w)
def btC (w:List Nat):BT:=(btP w.length w).1
def mtC (w:List Nat):Nat→List Int×List Nat
 | 0=>(rep (w.length:Nat) 0,[])
 | i+1=>if atB w i=117 then ((mtC w i).1,i::(mtC w i).2) else (seI (seI (mtC w i).1 i ((mtC w i).2.headD 0:Nat)) ((mtC w i).2.headD 0:Nat) i,(mtC w i).2.tail)
def mateC (w:List Nat):List Int:=(mtC w w.length).1
theorem mtC_PS {w:List Nat} (hd:DY w):∀ {i:Nat},i≤w.length→PS w i (mtC w i).1 (mtC w i).2
 | 0,_=>⟨by simp [mtC,SO,Hh_0],by simp [mtC,rep],by simp⟩
 | i+1,h=>by
  have ih:=mtC_PS hd (i:=i) (by omega)
  rcases hd.ud i (by omega) with hu | hu
  ·rw [mtC,if_pos hu]
   exact PS_up ih (by omega) hu
  ·rw [mtC,if_neg (by omega)]
   have hs:=SO_len ih.1
   have e:=Hh_dn (w:=w) (i:=i) (by omega) hu
   have e0:=hd.h0 (i+1) (by omega)
   cases hst:(mtC w i).2 with
   | nil=>rw [hst] at hs; simp only [qln] at hs; omega
   | cons j t=>
    rw [hst] at ih
    exact PS_dn ih (by omega) hu
theorem mateC_eq {w:List Nat} (hw:dyck w=true):mate w=mateC w:=by
 have hd:=DY_of hw
 have h:=mtC_PS hd (Nat.le_refl w.length)
 refine mate_eq ⟨h.2.1,fun a ha=>?_⟩
 obtain ⟨h1,h2,h3⟩:=h
 refine h3 a ha fun q=>?_
 have:=SO_len h1
 rw [hd.he] at this
 have e:(mtC w w.length).2=[]:=qez (by omega)
 rw [e] at q
 cases q
def ptnC (w:List Nat):List Int:=rnL (luG w (fun a=>(drF w (atI (mateC w) a).toNat:Int)) w.length) (uix w w.length)
theorem ptnC_eq {w:List Nat} (hw:dyck w=true):ptn w=ptnC w:=by rw [ptn,ptnC,mateC_eq hw]
end Go.Cat
