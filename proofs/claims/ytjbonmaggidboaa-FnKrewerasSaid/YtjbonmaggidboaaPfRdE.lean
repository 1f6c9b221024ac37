/-
 Texts of objects, read back: what the readers make of the text of a path is that path.
-/
import Derived.Test.YtjbonmaggidboaaPfTri
import Derived.Test.YtjbonmaggidboaaPfKrF
import Derived.Test.YtjbonmaggidboaaPfAp2
import Derived.Test.YtjbonmaggidboaaPfMach
import Derived.Test.YtjbonmaggidboaaPfCat
set_option linter.unusedSimpArgs false
set_option linter.unusedVariables false
namespace Go.Cat
set_option maxRecDepth 100000
def mtC (w:List Nat):Nat→List Int×List Nat
 | 0=>(rep (w.length:Nat) 0,[])
 | i+1=>if atB w i=117 then ((mtC w i).1,i::(mtC w i).2) else (seI (seI (mtC w i).1 i ((mtC w i).2.headD 0:Nat)) ((mtC w i).2.headD 0:Nat) i,(mtC w i).2.tail)
def mateC (w:List Nat):List Int:=(mtC w w.length).1
theorem mtC_PS {w:List Nat} (hd:DY w):∀ {i:Nat},i≤w.length→PS w i (mtC w i).1 (mtC w i).2
 | 0,_=>⟨by simp [mtC,SO,Hh_0],by simp [mtC,rep],by simp⟩
 | i+1,h=>by
  have ih:=mtC_PS hd (i:=i) (by omega)
  rcases hd.ud i (by omega) with hu | hu
  ·rw [mtC,if_pos hu]
   exact PS_up ih (by omega) hu
  ·rw [mtC,if_neg (by omega)]
   have hs:=SO_len ih.1
   have e:=Hh_dn (w:=w) (i:=i) (by omega) hu
   have e0:=hd.h0 (i+1) (by omega)
   cases hst:(mtC w i).2 with
   | nil=>rw [hst] at hs; simp only [qln] at hs; omega
   | cons j t=>
    rw [hst] at ih
    exact PS_dn ih (by omega) hu
theorem mateC_eq {w:List Nat} (hw:dyck w=true):mate w=mateC w:=by
 have hd:=DY_of hw
 have h:=mtC_PS hd (Nat.le_refl w.length)
 refine mate_eq ⟨h.2.1,fun a ha=>?_⟩
 obtain ⟨h1,h2,h3⟩:=h
 refine h3 a ha fun q=>?_
 have:=SO_len h1
 rw [hd.he] at this
 have e:(mtC w w.length).2=[]:=qez (by omega)
 rw [e] at q
 cases q
def ptnC (w:List Nat):List Int:=rnL (luG w (fun a=>(drF w (atI (mateC w) a).toNat:Int)) w.length) (uix w w.length)
theorem ptnC_eq {w:List Nat} (hw:dyck w=true):ptn w=ptnC w:=by rw [ptn,ptnC,mateC_eq hw]
end Go.Cat
