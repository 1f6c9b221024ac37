/-
 Texts of objects, read back: what the readers make of the text of a path is that path.
-/
import Derived.Test.YtdifmcppfcbgdaaGreatPfWrite
import Derived.Test.YtdifmcppfcbgdaaGreatPfRdD
import Derived.Test.YtdifmcppfcbgdaaGreatPfRdM
import Derived.Test.YtdifmcppfcbgdaaGreatPfRdP
import Derived.Test.YtdifmcppfcbgdaaGreatPfAp2
import Derived.Test.YtdifmcppfcbgdaaGreatPfMWalk
import Derived.Test.YtdifmcppfcbgdaaGreatPfRankU
set_option linter.unusedSimpArgs false
set_option linter.unusedVariables false
namespace Go.Cat
set_option maxRecDepth 100000
theorem sep_snoc {b:Nat}:∀ {ws:List (List Nat)} {x:List Nat},sep b (ws++[x])=sep b ws++(if 0<ws.length then [b] else [])++x
 | [],x=>by simp [sep]
 | [p],x=>by simp [sep]
 | p::q::t,x=>by
  have:=sep_snoc (b:=b) (ws:=q::t) (x:=x)
  simp only [List.cons_append] at this
  simp only [List.cons_append,sep]
  rw [this]; simp
theorem glT_sep {b:Nat} {ws:List (List Nat)}:∀ i,i≤ws.length→glT [b] ws i=sep b (ws.take i)
 | 0,_=>by simp [glT,sep]
 | i+1,h=>by
  have hl:(ws.take i).length=i:=by simp; omega
  rw [glT,glT_sep i (by omega),take_snocS (by omega),sep_snoc,hl]
theorem glue_sep {b:Nat} {ws:List (List Nat)}:glue [b] ws=sep b ws:=by
 rw [glue,glT_sep _ (Nat.le_refl _),List.take_length]
theorem sep_len {b k:Nat}:∀ {ps:List (List Nat)},(∀ p∈ps,p.length≤k)→(sep b ps).length≤ps.length*(k+1)
 | [],_=>by simp [sep]
 | [p],h=>by
  have:=h p (by simp)
  simp only [sep,qlc,qln]; omega
 | p::q::t,h=>by
  have h1:=h p (by simp)
  have h2:=sep_len (b:=b) (ps:=q::t) (fun x hx=>h x (qmc _ hx))
  simp only [sep,qla,qlc] at*
  rw [Nat.add_mul,Nat.one_mul]; omega
theorem cnt_no {p:List Nat} {c:Nat} (h:c∉p):cnt p c=0:=List.count_eq_zero.2 h
theorem cnt_sep {b c k:Nat} (hbc:b≠c):∀ {ps:List (List Nat)},(∀ p∈ps,cnt p c=k)→cnt (sep b ps) c=ps.length*k
 | [],_=>by simp [sep,cnt]
 | [p],h=>by
  have:=h p (by simp)
  simp only [sep,this,qlc,qln]; omega
 | p::q::t,h=>by
  have h1:=h p (by simp)
  have h2:=cnt_sep hbc (ps:=q::t) (fun x hx=>h x (qmc _ hx))
  rw [sep,cnt_app,cnt_cons,h1,h2,if_neg hbc,qlc (as:=q::t),Nat.add_mul]; omega
theorem cnt_sepb {b:Nat}:∀ {ps:List (List Nat)},(∀ p∈ps,b∉p)→cnt (sep b ps) b=ps.length-1
 | [],_=>by simp [sep,cnt]
 | [p],h=>by
  have:=cnt_no (h p (by simp))
  simp only [sep,this,qlc,qln]
 | p::q::t,h=>by
  have h1:=cnt_no (h p (by simp))
  have h2:=cnt_sepb (ps:=q::t) (fun x hx=>h x (qmc _ hx))
  rw [sep,cnt_app,cnt_cons,h1,h2,if_pos rfl]; simp only [qlc]; omega
theorem fmt_dg {x:Int}:∀ c∈fmtI x,isDg c=true∨(c=45∧x<0):=by
 intro c hc
 unfold fmtI at hc
 split at hc
 ·rw [List.mem_singleton.1 hc]; exact .inl rfl
 ·split at hc
  ·rename_i h
   rcases qmn.1 hc with q | q
   ·exact .inr ⟨q,h⟩
   ·exact .inl (digs_dg _ q)
  ·exact .inl (digs_dg _ hc)
theorem fmt_no {x:Int} {c:Nat} (h:isDg c=false) (h2:c≠45):c∉fmtI x:=by
 intro hc
 rcases fmt_dg c hc with q | q
 ·rw [h] at q; cases q
 ·exact h2 q.1
theorem fmt_no45 {x:Int} (h:0≤x):45∉fmtI x:=by
 intro hc
 rcases fmt_dg 45 hc with q | q
 ·cases q
 ·omega
theorem fmt_k {x:Int} {k:Nat} (h0:0≤x) (hk:0<k) (h:x.toNat<10 ^ k):(fmtI x).length≤k:=by
 unfold fmtI
 split
 ·exact hk
 ·rw [if_neg (by omega)]
  have e:x.natAbs=x.toNat:=by omega
  rw [e]
  exact digs_k h
theorem fmt_1 {x:Int} (h0:0≤x) (h9:x≤9):fmtI x=[48+x.toNat]:=by
 unfold fmtI
 split
 ·rename_i h; rw [h]; rfl
 ·rename_i h
  have e0:digs 0=[]:=by simp [digs]
  have e1:x.natAbs / 10=0:=by omega
  have e2:x.natAbs % 10=x.toNat:=by omega
  rw [if_neg (by omega),digs_s (by omega),e1,e0,e2]; rfl
theorem cut_two {b:Nat} {p q:List Nat} (hp:b∉p) (hq:b∉q):cutF b (p++[b]++q)=[p,q]:=by
 have h:=cut_sep (b:=b) (ps:=[p,q]) (by simp) (by
  intro x hx
  simp only [qmn,qnm,or_false] at hx
  rcases hx with rfl | rfl
  ·exact hp
  ·exact hq)
 simpa [sep] using h
theorem all_chunks {f:List Nat→Bool} {l:List (List Nat)} {k m:Nat} (hk:0<k) (hl:l.length≤k*m) (h:∀ j,j<m→((l.drop (k*j)).take k).all f=true):l.all f=true:=by
 refine qat.2 fun w hw=>?_
 obtain ⟨i,hi,rfl⟩:=List.mem_iff_getElem.1 hw
 have hj:i / k<m:=Nat.div_lt_of_lt_mul (by omega)
 refine qat.1 (h _ hj) _ (List.mem_iff_getElem.2 ⟨i % k,?_,?_⟩)
 ·have h1:=Nat.mod_lt i hk
  have h2:=Nat.div_add_mod i k
  rw [List.length_take,List.length_drop]; omega
 ·rw [List.getElem_take,List.getElem_drop]
  congr 1
  exact Nat.div_add_mod i k
theorem pathsR_l7:(pathsR 7).length≤143*3:=of_decide_eq_true (by kernel_rfl)
theorem pathsR_l8:(pathsR 8).length≤143*10:=of_decide_eq_true (by kernel_rfl)
theorem all_paths {f:List Nat→Bool} (h6:allB 7 (fun n=>(pathsR n).all f)=true) (h7:(pathsR 7).all f=true) (h8:(pathsR 8).all f=true) {w:List Nat} (hd:dyck w=true):f w=true:=by
 have hd2:=gw_dyck hd
 have hw:w∈pathsR (w.length / 2):=(paths_mem (by omega)).2 ⟨hd,by have:=hd2.1.2.1; omega⟩
 rcases qlg (w.length / 2) 7 with q | q
 ·exact qat.1 (allB_spec h6 _ q) w hw
 ·have e:w.length / 2=7∨w.length / 2=8:=by omega
  rcases e with e | e
  ·rw [e] at hw
   exact qat.1 h7 w hw
  ·rw [e] at hw
   exact qat.1 h8 w hw
def btP:Nat→List Nat→BT×List Nat
 | 0,w=>(.lf,w)
 | f+1,w=>if w.headD 0=117 then (BT.nd (btP f w.tail).1 (btP f (btP f w.tail).2.tail).1,(btP f (btP f w.tail).2.tail).2) else (.lf,w)
def btC (w:List Nat):BT:=(btP w.length w).1
def mtC (w:List Nat):Nat→List Int×List Nat
 | 0=>(rep (w.length:Nat) 0,[])
 | i+1=>if atB w i=117 then ((mtC w i).1,i::(mtC w i).2) else (seI (seI (mtC w i).1 i ((mtC w i).2.headD 0:Nat)) ((mtC w i).2.headD 0:Nat) i,(mtC w i).2.tail)
def mateC (w:List Nat):List Int:=(mtC w w.length).1
theorem mtC_PS {w:List Nat} (hd:DY w):∀ {i:Nat},i≤w.length→PS w i (mtC w i).1 (mtC w i).2
 | 0,_=>⟨by simp [mtC,SO,Hh_0],by simp [mtC,rep],by simp⟩
 | i+1,h=>by
  have ih:=mtC_PS hd (i:=i) (by omega)
  rcases hd.ud i (by omega) with hu | hu
  ·rw [mtC,if_pos hu]
   exact PS_up ih (by omega) hu
  ·rw [mtC,if_neg (by omega)]
   have hs:=SO_len ih.1
   have e:=Hh_dn (w:=w) (i:=i) (by omega) hu
   have e0:=hd.h0 (i+1) (by omega)
   cases hst:(mtC w i).2 with
   | nil=>rw [hst] at hs; simp only [qln] at hs; omega
   | cons j t=>
    rw [hst] at ih
    exact PS_dn ih (by omega) hu
theorem mateC_eq {w:List Nat} (hw:dyck w=true):mate w=mateC w:=by
 have hd:=DY_of hw
 have h:=mtC_PS hd (Nat.le_refl w.length)
 refine mate_eq ⟨h.2.1,fun a ha=>?_⟩
 obtain ⟨h1,h2,h3⟩:=h
 refine h3 a ha fun q=>?_
 have:=SO_len h1
 rw [hd.he] at this
 have e:(mtC w w.length).2=[]:=qez (by omega)
 rw [e] at q
 cases q
def ptnC (w:List Nat):List Int:=rnL (luG w (fun a=>(drF w (atI (mateC w) a).toNat:Int)) w.length) (uix w w.length)
theorem ptnC_eq {w:List Nat} (hw:dyck w=true):ptn w=ptnC w:=by rw [ptn,ptnC,mateC_eq hw]
end Go.Cat
