/-
 PathLine answers as the reference does.
-/
import Derived.Test.YtjbonmaggidboaaPfStatB
import Derived.Test.YtjbonmaggidboaaPfPart
import Derived.Test.YtjbonmaggidboaaPfTxt
import Derived.Test.YtjbonmaggidboaaPfRankP
import Derived.Test.YtjbonmaggidboaaIrHas
set_option linter.unusedSimpArgs false
set_option linter.unusedVariables false
namespace Go.Cat
variable {K:Nat→List D→List D→Prop}
open Classical in
noncomputable def mate (w:List Nat):List Int:=if h:∃ m,PP w m then h.choose else []
theorem mate_eq {w:List Nat} {m:List Int} (h:PP w m):mate w=m:=by
 have h2:∃ m,PP w m:=⟨m,h⟩
 simp only [mate,dif_pos h2]
 exact PP_one h2.choose_spec h
theorem mate_PP {w:List Nat} (hd:dyck w=true):PP w (mate w):=by
 have:Has (fun _ _ _=>True) 373 ir_impl_partners:=⟨fun _ _ _=>trivial⟩
 obtain ⟨_,⟨m,_,hm⟩,_⟩:=part_i (K:=fun _ _ _=>True) hd
 rw [mate_eq hm]; exact hm
noncomputable def ptn (w:List Nat):List Int:=rnL (luG w (fun a=>(drF w (atI (mate w) a).toNat:Int)) w.length) (uix w w.length)
theorem ptn_s [HA K] {w:List Nat} (hd:dyck w=true):K 301 [.s w] [LI (ptn w),.b true]:=part_p_s (K:=K) hd (mate_PP hd)
theorem ptn_ok [HA K] {w:List Nat} (hd:dyck w=true):K 503 [.s w] [LI (ptn w),.b true]∧K 301 [.s w] [LI (ptn w),.b true]:=by
 obtain ⟨_,⟨m,hm,rfl⟩,k1⟩:=part_p_i (K:=K) hd
 have k2:=part_p_s (K:=K) hd hm
 have hml:=hm.1
 have e:=mate_eq hm
 refine ⟨?_,by rw [ptn,e]; exact k2⟩
 have e2:rnL (luG w (fun a=>(pkF2 w (atI m a).toNat:Int)) w.length) (uix w w.length)=ptn w:=by
  have h1:luG w (fun a=>(pkF2 w (atI m a).toNat:Int)) w.length=(luG w (fun a=>(drF w (atI m a).toNat:Int)) w.length).map (·+1):=by
   refine luG_map fun a ha hu=>?_
   obtain ⟨b,hb,q⟩:=hm.2 a ha
   have hbl:b<w.length:=by rcases q with q | q <;> have:=q.1 <;> have:=q.2.1 <;> omega
   have hD:=DY_of hd
   have hb1:atB w b=100:=by
    rcases hD.ud b hbl with hv | hv
    ·exfalso
     rcases q with q | q
     ·have h3:=Hh_up hbl hv
      have h4:=q.2.2.1
      have h5:=q.2.2.2 b q.1 (Nat.le_refl _)
      omega
     ·have h3:=Hh_up ha hu
      have h4:=q.2.2.1
      have h5:=q.2.2.2 a q.1 (Nat.le_refl _)
      omega
    ·exact hv
   have h2:=pv_alt hd hbl
   rw [if_pos hb1] at h2
   simp only [hb,qtn]
   omega
  rw [h1,rn_map,ptn,e]
  rw [luG_len (Nat.le_refl _)]
  exact Nat.le_refl _
 rw [e2] at k1
 exact k1
end Go.Cat
