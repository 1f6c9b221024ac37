/-
 PathLine answers as the reference does.
-/
import Derived.Test.YtdifmcppfcbgdaaGreatPfStatB
import Derived.Test.YtdifmcppfcbgdaaGreatPfPlane
import Derived.Test.YtdifmcppfcbgdaaGreatPfPart
import Derived.Test.YtdifmcppfcbgdaaGreatPfTxt
import Derived.Test.YtdifmcppfcbgdaaGreatPfDraw
import Derived.Test.YtdifmcppfcbgdaaGreatIrHas
import Derived.Test.YtdifmcppfcbgdaaGreatPfPerm
set_option linter.unusedSimpArgs false
set_option linter.unusedVariables false
namespace Go.Cat
variable {K:Nat→List D→List D→Prop}
open Classical in
noncomputable def mate (w:List Nat):List Int:=if h:∃ m,PP w m then h.choose else []
theorem mate_eq {w:List Nat} {m:List Int} (h:PP w m):mate w=m:=by
 have h2:∃ m,PP w m:=⟨m,h⟩
 simp only [mate,dif_pos h2]
 exact PP_one h2.choose_spec h
theorem mate_PP {w:List Nat} (hd:dyck w=true):PP w (mate w):=by
 have:Has (fun _ _ _=>True) 373 ir_impl_partners:=⟨fun _ _ _=>trivial⟩
 obtain ⟨_,⟨m,_,hm⟩,_⟩:=part_i (K:=fun _ _ _=>True) hd
 rw [mate_eq hm]; exact hm
noncomputable def ptn (w:List Nat):List Int:=rnL (luG w (fun a=>(drF w (atI (mate w) a).toNat:Int)) w.length) (uix w w.length)
theorem ptn_len {w:List Nat} (hd:dyck w=true):(ptn w).length≤8:=by
 have h:=uix_all hd
 have hl:=(DY_of hd).l
 simp only [ptn,rnL_len]; omega
theorem ptn_s [HA K] {w:List Nat} (hd:dyck w=true):K 301 [.s w] [LI (ptn w),.b true]:=part_p_s (K:=K) hd (mate_PP hd)
theorem ptn_ok [HA K] {w:List Nat} (hd:dyck w=true):K 503 [.s w] [LI (ptn w),.b true]∧K 301 [.s w] [LI (ptn w),.b true]:=by
 obtain ⟨_,⟨m,hm,rfl⟩,k1⟩:=part_p_i (K:=K) hd
 have k2:=part_p_s (K:=K) hd hm
 have hml:=hm.1
 have e:=mate_eq hm
 refine ⟨?_,by rw [ptn,e]; exact k2⟩
 have e2:rnL (luG w (fun a=>(pkF2 w (atI m a).toNat:Int)) w.length) (uix w w.length)=ptn w:=by
  have h1:luG w (fun a=>(pkF2 w (atI m a).toNat:Int)) w.length=(luG w (fun a=>(drF w (atI m a).toNat:Int)) w.length).map (·+1):=by
   refine luG_map fun a ha hu=>?_
   obtain ⟨b,hb,q⟩:=hm.2 a ha
   have hbl:b<w.length:=by rcases q with q | q <;> have:=q.1 <;> have:=q.2.1 <;> omega
   have hD:=DY_of hd
   have hb1:atB w b=100:=by
    rcases hD.ud b hbl with hv | hv
    ·exfalso
     rcases q with q | q
     ·have h3:=Hh_up hbl hv
      have h4:=q.2.2.1
      have h5:=q.2.2.2 b q.1 (Nat.le_refl _)
      omega
     ·have h3:=Hh_up ha hu
      have h4:=q.2.2.1
      have h5:=q.2.2.2 a q.1 (Nat.le_refl _)
      omega
    ·exact hv
   have h2:=pv_alt hd hbl
   rw [if_pos hb1] at h2
   simp only [hb,qtn]
   omega
  rw [h1,rn_map,ptn,e]
  rw [luG_len (Nat.le_refl _)]
  exact Nat.le_refl _
 rw [e2] at k1
 exact k1
theorem plF_len {w:List Nat} (hd:dyck w=true):(plF w).length≤17:=by
 have hl:=(DY_of hd).l
 have:=plT_len (w:=w) (out:=[-1]) (st:=[0])
 simp only [plF,qlc,qln] at *; omega
theorem ls_9 {a b c d e f g h i:List Nat}:liD [.s a,.s b,.s c,.s d,.s e,.s f,.s g,.s h,.s i]=some (LS [a,b,c,d,e,f,g,h,i]):=rfl
theorem bq_f {a b:Nat} {x y:List Nat} (h:a≠b):((a::x) == (b::y))=false:=by
 rw [List.cons_beq_cons,beq_eq_false_iff_ne.2 h]; rfl
theorem bq_t {a:Nat} {x y:List Nat}:((a::x) == (a::y))=(x == y):=by
 rw [List.cons_beq_cons,beq_self_eq_true,Bool.true_and]
theorem bq_n:(([]:List Nat) == [])=true:=rfl
theorem rk_bd {w:List Nat} (hd:dyck w=true):-1≤rkR w∧rkR w≤1430:=by
 simp only [rkR,hd,if_true]
 obtain ⟨g,hl⟩:=gw_dyck hd
 have h1:=(rk_ok w _ _ g).1
 have h2:=bw_max (u:=w.length / 2) (d:=w.length / 2) (by omega) (by omega)
 omega
end Go.Cat
namespace Go.Cat
variable {K:Nat→List D→List D→Prop}
def pat (p:List Int) (i j k:Nat):Prop:=i<j∧j<k∧k<p.length∧atI p k<atI p i∧atI p i<atI p j
def first (p:List Int) (t:Nat×Nat×Nat):Prop:=pat p t.1 t.2.1 t.2.2∧∀ i j k,pat p i j k→¬ (i<t.1∨(i=t.1∧(j<t.2.1∨(j=t.2.1∧k<t.2.2))))
end Go.Cat
