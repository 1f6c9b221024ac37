/-
 Ways of rotations and loops of any lists.
-/
import Derived.Test.YtihgdjeahjfhfaaGreatPfCkT
import Derived.Test.YtihgdjeahjfhfaaGreatPfWayD
import Derived.Test.YtihgdjeahjfhfaaGreatPfLOrd
import Derived.Test.YtihgdjeahjfhfaaGreatPfMatP
import Derived.Test.YtihgdjeahjfhfaaGreatIrHas
set_option linter.unusedSimpArgs false
set_option linter.unusedVariables false
namespace Go.Cat
variable {K:Nat→List D→List D→Prop}
def loF (a b:List Int):Int:=if ncmF a=true∧ncmF b=true∧b.length=a.length then cyN a b else -1
theorem loo_i [HA K] {a b:List Int} (ha:a.length≤1099511627776) (hb:b.length≤1099511627776):K 648 [LI a,LI b] [.n (loF a b)]:=by
 have k1:=ncm_i (K:=K) ha
 have k2:=ncm_i (K:=K) hb
 refine body_by (f:=ir_impl_LoopsOf) rfl ?_; simp only [ir_impl_LoopsOf,zn,zs,zq,zi,zg,zp]
 simp (disch:=first|omega|simp only[vl];omega) only [vcd]
 cases q1:ncmF a
 ·rw [q1] at k1
  refine call_by (k1) rfl ?_
  simp (disch:=first|omega|simp only[vl];omega) only [vcd]
  simp [loF,q1]
 rw [q1] at k1
 refine call_by (k1) rfl ?_
 simp (disch:=first|omega|simp only[vl];omega) only [vcd]
 cases q2:ncmF b
 ·rw [q2] at k2
  refine call_by (k2) rfl ?_
  simp (disch:=first|omega|simp only[vl];omega) only [vcd]
  simp [loF,q2]
 rw [q2] at k2
 refine call_by (k2) rfl ?_
 by_cases q3:b.length=a.length
 ·have ha1:matF a=true:=by simp [ncmF] at q1; exact q1.1
  have hb1:matF b=true:=by simp [ncmF] at q2; exact q2.1
  have hl:=(matF_t ha1).1
  simp (disch:=first|omega|simp only[vl];omega) only [vcd]
  refine call_by (cyc_i (K:=K) (a:=a) (b:=b) (by omega) q3 (inL_of ha1) (inL_of hb1)) rfl ?_
  simp (disch:=first|omega|simp only[vl];omega) only [vcd]
  simp [loF,q1,q2,q3]
 ·simp (disch:=first|omega|simp only[vl];omega) only [vcd]
  simp [loF,q1,q2,q3]
theorem loo_s [HA K] {a b:List Int} (ha:a.length≤1099511627776) (hb:b.length≤1099511627776):K 371 [LI a,LI b] [.n (loF a b)]:=by
 by_cases q:ncmF a=true∧ncmF b=true∧b.length=a.length
 ·have:=loops_s (K:=K) q.1 q.2.1 q.2.2
  simp only [loF,if_pos q]
  exact this
 have k1:=ncm_s (K:=K) ha
 have k2:=ncm_s (K:=K) hb
 have e:loF a b=-1:=if_neg q
 rw [e]
 refine body_by (f:=ir_spec_LoopsOf) rfl ?_; simp only [ir_spec_LoopsOf,zn,zs,zq,zi,zg,zp]
 simp (disch:=first|omega|simp only[vl];omega) only [vcd]
 cases q1:ncmF a
 ·rw [q1] at k1
  refine call_by (k1) rfl ?_
  simp (disch:=first|omega|simp only[vl];omega) only [vcd]
 rw [q1] at k1
 refine call_by (k1) rfl ?_
 simp (disch:=first|omega|simp only[vl];omega) only [vcd]
 cases q2:ncmF b
 ·rw [q2] at k2
  refine call_by (k2) rfl ?_
  simp (disch:=first|omega|simp only[vl];omega) only [vcd]
 rw [q2] at k2
 refine call_by (k2) rfl ?_
 have q3:¬ b.length=a.length:=fun q3=>q ⟨q1,q2,q3⟩
 simp (disch:=first|omega|simp only[vl];omega) only [vcd]
theorem mea_i [HA K] {a b:List Int} (ha:a.length≤1099511627776) (hb:b.length≤1099511627776):K 639 [LI a,LI b] [.b (decide (loF a b=1))]:=by
 refine body_by (f:=ir_impl_IsMeander) rfl ?_; simp only [ir_impl_IsMeander,zn,zs,zq,zi,zg,zp]
 simp (disch:=first|omega|simp only[vl];omega) only [vcd]
 refine call_by (loo_i (K:=K) ha hb) rfl ?_
 simp (disch:=first|omega|simp only[vl];omega) only [vcd]
theorem mea_s [HA K] {a b:List Int} (ha:a.length≤1099511627776) (hb:b.length≤1099511627776):K 357 [LI a,LI b] [.b (decide (loF a b=1))]:=by
 refine body_by (f:=ir_spec_IsMeander) rfl ?_; simp only [ir_spec_IsMeander,zn,zs,zq,zi,zg,zp]
 simp (disch:=first|omega|simp only[vl];omega) only [vcd]
 refine call_by (loo_s (K:=K) ha hb) rfl ?_
 simp (disch:=first|omega|simp only[vl];omega) only [vcd]
theorem ixs_ok [HA K] {p:List (List Nat)} {x:List Nat} (h:p.length≤1000000):∃ rs,(∃ j:Int,rs=[.n j]∧decide (j≥0)=decide (x∈p)∧j≤1000000)∧K 654 [LS p,.s x] rs:=by
 refine body_ex (f:=ir_slices_Index___string_string_) rfl ?_; simp only [ir_slices_Index___string_string_,zn,zs,zq,zi,zg,zp]
 simp (disch:=first|omega|simp only[vl];omega) only [vcd]
 refine loop_ix (fun i=>x∉p.take i) (fun i=>[LS p,.s x,.u,.u,.n p.length,.n i,.u,.u]) p.length (by simp) rfl (fun i hi hP=>?_) (fun hP=>?_)
 ·have et:p.take (i+1)=p.take i++[atS p i]:=by
   rw [qta hi]; simp [atS,hi]
  have hm:atS p i∈p:=by simp [atS,hi]
  cases hc:(x == atS p i)
  ·simp (disch:=first|omega|simp only[vl];omega) only [vcd,hc]
   rw [et]
   intro q
   rcases qma.1 q with q | q
   ·exact hP q
   ·simp only [List.mem_singleton] at q
    rw [q] at hc
    simp at hc
  ·have e:x=atS p i:=by simpa using hc
   simp (disch:=first|omega|simp only[vl];omega) only [vcd,hc]
   exact ⟨_,rfl,by rw [e]; simp [hm],by omega⟩
 ·rw [List.take_length] at hP
  simp (disch:=first|omega|simp only[vl];omega) only [vcd]
  exact ⟨_,rfl,by simp [hP],by omega⟩
theorem cons_ok [HA K] {p:List (List Nat)} {x:List Nat} (h:p.length≤1000000):K 651 [LS p,.s x] [.b (decide (x∈p))]:=by
 refine body_by (f:=ir_slices_Contains___string_string_) rfl ?_; simp only [ir_slices_Contains___string_string_,zn,zs,zq,zi,zg,zp]
 obtain ⟨_,⟨j,rfl,hj,hj2⟩,k1⟩:=ixs_ok (K:=K) (x:=x) h
 simp (disch:=first|omega|simp only[vl];omega) only [vcd]
 refine call_by (k1) rfl ?_
 simp (disch:=first|omega|simp only[vl];omega) only [vcd]
 exact Db (by rw [← hj])
def okW (s u:List Nat):Prop:=∃ x y:BT,s=x.t∧x.n≤8∧y∈nbL x∧u=y.t
theorem okW_t {x:BT} {u:List Nat} (hx:x.n≤8):okW x.t u↔u∈(nbL x).map BT.t:=by
 constructor
 ·rintro ⟨x',y,h1,_,h3,rfl⟩
  have:=oc_inj h1
  subst this
  exact List.mem_map_of_mem h3
 ·intro h
  obtain ⟨y,hy,rfl⟩:=List.mem_map.1 h
  exact ⟨x,y,rfl,hx,hy,rfl⟩
def wyP (l:List (List Nat)):Prop:=(1≤l.length∧l.length≤40)∧isB (atS l 0)=true∧∀ i:Nat,i+1<l.length→okW (atS l i) (atS l ((i+1:Nat):Int))
open Classical in
noncomputable def wyF (l:List (List Nat)):Bool:=decide (wyP l)
theorem wyF_iff {l:List (List Nat)}:wyF l=true↔wyP l:=by
 unfold wyF
 exact @decide_eq_true_iff _ (Classical.propDecidable _)
theorem wyF_t {l:List (List Nat)} (h:wyF l=true):1≤l.length∧l.length≤40:=(wyF_iff.1 h).1
theorem wyF_no {l:List (List Nat)} (h:¬ wyP l):wyF l=false:=by
 rw [Bool.eq_false_iff]
 exact fun q=>h (wyF_iff.1 q)
theorem way_tr {l:List (List Nat)} {i:Nat} (h0:isB (atS l 0)=true) (h:∀ j:Nat,j+1<i+1→okW (atS l j) (atS l ((j+1:Nat):Int))):∃ x:BT,atS l i=x.t∧x.n≤8:=by
 cases i with
 | zero=>exact isB_t h0
 | succ i=>
  obtain ⟨x,y,_,h2,h3,h4⟩:=h i (by omega)
  exact ⟨y,h4,by have:=nbL_n h3; omega⟩
theorem isB_of {x:BT} (h:x.n≤8):isB x.t=true:=isB_yes h
theorem rw_i [HA K] [HasV K 201 ir_impl_rotations_w202] [HA K] [HRot K] {l:List (List Nat)} (h:l.length≤1099511627776):K 646 [LS l] [.b (wyF l)]:=by
 refine body_by (f:=ir_impl_IsRotationWay) rfl ?_; simp only [ir_impl_IsRotationWay,zn,zs,zq,zi,zg,zp]
 simp (disch:=first|omega|simp only[vl];omega) only [vcd]
 refine call_by (within_ok (K:=K)) rfl ?_
 by_cases hl:1≤l.length∧l.length≤40
 ·have hi:inR 1 40 (l.length:Int)=true:=inR_iff.2 (by omega)
  simp (disch:=first|omega|simp only[vl];omega) only [vcd,hi]
  refine call_by (isb_i (K:=K) (s:=atS l 0)) rfl ?_
  cases hb:isB (atS l 0)
  ·have e:wyF l=false:=wyF_no fun q=>by have:=q.2.1; rw [hb] at this; cases this
   rw [e]
   simp (disch:=first|omega|simp only[vl];omega) only [vcd]
  ·simp (disch:=first|omega|simp only[vl];omega) only [vcd]
   refine loop_ix (fun i=>∀ j:Nat,j+1<i+1→okW (atS l j) (atS l ((j+1:Nat):Int))) (fun i=>[LS l,.u,.n ((i:Int)+1),.u,.u,.u]) (l.length-1) (fun j hj=>by omega) rfl (fun i hi hP=>?_) (fun hP=>?_)
   ·obtain ⟨x,hx,hx8⟩:=way_tr hb hP
    have hnl:=nbL_len (x:=x)
    have kn:=nb_i (K:=K) hx8
    rw [← hx] at kn
    have kc:=cons_ok (K:=K) (p:=(nbL x).map BT.t) (x:=atS l ((i:Int)+1)) (by rw [List.length_map]; omega)
    have ei:(i:Int)+1-1=i:=by omega
    have ho:=okW_t (u:=atS l ((i:Int)+1)) hx8
    rw [← hx] at ho
    simp (disch:=first|omega|simp only[vl];omega) only [vcd,ei]
    refine call_by (kn) rfl ?_
    simp (disch:=first|omega|simp only[vl];omega) only [vcd]
    refine call_by (kc) rfl ?_
    by_cases q:atS l ((i:Int)+1)∈(nbL x).map BT.t
    ·have q':decide (atS l ((i:Int)+1)∈(nbL x).map BT.t)=true:=decide_eq_true q
     simp (disch:=first|omega|simp only[vl];omega) only [vcd,q']
     intro j hj
     by_cases e:j=i
     ·subst e
      exact ho.2 q
     ·exact hP j (by omega)
    ·have q':decide (atS l ((i:Int)+1)∈(nbL x).map BT.t)=false:=decide_eq_false q
     have e:wyF l=false:=wyF_no fun w=>q (ho.1 (w.2.2 i (by omega)))
     rw [e]
     simp (disch:=first|omega|simp only[vl];omega) only [vcd,q']
   ·have e:wyF l=true:=wyF_iff.2 ⟨hl,hb,fun i hi=>hP i (by omega)⟩
    rw [e]
    simp (disch:=first|omega|simp only[vl];omega) only [vcd]
 ·have hi:inR 1 40 (l.length:Int)=false:=by
   rw [Bool.eq_false_iff]
   intro q
   have:=inR_iff.1 q
   omega
  have e:wyF l=false:=wyF_no fun q=>hl q.1
  rw [e]
  simp (disch:=first|omega|simp only[vl];omega) only [vcd,hi]
theorem rw_s [HA K] {l:List (List Nat)} (h:l.length≤1099511627776):K 644 [LS l] [.b (wyF l)]:=by
 refine body_by (f:=ir_spec_IsRotationWay) rfl ?_; simp only [ir_spec_IsRotationWay,zn,zs,zq,zi,zg,zp]
 by_cases h0:l.length=0
 ·have e:wyF l=false:=wyF_no fun q=>by have:=q.1.1; omega
  rw [e]
  simp (disch:=first|omega|simp only[vl];omega) only [vcd]
  refine loop_ix (fun _=>True) (fun _=>[LS l,.u,.n 0,.u,.u]) 0 trivial rfl (fun i hi _=>by omega) (fun _=>?_)
  simp (disch:=first|omega|simp only[vl];omega) only [vcd]
 simp (disch:=first|omega|simp only[vl];omega) only [vcd]
 by_cases hl:40<l.length
 ·have e:wyF l=false:=wyF_no fun q=>by have:=q.1.2; omega
  rw [e]
  refine loop_wh (fun (_:Unit)=>True) (fun _=>[LS l,.u,.n 0,.u,.u]) (fun _=>0) () trivial rfl (fun _ _=>?_)
  simp (disch:=first|omega|simp only[vl];omega) only [vcd]
 refine loop_ix (fun i=>(0<i→isB (atS l 0)=true)∧∀ j:Nat,j+1<i→okW (atS l j) (atS l ((j+1:Nat):Int))) (fun i=>[LS l,.u,.n i,.u,.u]) l.length ⟨fun q=>by omega,fun j hj=>by omega⟩ rfl (fun i hi hP=>?_) (fun hP=>?_)
 ·obtain ⟨hb,hP⟩:=hP
  have kb:=isb_s (K:=K) (s:=atS l i)
  by_cases i0:i=0
  ·subst i0
   cases hc:isB (atS l 0)
   ·have e:wyF l=false:=wyF_no fun q=>by have:=q.2.1; rw [hc] at this; cases this
    have kb:K 160 [.s (atS l 0)] [.b (isB (atS l 0))]:=kb
    rw [hc] at kb
    rw [e]
    simp (disch:=first|omega|simp only[vl];omega) only [vcd]
    refine call_by (kb) rfl ?_
    simp (disch:=first|omega|simp only[vl];omega) only [vcd]
   ·have kb:K 160 [.s (atS l 0)] [.b (isB (atS l 0))]:=kb
    rw [hc] at kb
    simp (disch:=first|omega|simp only[vl];omega) only [vcd]
    refine call_by (kb) rfl ?_
    simp (disch:=first|omega|simp only[vl];omega) only [vcd]
    exact ⟨fun _=>(by first | exact hc | trivial),fun j hj=>by omega⟩
  ·obtain ⟨k,rfl⟩:∃ k,i=k+1:=⟨i-1,by omega⟩
   have hb0:=hb (by omega)
   obtain ⟨x,hx,hx8⟩:=way_tr (i:=k) hb0 hP
   simp only [Int.natCast_add,Int.cast_ofNat_Int] at kb ⊢
   have ho:=okW_t (u:=atS l ((k:Int)+1)) hx8
   rw [← hx] at ho
   have hnl:=nbL_len (x:=x)
   have kn:=nb_s (K:=K) hx8
   rw [← hx] at kn
   have kc:=h15_s (K:=K) (ws:=(nbL x).map BT.t) (k:=atS l ((k:Int)+1)) (by rw [List.length_map]; omega)
   have ei:(k:Int)+1-1=k:=by omega
   cases hc:isB (atS l ((k:Int)+1))
   ·have e:wyF l=false:=wyF_no fun q=>by
     obtain ⟨x',y,_,h2,h3,h4⟩:=q.2.2 k (by omega)
     have h4:atS l ((k:Int)+1)=y.t:=h4
     rw [h4,isB_of (by have:=nbL_n h3; omega)] at hc
     cases hc
    rw [hc] at kb
    rw [e]
    simp (disch:=first|omega|simp only[vl];omega) only [vcd]
    refine call_by (kb) rfl ?_
    simp (disch:=first|omega|simp only[vl];omega) only [vcd]
   ·rw [hc] at kb
    by_cases q:atS l ((k:Int)+1)∈(nbL x).map BT.t
    ·have q':decide (atS l ((k:Int)+1)∈(nbL x).map BT.t)=true:=decide_eq_true q
     rw [q'] at kc
     have fin:∀ j:Nat,j+1<k+1+1→okW (atS l j) (atS l ((j+1:Nat):Int)):=fun j hj=>by
      by_cases e:j=k
      ·subst e
       exact ho.2 q
      ·exact hP j (by omega)
     simp (disch:=first|omega|simp only[vl];omega) only [vcd]
     refine call_by (kb) rfl ?_
     simp (disch:=first|omega|simp only[vl];omega) only [vcd,ei]
     refine call_by (kn) rfl ?_
     simp (disch:=first|omega|simp only[vl];omega) only [vcd]
     refine call_by (kc) rfl ?_
     simp (disch:=first|omega|simp only[vl];omega) only [vcd]
     exact ⟨fun _=>hb0,fin⟩
    ·have q':decide (atS l ((k:Int)+1)∈(nbL x).map BT.t)=false:=decide_eq_false q
     rw [q'] at kc
     have e:wyF l=false:=wyF_no fun w=>q (ho.1 (w.2.2 k (by omega)))
     rw [e]
     simp (disch:=first|omega|simp only[vl];omega) only [vcd]
     refine call_by (kb) rfl ?_
     simp (disch:=first|omega|simp only[vl];omega) only [vcd,ei]
     refine call_by (kn) rfl ?_
     simp (disch:=first|omega|simp only[vl];omega) only [vcd]
     refine call_by (kc) rfl ?_
     simp (disch:=first|omega|simp only[vl];omega) only [vcd]
 ·have e:wyF l=true:=wyF_iff.2 ⟨by omega,hP.1 (by omega),fun i hi=>hP.2 i (by omega)⟩
  rw [e]
  simp (disch:=first|omega|simp only[vl];omega) only [vcd]
end Go.Cat
