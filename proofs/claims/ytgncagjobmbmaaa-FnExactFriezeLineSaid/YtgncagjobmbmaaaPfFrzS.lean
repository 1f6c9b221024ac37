/-
 Friezes: what the reference reckons.
-/
import Derived.Test.YtgncagjobmbmaaaPfFrzL
import Derived.Test.YtgncagjobmbmaaaPfIn
import Derived.Test.YtgncagjobmbmaaaIrHas
set_option linter.unusedSimpArgs false
set_option linter.unusedVariables false
namespace Go.Cat
variable {K:Nat→List D→List D→Prop}
theorem LL_appQ {rs qs:List (List Int)} (h:rs.length+qs.length≤1099511627776):appD false (LL rs) (LL qs)=some (LL (rs++qs)):=LL_app ⟨h,rfl⟩
theorem ll_3Q {a b c:List Int}:liD [LI a,LI b,LI c]=some (LL [a,b,c]):=rfl
theorem appZ {p:List Int} (h:p.length≤1048576):appD true (.l []) (LI p)=some (LI p):=LI_app (zs:=[]) (by simp; omega)
theorem map_snocQ {α:Type} {f:Nat→α} {n:Nat}:(List.range (n+1)).map f=(List.range n).map f++[f n]:=by simp [List.range_succ]
def fzB (q:List Int):Bool:=q.all (inR 1 100)&&inR 3 10 q.length
theorem fine_s [HA K] {q:List Int} (h:q.length≤1048576):K 180 [LI q] [.b (fzB q)]:=by
 refine body_by (f:=ir_spec_l22Fine) rfl ?_; simp only [ir_spec_l22Fine,zn,zs,zq,zi,zg,zp]
 simp (disch:=first|omega|simp only[vl];omega) only [vcd]
 refine loop_ix (fun i=>∀ j:Nat,j<i→inR 1 100 (atI q j)=true) (fun i=>[LI q,.u,.n i,.u,.u]) q.length (by simp) rfl (fun i hi hP=>?_) (fun hP=>?_)
 ·cases hx:inR 1 100 (atI q i)
  ·simp (disch:=first|omega|simp only[vl];omega) only [vcd]
   repeat (first | (refine call_by (l1In_ok (K:=K)) rfl ?_; try simp (disch:=first|omega|simp only[vl];omega) only [vcd,hx]))
   simp [fzB,all_f hi hx]
  ·simp (disch:=first|omega|simp only[vl];omega) only [vcd]
   repeat (first | (refine call_by (l1In_ok (K:=K)) rfl ?_; try simp (disch:=first|omega|simp only[vl];omega) only [vcd,hx]))
   exact all_s hP hx
 ·simp (disch:=first|omega|simp only[vl];omega) only [vcd]
  refine call_by (l1In_ok (K:=K)) rfl ?_
  simp (disch:=first|omega|simp only[vl];omega) only [vcd]
  simp [fzB,all_t hP]
def rwL (q:List Int) (r:Nat):List Int:=(List.range q.length).map fun i=>rwQ q r i
def rowsQ (q:List Int) (k:Nat):List (List Int):=(List.range k).map (rwL q)
theorem rwL_len {q:List Int} {r:Nat}:(rwL q r).length=q.length:=by simp [rwL]
theorem rwL_at {q:List Int} {r i:Nat} (h:i<q.length):atI (rwL q r) i=rwQ q r i:=by simp [atI,rwL,h]
theorem rowsQ_len {q:List Int} {k:Nat}:(rowsQ q k).length=k:=by simp [rowsQ]
theorem rowsQ_at {q:List Int} {k r:Nat} (h:r<k):atL (rowsQ q k) r=rwL q r:=by simp [atL,rowsQ,h]
theorem rowsQ_s {q:List Int} {k:Nat}:rowsQ q (k+1)=rowsQ q k++[rwL q k]:=map_snocQ
def gdZ (q:List Int) (k:Nat):Prop:=∀ r,r<k→∀ i,0≤rwQ q r i∧rwQ q r i≤100000
def okZ (q:List Int):Prop:=∀ r,r+3≤q.length→∀ i,i<q.length→1≤rwQ q (r+1) (i+1)∧0≤rwQ q (r+3) i∧rwQ q (r+3) i≤100000
theorem rwQ_2 {q:List Int} {i:Nat}:rwQ q 2 i=qa q i:=by simp [rwQ,kq]
theorem fzB_iff {q:List Int}:fzB q=true↔(∀ x∈q,1≤x∧x≤100)∧3≤q.length∧q.length≤10:=by
 simp only [fzB,qba,qat,inR_iff]
 constructor
 ·rintro ⟨a,b⟩; exact ⟨a,by omega,by omega⟩
 ·rintro ⟨a,b,c⟩; exact ⟨a,by omega⟩
theorem qa_mem {q:List Int} {i:Nat} (h:0<q.length):qa q i∈q:=by
 have:i % q.length<q.length:=Nat.mod_lt _ h
 simp only [qa,atI,qtn,qgd]; rw [qge this]; exact List.getElem_mem _
theorem gdZ_3 {q:List Int} (h:fzB q=true):gdZ q 3:=by
 obtain ⟨h1,h2,h3⟩:=fzB_iff.1 h
 intro r hr i
 obtain rfl | rfl | rfl:r=0∨r=1∨r=2:=by omega
 ·simp [rwQ,kq]
 ·simp [rwQ,kq]
 ·rw [rwQ_2]
  have:=h1 _ (qa_mem (q:=q) (i:=i) (by omega))
  omega
theorem rowsQ_3 {q:List Int}:rowsQ q 3=[List.replicate q.length 0,List.replicate q.length 1,q]:=by
 have e0:rwL q 0=List.replicate q.length 0:=extI (by simp [rwL]) fun j hj=>by
  rw [rwL_len] at hj
  rw [rwL_at hj]
  simp [rwQ,kq,atI,hj]
 have e1:rwL q 1=List.replicate q.length 1:=extI (by simp [rwL]) fun j hj=>by
  rw [rwL_len] at hj
  rw [rwL_at hj]
  simp [rwQ,kq,atI,hj]
 have e2:rwL q 2=q:=extI (by simp [rwL]) fun j hj=>by
  rw [rwL_len] at hj
  rw [rwL_at hj,rwQ_2,qa,Nat.mod_eq_of_lt hj]
 simp [rowsQ,List.range_succ,e0,e1,e2]
open Classical in
noncomputable def rrQ (q:List Int):List (List Int):=if okZ q then rowsQ q (q.length+1) else []
theorem mul_bd {a b:Int} (ha:0≤a∧a≤100000) (hb:0≤b∧b≤100000):0≤a*b∧a*b≤10000000000:=by
 refine ⟨Int.mul_nonneg ha.1 hb.1,?_⟩
 have h1:=Int.mul_le_mul_of_nonneg_right ha.2 hb.1
 omega
theorem rows_s [HA K] {q:List Int} (h:fzB q=true):K 181 [LI q] [LL (rrQ q)]:=by
 obtain ⟨h1,h2,h3⟩:=fzB_iff.1 h
 refine body_by (f:=ir_spec_l22Rows) rfl ?_; simp only [ir_spec_l22Rows,zn,zs,zq,zi,zg,zp]
 simp (disch:=first|omega|simp only[vl];omega) only [vcd]
 refine loop_up (fun i (r:List Int)=>r=List.replicate i 1) (fun i r=>[LI q,.u,.n q.length,LI (rep q.length 0),LI r,.n i,.u,.u,.u,.u,.u,.u,.u,.u,.u,.u]) q.length [] rfl rfl (fun i r hi hP=>?_) (fun r hP=>?_)
 ·have hr:r.length=i:=by rw [hP]; simp
  simp (disch:=first|omega|simp only[vl];omega) only [vcd]
  refine ⟨_,?_,rfl⟩
  rw [hP]; exact List.replicate_succ'.symm
 ·simp (disch:=first|omega|simp only[vl];omega) only [vcd]
  have e3:[rep (q.length:Int) 0,r,q]=rowsQ q 3:=by rw [rowsQ_3,hP]; rfl
  simp (disch:=first|omega|simp only[vl];omega) only [vcd,appZ (p:=q) (by omega),ll_3Q,e3]
  refine loop_up (fun k (R:List (List Int))=>R=rowsQ q (k+3)∧gdZ q (k+3)∧∀ r,r<k→∀ i,i<q.length→1≤rwQ q (r+1) (i+1)∧0≤rwQ q (r+3) i∧rwQ q (r+3) i≤100000) (fun k R=>[.u,.u,.n q.length,.u,.u,.u,LL R,.n ((k:Int)+3),.u,.u,.u,.u,.u,.u,.u,.u]) (q.length-2) (rowsQ q 3) ⟨rfl,gdZ_3 h,by omega⟩ rfl (fun k R hk hR=>?_) (fun R hR=>?_)
  ·obtain ⟨hR1,hR2,hR3⟩:=hR
   have hRl:R.length=k+3:=by rw [hR1,rowsQ_len]
   have ea:atL R ((k:Int)+3-1)=rwL q (k+2):=by rw [show (k:Int)+3-1=((k+2:Nat):Int) by omega,hR1]; exact rowsQ_at (by omega)
   have eb:atL R ((k:Int)+3-2)=rwL q (k+1):=by rw [show (k:Int)+3-2=((k+1:Nat):Int) by omega,hR1]; exact rowsQ_at (by omega)
   have la:(rwL q (k+2)).length=q.length:=rwL_len
   have lb:(rwL q (k+1)).length=q.length:=rwL_len
   simp (disch:=first|omega|simp only[vl];omega) only [vcd]
   refine loop_up (fun i (r:List Int)=>r=(List.range i).map (fun i=>rwQ q (k+3) i)∧∀ j,j<i→1≤rwQ q (k+1) (j+1)∧0≤rwQ q (k+3) j∧rwQ q (k+3) j≤100000) (fun i r=>[.u,.u,.n q.length,.u,.u,.u,LL R,.n ((k:Int)+3),LI r,.n i,.u,.u,.u,.u,.u,.u]) q.length [] ⟨rfl,by omega⟩ rfl (fun i r hi hr=>?_) (fun r hr=>?_)
   ·have hrl:r.length=i:=by rw [hr.1]; simp
    have em:((i:Int)+1) % (q.length:Int)=((i+1) % q.length:Nat):=by simp [Int.natCast_emod]
    have hm:(i+1) % q.length<q.length:=Nat.mod_lt _ (by omega)
    have g1:=(hR2 (k+2) (by omega) i)
    have g2:=(hR2 (k+2) (by omega) (i+1))
    have g3:=(hR2 (k+1) (by omega) (i+1))
    have g4:=mul_bd g1 g2
    have ru:=rwQ_rule (q:=q) (r:=k+1) (i:=i) (by omega)
    have c1:atI (rwL q (k+2)) (i:Int)=rwQ q (k+2) i:=rwL_at hi
    have c2:atI (rwL q (k+2)) ((i+1) % q.length:Nat)=rwQ q (k+2) (i+1):=by rw [rwL_at hm,rwQ_mod]
    have c3:atI (rwL q (k+1)) ((i+1) % q.length:Nat)=rwQ q (k+1) (i+1):=by rw [rwL_at hm,rwQ_mod]
    generalize rwQ q (k+2) i=x1 at*
    generalize rwQ q (k+2) (i+1)=x2 at*
    have e0:x1*x2-1=rwQ q (k+1) (i+1)*rwQ q (k+3) i:=by
     have:rwQ q (k+1+2) i=rwQ q (k+3) i:=rfl
     rw [this] at ru
     omega
    by_cases d1:rwQ q (k+1) (i+1)<1
    ·simp (disch:=first|omega|simp only[vl];omega) only [vcd,ea,eb,em,c1,c2,c3]
     rw [rrQ,if_neg fun q'=>by have:=(q' k (by omega) i hi).1; omega]
     rfl
    ·have e1:(x1*x2-1).tmod (rwQ q (k+1) (i+1))=0:=by rw [e0]; exact Int.mul_tmod_right ..
     have e2:(x1*x2-1).tdiv (rwQ q (k+1) (i+1))=rwQ q (k+3) i:=by rw [e0]; exact Int.mul_tdiv_cancel_left _ (by omega)
     have hx:-10000000000≤rwQ q (k+3) i∧rwQ q (k+3) i≤10000000000:=by
      generalize rwQ q (k+1) (i+1)=x at*
      generalize rwQ q (k+3) i=y at*
      have hx1:1≤x:=by omega
      constructor
      ·rcases Int.lt_or_le y 0 with q | q
       ·have:=Int.mul_le_mul_of_nonneg_left (show y≤-1 by omega) (show 0≤x by omega)
        have h2:=Int.mul_le_mul_of_nonpos_right hx1 (show y≤0 by omega)
        omega
       ·omega
      ·rcases Int.lt_or_le y 0 with q | q
       ·omega
       ·have:=Int.mul_le_mul_of_nonneg_right hx1 q
        omega
     by_cases d2:rwQ q (k+3) i<0
     ·simp (disch:=first|omega|simp only[vl];omega) only [vcd,ea,eb,em,c1,c2,c3,e1,e2]
      rw [rrQ,if_neg fun q'=>by have:=(q' k (by omega) i hi).2.1; omega]
      rfl
     ·by_cases d3:100000<rwQ q (k+3) i
      ·simp (disch:=first|omega|simp only[vl];omega) only [vcd,ea,eb,em,c1,c2,c3,e1,e2]
       rw [rrQ,if_neg fun q'=>by have:=(q' k (by omega) i hi).2.2; omega]
       rfl
      ·simp (disch:=first|omega|simp only[vl];omega) only [vcd,ea,eb,em,c1,c2,c3,e1,e2]
       refine ⟨_,⟨by rw [map_snocQ,← hr.1],all_s hr.2 (by omega)⟩,rfl⟩
   ·have e4:r=rwL q (k+3):=hr.1
    have g3:gdZ q (k+4):=by
     intro r hr' i
     rcases qlg r (k+3) with q' | q'
     ·exact hR2 r q' i
     ·obtain rfl:r=k+3:=by omega
      have:=hr.2 (i % q.length) (Nat.mod_lt _ (by omega))
      rw [rwQ_mod] at this
      exact this.2
    simp (disch:=first|omega|simp only[vl];omega) only [vcd,ll_1,LL_appQ]
    refine ⟨_,⟨by rw [e4,hR1]; exact rowsQ_s.symm,g3,all_s hR3 hr.2⟩,rfl⟩
  ·have e4:q.length-2+3=q.length+1:=by omega
   simp (disch:=first|omega|simp only[vl];omega) only [vcd]
   have ho:okZ q:=fun r hr' i hi=>hR.2.2 r (by omega) i hi
   rw [rrQ,if_pos ho,hR.1,e4]
theorem okZ_gd {q:List Int} (h:fzB q=true) (ho:okZ q):gdZ q (q.length+1):=by
 obtain ⟨h1,h2,h3⟩:=fzB_iff.1 h
 intro r hr i
 rcases qlg r 3 with q' | q'
 ·exact gdZ_3 h r q' i
 ·have:=ho (r-3) (by omega) (i % q.length) (Nat.mod_lt _ (by omega))
  rw [show r-3+3=r by omega,rwQ_mod] at this
  exact this.2
def enZ (q:List Int) (r i:Nat):Prop:=(r=q.length→rwQ q r i=0)∧(1≤r→r<q.length→1≤rwQ q r i∧rwQ q r i≤100000)∧(r+1=q.length→rwQ q r i=1)
def frP (q:List Int):Prop:=∀ r,r<q.length+1→∀ i,i<q.length→enZ q r i
theorem frP_iff {q:List Int} (h:1≤q.length):frP q↔frQ q 100000:=by
 constructor
 ·intro hf i
  have hf2:=fun r hr=>hf r hr (i % q.length) (Nat.mod_lt _ (by omega))
  simp only [enZ,rwQ_mod] at hf2
  exact ⟨fun m h1 h2=>(hf2 m (by omega)).2.1 h1 h2,(hf2 (q.length-1) (by omega)).2.2 (by omega),(hf2 q.length (by omega)).1 rfl⟩
 ·intro hf r hr i hi
  obtain ⟨f1,f2,f3⟩:=hf i
  exact ⟨fun e=>by rw [e]; exact f3,fun a b=>f1 r a b,fun e=>by rw [show r=q.length-1 by omega]; exact f2⟩
theorem frP_ok {q:List Int} (h:fzB q=true) (hf:frP q):okZ q:=by
 obtain ⟨h1,h2,h3⟩:=fzB_iff.1 h
 obtain hf2:=(frP_iff (by omega)).1 hf
 intro r hr i hi
 refine ⟨((hf2 (i+1)).1 (r+1) (by omega) (by omega)).1,?_⟩
 by_cases q':r+3=q.length
 ·rw [q',(hf2 i).2.2]; omega
 ·have:=(hf2 i).1 (r+3) (by omega) (by omega)
  omega
theorem isf0_s [HA K]:K 182 [LL []] [.b false]:=by
 refine body_by (f:=ir_spec_IsFrieze) rfl ?_; simp only [ir_spec_IsFrieze,zn,zs,zq,zi,zg,zp]
 simp (disch:=first|omega|simp only[vl];omega) only [vcd]
 refine call_by (l1In_ok (K:=K)) rfl ?_
 simp (disch:=first|omega|simp only[vl];omega) only [vcd,show inR 3 10 ((([]:List (List Int)).length:Int)-1)=false from rfl]
open Classical in
theorem isf_s [HA K] {q:List Int} (h:fzB q=true) (ho:okZ q):K 182 [LL (rowsQ q (q.length+1))] [.b (decide (frP q))]:=by
 obtain ⟨h1,h2,h3⟩:=fzB_iff.1 h
 have hgd:=okZ_gd h ho
 have hRl:(rowsQ q (q.length+1)).length=q.length+1:=rowsQ_len
 have hat:∀ r:Nat,r<q.length+1→atL (rowsQ q (q.length+1)) r=rwL q r:=fun r hr=>rowsQ_at hr
 generalize rowsQ q (q.length+1)=R at*
 refine body_by (f:=ir_spec_IsFrieze) rfl ?_; simp only [ir_spec_IsFrieze,zn,zs,zq,zi,zg,zp]
 simp (disch:=first|omega|simp only[vl];omega) only [vcd]
 refine call_by (l1In_ok (K:=K)) rfl ?_
 have hin:inR 3 10 ((R.length:Int)-1)=true:=inR_iff.2 (by omega)
 have hn1:(R.length:Int)-1=q.length:=by omega
 simp (disch:=first|omega|simp only[vl];omega) only [vcd,hin,hn1]
 rw [hn1] at hin
 simp (disch:=first|omega|simp only[vl];omega) only [vcd,hin]
 refine loop_up (fun r (_:Unit)=>∀ r',r' < r→∀ i,i<q.length→enZ q r' i) (fun r _=>[LL R,.u,.n q.length,.n r,.u,.u,.u,.u,.u,.u,.u,.u,.u,.u,.u,.u]) (q.length+1) () (by omega) rfl (fun r _ hr hP=>?_) (fun _ hP=>?_)
 ·have hr1:=hat r hr
  have hl1:(rwL q r).length=q.length:=rwL_len
  simp (disch:=first|omega|simp only[vl];omega) only [vcd,hr1]
  refine loop_ix (fun i=>∀ i',i' < i→enZ q r i') (fun i=>[LL R,.u,.n q.length,.n r,.n i,.u,.u,.u,.u,.u,.u,.u,.u,.u,.u,.u]) q.length (by omega) rfl (fun i hi hQ=>?_) (fun hQ=>?_)
  ·have c1:atI (rwL q r) i=rwQ q r i:=rwL_at hi
   have nf:¬ enZ q r i→decide (frP q)=false:=fun hn=>decide_eq_false fun hf=>hn (hf r hr i hi)
   rcases (show r=0∨r=q.length∨1≤r∧r<q.length by omega) with e | e | e
   ·have hx:rwQ q r i=0:=by rw [e]; rfl
    simp (disch:=first|omega|simp only[vl];omega) only [vcd,hr1,c1,hx]
    exact all_s hQ ⟨fun _=>hx,by omega,by omega⟩
   ·by_cases hx:rwQ q r i=0
    ·simp (disch:=first|omega|simp only[vl];omega) only [vcd,hr1,c1,hx]
     exact all_s hQ ⟨fun _=>hx,by omega,by omega⟩
    ·simp (disch:=first|omega|simp only[vl];omega) only [vcd,hr1,c1]
     rw [nf fun q'=>hx (q'.1 e)]
   ·cases hx:inR 1 100000 (rwQ q r i)
    ·simp (disch:=first|omega|simp only[vl];omega) only [vcd,hr1,c1]
     refine call_by (l1In_ok (K:=K)) rfl ?_
     simp (disch:=first|omega|simp only[vl];omega) only [vcd,hx]
     rw [nf fun q'=>by have:=q'.2.1 e.1 e.2; rw [inR_iff.2 this] at hx; cases hx]
    ·have hx2:=inR_iff.1 hx
     rcases (show r=1∨r+1=q.length∧1<r∨1<r∧r+1<q.length by omega) with e1 | e1 | e1
     ·have hx3:rwQ q r i=1:=by rw [e1]; rfl
      simp (disch:=first|omega|simp only[vl];omega) only [vcd,hr1,c1]
      refine call_by (l1In_ok (K:=K)) rfl ?_
      simp (disch:=first|omega|simp only[vl];omega) only [vcd,hx,hr1,c1]
      exact all_s hQ ⟨by omega,fun _ _=>hx2,fun _=>hx3⟩
     ·by_cases hx3:rwQ q r i=1
      ·simp (disch:=first|omega|simp only[vl];omega) only [vcd,hr1,c1]
       refine call_by (l1In_ok (K:=K)) rfl ?_
       simp (disch:=first|omega|simp only[vl];omega) only [vcd,hx,hr1,c1]
       exact all_s hQ ⟨by omega,fun _ _=>hx2,fun _=>hx3⟩
      ·simp (disch:=first|omega|simp only[vl];omega) only [vcd,hr1,c1]
       refine call_by (l1In_ok (K:=K)) rfl ?_
       simp (disch:=first|omega|simp only[vl];omega) only [vcd,hx,hr1,c1]
       rw [nf fun q'=>hx3 (q'.2.2 e1.1)]
     ·simp (disch:=first|omega|simp only[vl];omega) only [vcd,hr1,c1]
      refine call_by (l1In_ok (K:=K)) rfl ?_
      simp (disch:=first|omega|simp only[vl];omega) only [vcd,hx,hr1,c1]
      exact all_s hQ ⟨by omega,fun _ _=>hx2,by omega⟩
  ·simp (disch:=first|omega|simp only[vl];omega) only [vcd]
   exact ⟨(),all_s hP hQ⟩
 ·have hf:decide (frP q)=true:=decide_eq_true hP
  simp (disch:=first|omega|simp only[vl];omega) only [vcd]
  refine loop_ix (fun _=>True) (fun r=>[LL R,.u,.n q.length,.u,.u,.u,.n ((r:Int)+1),.u,.u,.u,.u,.u,.u,.u,.u,.u]) (q.length-1) trivial rfl (fun r hr _=>?_) (fun _=>?_)
  ·simp (disch:=first|omega|simp only[vl];omega) only [vcd]
   refine loop_ix (fun _=>True) (fun i=>[LL R,.u,.n q.length,.u,.u,.u,.n ((r:Int)+1),.n i,.u,.u,.u,.u,.u,.u,.u,.u]) q.length trivial rfl (fun i hi _=>?_) (fun _=>?_)
   ·have r1:atL R ((r:Int)+1)=rwL q (r+1):=hat (r+1) (by omega)
    have r0:atL R ((r:Int)+1-1)=rwL q r:=by rw [show (r:Int)+1-1=r by omega]; exact hat r (by omega)
    have r2:atL R ((r:Int)+1+1)=rwL q (r+2):=hat (r+2) (by omega)
    have l0:(rwL q r).length=q.length:=rwL_len
    have l1:(rwL q (r+1)).length=q.length:=rwL_len
    have l2:(rwL q (r+2)).length=q.length:=rwL_len
    have em:((i:Int)+1) % (q.length:Int)=((i+1) % q.length:Nat):=by simp [Int.natCast_emod]
    have hm:(i+1) % q.length<q.length:=Nat.mod_lt _ (by omega)
    have c1:atI (rwL q (r+1)) i=rwQ q (r+1) i:=rwL_at hi
    have c2:atI (rwL q (r+1)) ((i+1) % q.length:Nat)=rwQ q (r+1) (i+1):=by rw [rwL_at hm,rwQ_mod]
    have c3:atI (rwL q r) ((i+1) % q.length:Nat)=rwQ q r (i+1):=by rw [rwL_at hm,rwQ_mod]
    have c4:atI (rwL q (r+2)) i=rwQ q (r+2) i:=rwL_at hi
    have ru:=rwQ_rule (q:=q) (r:=r) (i:=i) (by omega)
    have m1:=mul_bd (hgd (r+1) (by omega) i) (hgd (r+1) (by omega) (i+1))
    have m2:=mul_bd (hgd r (by omega) (i+1)) (hgd (r+2) (by omega) i)
    simp (disch:=first|omega|simp only[vl];omega) only [vcd,r1,r0,r2,em,c1,c2,c3,c4]
   ·simp (disch:=first|omega|simp only[vl];omega) only [vcd]
  ·simp (disch:=first|omega|simp only[vl];omega) only [vcd]
   rw [hf]
open Classical in
noncomputable def ffQ (q:List Int):List (List Int):=if fzB q=true∧frP q then rowsQ q (q.length+1) else []
open Classical in
noncomputable def ffO (q:List Int):Bool:=decide (fzB q=true∧frP q)
theorem ff_s [HA K] {q:List Int} (h:q.length≤1048576):K 136 [LI q] [LL (ffQ q),.b (ffO q)]:=by
 refine body_by (f:=ir_spec_FriezeOf) rfl ?_; simp only [ir_spec_FriezeOf,zn,zs,zq,zi,zg,zp]
 simp (disch:=first|omega|simp only[vl];omega) only [vcd]
 refine call_by (fine_s (K:=K) h) rfl ?_
 cases hz:fzB q
 ·simp (disch:=first|omega|simp only[vl];omega) only [vcd]
  simp [ffQ,ffO,hz,LL]
 ·simp (disch:=first|omega|simp only[vl];omega) only [vcd]
  refine call_by (rows_s (K:=K) hz) rfl ?_
  simp (disch:=first|omega|simp only[vl];omega) only [vcd]
  by_cases ho:okZ q
  ·rw [rrQ,if_pos ho]
   refine call_by (isf_s (K:=K) hz ho) rfl ?_
   by_cases hf:frP q
   ·simp only [hf,decide_true]
    simp (disch:=first|omega|simp only[vl];omega) only [vcd]
    simp [ffQ,ffO,hz,hf]
   ·simp only [hf,decide_false]
    simp (disch:=first|omega|simp only[vl];omega) only [vcd]
    simp [ffQ,ffO,hz,hf,LL]
  ·rw [rrQ,if_neg ho]
   refine call_by (isf0_s (K:=K)) rfl ?_
   have hf:¬ frP q:=fun hf=>ho (frP_ok hz hf)
   simp (disch:=first|omega|simp only[vl];omega) only [vcd]
   simp [ffQ,ffO,hz,hf,LL]
def suF (R:List (List Int)):Int:=(R.map List.sum).sum
theorem sum_take {l:List Int} {i:Nat} (h:i<l.length):(l.take (i+1)).sum=(l.take i).sum+atI l i:=by
 rw [qta h,List.sum_append]; simp [atI,h]
theorem suF_take {R:List (List Int)} {i:Nat} (h:i<R.length):suF (R.take (i+1))=suF (R.take i)+(atL R i).sum:=by
 rw [qta h,suF,List.map_append,List.sum_append]; simp [suF,atL,h]
theorem sum_bd {l:List Int} {M:Int} (h:∀ x∈l,0≤x∧x≤M):0≤l.sum∧l.sum≤M*l.length:=by
 induction l with
 | nil=>simp
 | cons a l ih=>
  have i1:=ih fun x hx=>h x (qmc _ hx)
  have i2:=h a (List.mem_cons_self ..)
  simp only [List.sum_cons,qlc]
  have e:M*((l.length+1:Nat):Int)=M*l.length+M:=by push_cast; rw [Int.mul_add,Int.mul_one]
  rw [e]
  omega
def smR (R:List (List Int)):Prop:=R.length≤11∧∀ r∈R,r.length≤10∧∀ x∈r,0≤x∧x≤100000
theorem smR_row {r:List Int} (h:r.length≤10∧∀ x∈r,0≤x∧x≤100000):0≤r.sum∧r.sum≤1000000:=by
 have:=sum_bd h.2
 omega
theorem smR_su {R:List (List Int)} (h:smR R) (i:Nat):0≤suF (R.take i)∧suF (R.take i)≤11000000:=by
 have:=sum_bd (l:=(R.take i).map List.sum) (M:=1000000) fun x hx=>by
  obtain ⟨r,hr,rfl⟩:=List.mem_map.1 hx
  exact smR_row (h.2 r (List.mem_of_mem_take hr))
 have hl:=h.1
 simp only [List.length_map,List.length_take] at this
 have e:suF (R.take i)=((R.take i).map List.sum).sum:=rfl
 omega
theorem atL_memQ {m:List (List Int)} {i:Nat} (h:i<m.length):atL m i∈m:=by simp [atL,h]
theorem atI_memQ {m:List Int} {i:Nat} (h:i<m.length):atI m i∈m:=by simp [atI,h]
theorem sum_s [HA K] {R:List (List Int)} (h:smR R) (hf:K 182 [LL R] [.b true]):K 139 [LL R] [.n (suF R)]:=by
 have hl:=h.1
 refine body_by (f:=ir_spec_SumOfFrieze) rfl ?_; simp only [ir_spec_SumOfFrieze,zn,zs,zq,zi,zg,zp]
 simp (disch:=first|omega|simp only[vl];omega) only [vcd]
 refine call_by (hf) rfl ?_
 simp (disch:=first|omega|simp only[vl];omega) only [vcd]
 refine loop_up (fun r (x:Int)=>x=suF (R.take r)) (fun r x=>[LL R,.u,.n x,.n r,.u,.u,.u,.u]) R.length 0 rfl rfl (fun r x hr hP=>?_) (fun x hP=>?_)
 ·have hm:=h.2 _ (atL_memQ hr)
  have hs:=suF_take hr
  have b0:=smR_su h r
  simp (disch:=first|omega|simp only[vl];omega) only [vcd]
  refine loop_up (fun i (y:Int)=>y=x+((atL R r).take i).sum) (fun i y=>[LL R,.u,.n y,.n r,.n i,.u,.u,.u]) (atL R r).length x (by simp) rfl (fun i y hi hQ=>?_) (fun y hQ=>?_)
  ·have ht:=sum_take hi
   have b1:=smR_row (r:=(atL R r).take i) ⟨by simp; omega,fun x hx=>hm.2 x (List.mem_of_mem_take hx)⟩
   have b2:=hm.2 _ (atI_memQ hi)
   simp (disch:=first|omega|simp only[vl];omega) only [vcd]
   refine ⟨_,?_,rfl⟩
   rw [ht,hQ]; omega
  ·rw [List.take_of_length_le (by omega)] at hQ
   simp (disch:=first|omega|simp only[vl];omega) only [vcd]
   refine ⟨_,?_,rfl⟩
   rw [hs,hQ,hP]
 ·simp (disch:=first|omega|simp only[vl];omega) only [vcd]
  rw [hP,List.take_of_length_le (by omega)]
end Go.Cat
