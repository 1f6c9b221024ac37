/-
 Friezes: what the program reckons.
-/
import Derived.Test.YtgncagjobmbmaaaPfFrzI
set_option linter.unusedSimpArgs false
set_option linter.unusedVariables false
namespace Go.Cat
variable {K:Nat→List D→List D→Prop}
theorem pow7:∀ f:Nat,f≤7→(2:Int) ^ f≤100000:=by decide
theorem qd_iff {q:List Int} (h:fzB q=true):ctB (ctR q)=true↔frP q:=by
 obtain ⟨h1,h2,h3⟩:=fzB_iff.1 h
 have e:ctB (ctR q)=ctQ (q.length-3) q:=by rw [ctR,if_pos h,ctO_b]
 have hf:=ctQ_fr (q.length-3) q (by omega) (by omega)
 rw [e,frP_iff (by omega)]
 constructor
 ·intro hc
  have:=(frQ_iff (by omega)).2 (hf.1 hc)
  intro i
  obtain ⟨f1,f2,f3⟩:=this i
  refine ⟨fun m m1 m2=>?_,f2,f3⟩
  have:=f1 m m1 m2
  have:=pow7 (q.length-3) (by omega)
  omega
 ·intro hc
  exact hf.2 100000 (by decide) ((frQ_iff (by omega)).1 hc)
theorem qd_f {q:List Int} (h:fzB q=false):ctB (ctR q)=false:=by rw [ctR,if_neg (by simp [h])]; rfl
open Classical in
theorem qd_eq {q:List Int}:ctB (ctR q)=ffO q:=by
 cases h:fzB q
 ·rw [qd_f h]; simp [ffO,h]
 ·have:=qd_iff h
  unfold ffO
  by_cases hf:frP q
  ·rw [this.2 hf]; simp [h,hf]
  ·have hn:ctB (ctR q)=false:=by
    rw [Bool.eq_false_iff]; exact fun e=>hf (this.1 e)
   rw [hn]; simp [hf]
theorem isq_i [HA K] [HDel K] {q:List Int} (h:q.length≤1048576):K 183 [LI q] [.b (ffO q)]:=by
 refine body_by (f:=ir_impl_IsQuiddity) rfl ?_; simp only [ir_impl_IsQuiddity,zn,zs,zq,zi,zg,zp]
 simp (disch:=first|omega|simp only[vl];omega) only [vcd]
 refine call_by (cuts_i (K:=K) h) rfl ?_
 simp (disch:=first|omega|simp only[vl];omega) only [vcd]
 rw [qd_eq]
open Classical in
theorem ffO_iff {q:List Int}:ffO q=true↔fzB q=true∧frP q:=by unfold ffO; exact decide_eq_true_iff
theorem ff_i [HA K] [HDel K] {q:List Int} (h:q.length≤1048576):K 140 [LI q] [LL (ffQ q),.b (ffO q)]:=by
 refine body_by (f:=ir_impl_FriezeOf) rfl ?_; simp only [ir_impl_FriezeOf,zn,zs,zq,zi,zg,zp]
 simp (disch:=first|omega|simp only[vl];omega) only [vcd]
 refine call_by (isq_i (K:=K) h) rfl ?_
 cases hq:ffO q
 ·have e:ffQ q=[]:=by
   unfold ffQ
   rw [if_neg fun q'=>by rw [ffO_iff.2 q'] at hq; cases hq]
  simp (disch:=first|omega|simp only[vl];omega) only [vcd]
  simp [e,LL]
 obtain ⟨hz,hf⟩:=ffO_iff.1 hq
 obtain ⟨h1,h2,h3⟩:=fzB_iff.1 hz
 have ho:=frP_ok hz hf
 have hgd:=okZ_gd hz ho
 have e:ffQ q=rowsQ q (q.length+1):=by unfold ffQ; rw [if_pos ⟨hz,hf⟩]
 simp (disch:=first|omega|simp only[vl];omega) only [vcd]
 refine loop_up (fun i (r:List Int)=>r.length=q.length∧∀ j:Nat,j<i→atI r j=1) (fun i r=>[LI q,.u,.u,.n q.length,LI r,.u,.u,.u,.u,.u,.u,.n q.length,.n i,.u,.u,.u,.u,.u]) q.length (rep q.length 0) ⟨by simp [rep],by omega⟩ (by simp [rep]) (fun i r hi hP=>?_) (fun r hP=>?_)
 ·obtain ⟨p1,p2⟩:=hP
  simp (disch:=first|omega|simp only[vl];omega) only [vcd]
  refine ⟨_,⟨by rw [seI_lenQ]; exact p1,fun j hj=>?_⟩,rfl⟩
  rw [atI_se (by omega)]
  split
  ·rfl
  ·exact p2 j (by omega)
 ·have e1:r=List.replicate q.length 1:=extI (by simp [hP.1]) fun j hj=>by
   rw [hP.1] at hj
   rw [hP.2 j hj]; simp [atI,hj]
  have e3:[rep (q.length:Int) 0,r,q]=rowsQ q 3:=by rw [rowsQ_3,e1]; rfl
  simp (disch:=first|omega|simp only[vl];omega) only [vcd]
  refine call_by (copyInts_ok (K:=K) (p:=q) (by omega)) rfl ?_
  simp (disch:=first|omega|simp only[vl];omega) only [vcd,ll_3Q,e3]
  refine loop_up (fun k (R:List (List Int))=>R=rowsQ q (k+3)) (fun k R=>[.u,.u,.u,.n q.length,.u,.u,LL R,.n ((k:Int)+2),.u,.u,.u,.u,.u,.u,.u,.u,.u,.u]) (q.length-2) (rowsQ q 3) rfl rfl (fun k R hk hR=>?_) (fun R hR=>?_)
  ·have hRl:R.length=k+3:=by rw [hR,rowsQ_len]
   have ea:atL R ((k:Int)+2)=rwL q (k+2):=by rw [hR]; exact rowsQ_at (r:=k+2) (by omega)
   have eb:atL R ((k:Int)+2-1)=rwL q (k+1):=by rw [show (k:Int)+2-1=((k+1:Nat):Int) by omega,hR]; exact rowsQ_at (by omega)
   have la:(rwL q (k+2)).length=q.length:=rwL_len
   have lb:(rwL q (k+1)).length=q.length:=rwL_len
   simp (disch:=first|omega|simp only[vl];omega) only [vcd]
   refine loop_up (fun i (r:List Int)=>r.length=q.length∧∀ j:Nat,j<i→atI r j=rwQ q (k+3) j) (fun i r=>[.u,.u,.u,.n q.length,.u,.u,LL R,.n ((k:Int)+2),LI r,.u,.u,.u,.u,.u,.u,.n q.length,.n i,.u]) q.length (rep q.length 0) ⟨by simp [rep],by omega⟩ (by simp [rep]) (fun i r hi hP=>?_) (fun r hP=>?_)
   ·obtain ⟨p1,p2⟩:=hP
    have em:((i:Int)+1) % (q.length:Int)=((i+1) % q.length:Nat):=by simp [Int.natCast_emod]
    have hm:(i+1) % q.length<q.length:=Nat.mod_lt _ (by omega)
    have g1:=hgd (k+2) (by omega) i
    have g2:=hgd (k+2) (by omega) (i+1)
    have g3:=(ho k (by omega) i hi)
    have g4:=mul_bd g1 g2
    have ru:=rwQ_rule (q:=q) (r:=k+1) (i:=i) (by omega)
    have c1:atI (rwL q (k+2)) (i:Int)=rwQ q (k+2) i:=rwL_at hi
    have c2:atI (rwL q (k+2)) ((i+1) % q.length:Nat)=rwQ q (k+2) (i+1):=by rw [rwL_at hm,rwQ_mod]
    have c3:atI (rwL q (k+1)) ((i+1) % q.length:Nat)=rwQ q (k+1) (i+1):=by rw [rwL_at hm,rwQ_mod]
    generalize rwQ q (k+2) i=x1 at*
    generalize rwQ q (k+2) (i+1)=x2 at*
    have e0:x1*x2-1=rwQ q (k+1) (i+1)*rwQ q (k+3) i:=by
     have:rwQ q (k+1+2) i=rwQ q (k+3) i:=rfl
     rw [this] at ru
     omega
    have e2:(x1*x2-1).tdiv (rwQ q (k+1) (i+1))=rwQ q (k+3) i:=by rw [e0]; exact Int.mul_tdiv_cancel_left _ (by omega)
    simp (disch:=first|omega|simp only[vl];omega) only [vcd,ea,eb,em,c1,c2,c3,e2]
    refine ⟨_,⟨by rw [seI_lenQ]; exact p1,fun j hj=>?_⟩,rfl⟩
    rw [atI_se (by omega)]
    split
    ·rename_i e; rw [e]
    ·exact p2 j (by omega)
   ·have e4:r=rwL q (k+3):=extI (by rw [hP.1,rwL_len]) fun j hj=>by
     rw [hP.1] at hj
     rw [hP.2 j hj,rwL_at hj]
    simp (disch:=first|omega|simp only[vl];omega) only [vcd,ll_1,LL_appQ]
    refine ⟨_,?_,rfl⟩
    rw [e4,hR]; exact rowsQ_s.symm
  ·have e4:q.length-2+3=q.length+1:=by omega
   have hRl:R.length=q.length+1:=by rw [hR,rowsQ_len,e4]
   simp (disch:=first|omega|simp only[vl];omega) only [vcd]
   rw [e,hR,e4]
theorem isf_i [HA K] {q:List Int} (hz:fzB q=true) (hf:frP q):K 185 [LL (rowsQ q (q.length+1))] [.b true]:=by
 obtain ⟨h1,h2,h3⟩:=fzB_iff.1 hz
 have ho:=frP_ok hz hf
 have hgd:=okZ_gd hz ho
 have hRl:(rowsQ q (q.length+1)).length=q.length+1:=rowsQ_len
 have hat:∀ r:Nat,r<q.length+1→atL (rowsQ q (q.length+1)) r=rwL q r:=fun r hr=>rowsQ_at hr
 generalize rowsQ q (q.length+1)=R at*
 refine body_by (f:=ir_impl_IsFrieze) rfl ?_; simp only [ir_impl_IsFrieze,zn,zs,zq,zi,zg,zp]
 simp (disch:=first|omega|simp only[vl];omega) only [vcd]
 refine call_by (within_ok (K:=K)) rfl ?_
 have hin:inR 3 10 ((R.length:Int)-1)=true:=inR_iff.2 (by omega)
 have hn1:(R.length:Int)-1=q.length:=by omega
 simp (disch:=first|omega|simp only[vl];omega) only [vcd,hin,hn1]
 rw [hn1] at hin
 simp (disch:=first|omega|simp only[vl];omega) only [vcd,hin]
 refine loop_ix (fun _=>True) (fun r=>[LL R,.u,.n q.length,.u,.u,.u,.u,.u,.u,.u,LL R,.n R.length,.n r,.u,.u,.u,.u,.u,.u,.u,.u,.u,.u,.u,.u,.u,.u,.u,.u]) R.length trivial rfl (fun r hr _=>?_) (fun _=>?_)
 ·have hr1:=hat r (by omega)
  have hl1:(rwL q r).length=q.length:=rwL_len
  simp (disch:=first|omega|simp only[vl];omega) only [vcd,hr1]
  refine loop_ix (fun _=>True) (fun i=>[LL R,.u,.n q.length,.n r,.u,.u,.u,.u,.u,.u,LL R,.n R.length,.n r,.u,.u,LI (rwL q r),.n q.length,.n i,.u,.u,.u,.u,.u,.u,.u,.u,.u,.u,.u]) q.length trivial (by rw [hl1]; rfl) (fun i hi _=>?_) (fun _=>?_)
  ·have c1:atI (rwL q r) i=rwQ q r i:=rwL_at hi
   obtain ⟨q1,q2,q3⟩:=hf r (by omega) i hi
   have q4:=within_ok (K:=K) (x:=rwQ q r i) (a:=1) (b:=100000)
   rcases (show r=0∨r=q.length∨r=1∨r+1=q.length∧1<r∨1<r∧r+1<q.length by omega) with e | e | e | e | e
   ·have hx:rwQ q r i=0:=by rw [e]; rfl
    simp (disch:=first|omega|simp only[vl];omega) only [vcd,hr1,c1,hx]
   ·have hx:=q1 e
    simp (disch:=first|omega|simp only[vl];omega) only [vcd,hr1,c1,hx]
   ·have hx:rwQ q r i=1:=by rw [e]; rfl
    simp (disch:=first|omega|simp only[vl];omega) only [vcd,hr1,c1,hx]
   ·have hx:=q3 e.1
    simp (disch:=first|omega|simp only[vl];omega) only [vcd,hr1,c1,hx]
   ·have hx:=inR_iff.2 (q2 (by omega) (by omega))
    rw [hx] at q4
    simp (disch:=first|omega|simp only[vl];omega) only [vcd,hr1,c1]
    refine call_by (q4) rfl ?_
    simp (disch:=first|omega|simp only[vl];omega) only [vcd]
  ·simp (disch:=first|omega|simp only[vl];omega) only [vcd]
 ·simp (disch:=first|omega|simp only[vl];omega) only [vcd]
  refine loop_ix (fun _=>True) (fun r=>[LL R,.u,.n q.length,.u,.u,.u,.n ((r:Int)+1),.u,.u,.u,.u,.u,.u,.u,.u,.u,.u,.u,.u,.u,.u,.u,.u,.u,.u,.u,.u,.u,.u]) (q.length-1) trivial rfl (fun r hr _=>?_) (fun _=>?_)
  ·simp (disch:=first|omega|simp only[vl];omega) only [vcd]
   refine loop_ix (fun _=>True) (fun i=>[LL R,.u,.n q.length,.u,.u,.u,.n ((r:Int)+1),.u,.u,.u,.u,.u,.u,.u,.u,.u,.u,.u,.u,.u,.u,.u,.u,.u,.u,.n q.length,.n i,.u,.u]) q.length trivial rfl (fun i hi _=>?_) (fun _=>?_)
   ·have r1:atL R ((r:Int)+1)=rwL q (r+1):=hat (r+1) (by omega)
    have r0:atL R ((r:Int)+1-1)=rwL q r:=by rw [show (r:Int)+1-1=r by omega]; exact hat r (by omega)
    have r2:atL R ((r:Int)+1+1)=rwL q (r+2):=hat (r+2) (by omega)
    have l0:(rwL q r).length=q.length:=rwL_len
    have l1:(rwL q (r+1)).length=q.length:=rwL_len
    have l2:(rwL q (r+2)).length=q.length:=rwL_len
    have em:((i:Int)+1) % (q.length:Int)=((i+1) % q.length:Nat):=by simp [Int.natCast_emod]
    have hm:(i+1) % q.length<q.length:=Nat.mod_lt _ (by omega)
    have c1:atI (rwL q (r+1)) i=rwQ q (r+1) i:=rwL_at hi
    have c2:atI (rwL q (r+1)) ((i+1) % q.length:Nat)=rwQ q (r+1) (i+1):=by rw [rwL_at hm,rwQ_mod]
    have c3:atI (rwL q r) ((i+1) % q.length:Nat)=rwQ q r (i+1):=by rw [rwL_at hm,rwQ_mod]
    have c4:atI (rwL q (r+2)) i=rwQ q (r+2) i:=rwL_at hi
    have ru:=rwQ_rule (q:=q) (r:=r) (i:=i) (by omega)
    have m1:=mul_bd (hgd (r+1) (by omega) i) (hgd (r+1) (by omega) (i+1))
    have m2:=mul_bd (hgd r (by omega) (i+1)) (hgd (r+2) (by omega) i)
    simp (disch:=first|omega|simp only[vl];omega) only [vcd,r1,r0,r2,em,c1,c2,c3,c4]
   ·simp (disch:=first|omega|simp only[vl];omega) only [vcd]
  ·simp (disch:=first|omega|simp only[vl];omega) only [vcd]
theorem sum_i [HA K] {R:List (List Int)} (h:smR R) (hf:K 185 [LL R] [.b true]):K 144 [LL R] [.n (suF R)]:=by
 have hl:=h.1
 refine body_by (f:=ir_impl_SumOfFrieze) rfl ?_; simp only [ir_impl_SumOfFrieze,zn,zs,zq,zi,zg,zp]
 simp (disch:=first|omega|simp only[vl];omega) only [vcd]
 refine call_by (hf) rfl ?_
 simp (disch:=first|omega|simp only[vl];omega) only [vcd]
 refine loop_up (fun r (x:Int)=>x=suF (R.take r)) (fun r x=>[.u,.u,.n x,.u,.u,.u,LL R,.n R.length,.n r,.u,.u,.u,.u,.u]) R.length 0 rfl rfl (fun r x hr hP=>?_) (fun x hP=>?_)
 ·have hm:=h.2 _ (atL_memQ hr)
  have hs:=suF_take hr
  have b0:=smR_su h r
  simp (disch:=first|omega|simp only[vl];omega) only [vcd]
  refine loop_up (fun i (y:Int)=>y=x+((atL R r).take i).sum) (fun i y=>[.u,.u,.n y,.u,.u,.u,LL R,.n R.length,.n r,.u,LI (atL R r),.n (atL R r).length,.n i,.u]) (atL R r).length x (by simp) rfl (fun i y hi hQ=>?_) (fun y hQ=>?_)
  ·have ht:=sum_take hi
   have b1:=smR_row (r:=(atL R r).take i) ⟨by simp; omega,fun x hx=>hm.2 x (List.mem_of_mem_take hx)⟩
   have b2:=hm.2 _ (atI_memQ hi)
   simp (disch:=first|omega|simp only[vl];omega) only [vcd]
   refine ⟨_,?_,rfl⟩
   rw [ht,hQ]; omega
  ·rw [List.take_of_length_le (by omega)] at hQ
   simp (disch:=first|omega|simp only[vl];omega) only [vcd]
   refine ⟨_,?_,rfl⟩
   rw [hs,hQ,hP]
 ·simp (disch:=first|omega|simp only[vl];omega) only [vcd]
  rw [hP,List.take_of_length_le (by omega)]
theorem rowsQ_sm {q:List Int} (hz:fzB q=true) (hf:frP q):smR (rowsQ q (q.length+1)):=by
 obtain ⟨h1,h2,h3⟩:=fzB_iff.1 hz
 have hgd:=okZ_gd hz (frP_ok hz hf)
 refine ⟨by rw [rowsQ_len]; omega,fun r hr=>?_⟩
 simp only [rowsQ,List.mem_map,List.mem_range] at hr
 obtain ⟨k,hk,rfl⟩:=hr
 refine ⟨by rw [rwL_len]; omega,fun x hx=>?_⟩
 simp only [rwL,List.mem_map,List.mem_range] at hx
 obtain ⟨i,hi,rfl⟩:=hx
 exact hgd k hk i
end Go.Cat
