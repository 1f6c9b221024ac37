/-
 Chains: CountChains of both sides.
-/
import Derived.Test.YtjbonmaggidboaaPfKrK
set_option linter.unusedSimpArgs false
set_option linter.unusedVariables false
namespace Go.Cat
variable {K:Nat→List D→List D→Prop}
def ccI (all:List (List Int)) (many:List Int) (i j:Nat) (nx:List Int):List Int:=if fiF (atL all j) (atL all i)=true then seI nx i (atI nx i+atI many j) else nx
def ccR (all:List (List Int)) (many:List Int) (i:Nat) (nx:List Int):List Int:=iter (ccI all many i) all.length nx
def ccS (all:List (List Int)) (many:List Int):List Int:=iter (ccR all many) all.length (rep all.length 0)
def ccM (all:List (List Int)) (k:Nat):List Int:=iter (fun _=>ccS all) k (rep all.length 1)
def ccT (many:List Int):Int:=iter (fun i t=>t+atI many i) many.length 0
def pw14:Nat→Int
 | 0=>1
 | k+1=>14*pw14 k
def bdK (B:Int) (i j m:Nat) (nx:List Int):Prop:=nx.length=m∧∀ a:Nat,a<m→0≤atI nx a∧atI nx a≤(if a<i then 14*B else if a=i then (j:Int)*B else 0)
theorem bd_step {all:List (List Int)} {many nx:List Int} {B:Int} {i j m:Nat} (h0:0≤B) (h:bdK B i j m nx) (hm:∀ a:Nat,a<m→0≤atI many a∧atI many a≤B) (hj:j<m) (hi:i<m):bdK B i (j+1) m (ccI all many i j nx):=by
 have e:((j+1:Nat):Int)*B=(j:Int)*B+B:=by rw [Int.natCast_add,Int.add_mul]; simp
 have hmj:=hm j hj
 obtain ⟨h1,h2⟩:=h
 unfold ccI
 split
 ·refine ⟨by rw [seI_len]; exact h1,fun a ha=>?_⟩
  have:=h2 a ha
  rw [atI_seK (by omega),e]
  generalize (j:Int)*B=c at this
  by_cases ea:a=i
  ·subst ea
   simp only [Nat.lt_irrefl,if_false,if_true] at this ⊢
   omega
  ·simp only [ea,if_false] at this ⊢
   exact this
 ·refine ⟨h1,fun a ha=>?_⟩
  have:=h2 a ha
  rw [e]
  generalize (j:Int)*B=c at this
  by_cases ea:a=i
  ·subst ea
   simp only [Nat.lt_irrefl,if_false,if_true] at this ⊢
   omega
  ·simp only [ea,if_false] at this ⊢
   exact this
theorem bd_next {nx:List Int} {B:Int} {i m:Nat} (h0:0≤B) (hm:m≤14) (h:bdK B i m m nx):bdK B (i+1) 0 m nx:=by
 refine ⟨h.1,fun a ha=>?_⟩
 have:=h.2 a ha
 have hmb:(m:Int)*B≤14*B:=Int.mul_le_mul_of_nonneg_right (by omega) h0
 by_cases ea:a<i
 ·simp only [ea,if_true] at this
  have:a<i+1:=by omega
  simp only [this,if_true]
  omega
 ·by_cases eb:a=i
  ·subst eb
   simp only [Nat.lt_irrefl,if_false,if_true] at this
   have:a<a+1:=by omega
   simp only [this,if_true]
   omega
  ·simp only [ea,eb,if_false] at this
   have q:¬ a<i+1:=by omega
   simp only [q,if_false]
   split
   ·simp; omega
   ·omega
theorem bd_row {all:List (List Int)} {many nx:List Int} {B:Int} {i m:Nat} (h0:0≤B) (h:bdK B i 0 m nx) (hm:∀ a:Nat,a<m→0≤atI many a∧atI many a≤B) (hi:i<m):∀ {j:Nat},j≤m→bdK B i j m (iter (ccI all many i) j nx)
 | 0,_=>h
 | j+1,hj=>bd_step h0 (bd_row h0 h hm hi (by omega)) hm (by omega) hi
theorem bd_all {all:List (List Int)} {many:List Int} {B:Int} {m:Nat} (h0:0≤B) (h14:m≤14) (hl:all.length=m) (hm:∀ a:Nat,a<m→0≤atI many a∧atI many a≤B):∀ {i:Nat},i≤m→bdK B i 0 m (iter (ccR all many) i (rep m 0))
 | 0,_=>⟨by simp [iter,rep],fun a ha=>by
  have e:atI (rep (m:Int) 0) a=0:=rep_atI
  rw [iter,e]; simp⟩
 | i+1,hi=>by
  have h:=bd_row (all:=all) h0 (bd_all h0 h14 hl hm (i:=i) (by omega)) hm (by omega) (Nat.le_refl m)
  rw [iter,ccR,hl]
  exact bd_next h0 h14 h
theorem bd_fin {nx:List Int} {B:Int} {m:Nat} (h:bdK B m 0 m nx) {a:Nat} (ha:a<m):0≤atI nx a∧atI nx a≤14*B:=by
 have:=h.2 a ha
 simpa only [ha,if_true] using this
theorem pw14_pos:∀ k,1≤pw14 k
 | 0=>by simp [pw14]
 | k+1=>by have:=pw14_pos k; simp only [pw14]; omega
theorem ccM_bd {all:List (List Int)} (h14:all.length≤14):∀ k:Nat,(ccM all k).length=all.length∧∀ a:Nat,a<all.length→0≤atI (ccM all k) a∧atI (ccM all k) a≤pw14 k
 | 0=>⟨by simp [ccM,iter,rep],fun a ha=>by
  have e:atI (rep (all.length:Int) 1) a=1:=by simp [rep,atI,ha]
  show 0≤atI (rep (all.length:Int) 1) a∧atI (rep (all.length:Int) 1) a≤1
  rw [e]; omega⟩
 | k+1=>by
  obtain ⟨h1,h2⟩:=ccM_bd h14 k
  have h0:=pw14_pos k
  have h:=bd_all (all:=all) (many:=ccM all k) (B:=pw14 k) (by omega) h14 rfl h2 (Nat.le_refl _)
  exact ⟨h.1,fun a ha=>bd_fin h ha⟩
theorem ccT_bd {many:List Int} {B:Int} {m:Nat} (h0:0≤B) (hm:∀ a:Nat,a<m→0≤atI many a∧atI many a≤B):∀ {i:Nat},i≤m→0≤iter (fun i t=>t+atI many i) i 0∧iter (fun i t=>t+atI many i) i 0≤(i:Int)*B
 | 0,_=>by simp [iter]
 | i+1,h=>by
  have h1:=ccT_bd h0 hm (i:=i) (by omega)
  have h2:=hm i (by omega)
  have e:((i+1:Nat):Int)*B=(i:Int)*B+B:=by rw [Int.natCast_add,Int.add_mul]; simp
  rw [e,iter]
  generalize (i:Int)*B=c at h1
  omega
theorem ncL_14 {n:Nat} (h:n<5):(ncL n).length≤14:=by
 have:allB 5 (fun n=>decide ((pathsR n).length≤14))=true:=by kernel_rfl
 have:=allB_spec this n h
 rw [ncL_len]
 simpa using this
theorem pw14_le {k:Nat} (h:k≤5):pw14 k≤537824:=by
 match k,h with
 | 0,_ | 1,_ | 2,_ | 3,_ | 4,_ | 5,_=>simp [pw14]
 | k+6,h=>exact absurd h (by omega)
theorem iter_ones {m:Nat}:∀ {i:Nat},i≤m→iter (fun i s=>seI s i 1) i (rep (m:Int) 0)=List.replicate i 1++List.replicate (m-i) 0
 | 0,_=>by simp [iter,rep]
 | i+1,h=>by
  rw [iter,iter_ones (by omega)]
  have e:m-i=(m-(i+1))+1:=by omega
  rw [e,List.replicate_succ]
  simp only [seI,qtn]
  rw [List.set_append_right _ _ (by simp)]
  simp [List.replicate_succ']
def ckT (n k:Nat):Int:=ccT (ccM (ncL n) (k-1))
theorem ckn_i [HA K] {n k:Nat} (hn:n<5) (hk:1≤k∧k≤5):K 446 [.n n,.n k] [.n (ckT n k)]:=by
 have h14:=ncL_14 hn
 have hM:=fun k=>ccM_bd h14 k
 have hmem:∀ i:Nat,i<(ncL n).length→(atL (ncL n) i).length=n:=fun i hi=>(ncL_mem (by omega) (atL_in hi)).2.1
 have i1:inR 0 4 (n:Int)=true:=inR_iff.2 (by omega)
 have i2:inR 1 5 (k:Int)=true:=inR_iff.2 (by omega)
 refine body_by (f:=ir_impl_CountChains) rfl ?_; simp only [ir_impl_CountChains,zn,zs,zq,zi,zg,zp]
 simp (disch:=first|omega|simp only[vl];omega) only [vcd]
 refine call_by (within_ok (K:=K)) rfl ?_
 simp (disch:=first|omega|simp only[vl];omega) only [vcd,i1]
 refine call_by (within_ok (K:=K)) rfl ?_
 simp (disch:=first|omega|simp only[vl];omega) only [vcd,i2]
 refine call_by (ncr_i (K:=K) (n:=n) (by omega)) rfl ?_
 unfold ckT
 generalize ncL n=l at h14 hM hmem
 simp (disch:=first|omega|simp only[vl];omega) only [vcd]
 refine loop_fold (fun i s=>seI s i 1) (fun _ s=>s.length=l.length) (fun i s=>[.u,.n k,.u,LL l,LI s,.u,.u,.u,.u,.u,.u,.u,.u,.u,.u,.n l.length,.n i,.u,.u,.u,.u,.u,.u,.u,.u,.u,.u,.u,.u,.u,.u,.u]) l.length (rep l.length 0) (by simp [rep]) (by simp) (fun i s hi h=>by simp [seI,h]) (fun i s hi hP hs=>?_) (fun s hs hP=>?_)
 ·simp (disch:=first|omega|simp only[vl];omega) only [vcd]
 ·rw [iter_ones (Nat.le_refl _)] at hs
  have hs:s=ccM l 0:=by rw [hs]; simp [ccM,iter,rep]
  simp (disch:=first|omega|simp only[vl];omega) only [vcd]
  refine loop_fold (fun _=>ccS l) (fun _ _=>True) (fun t s=>[.u,.n k,.u,LL l,LI s,.u,.n ((t:Int)+1),.u,.u,.u,.u,.u,.u,.u,.u,.u,.u,.u,.u,.u,.u,.u,.u,.u,.u,.u,.u,.u,.u,.u,.u,.u]) (k-1) s trivial rfl (fun _ _ _ _=>trivial) (fun t many ht _ hm=>?_) (fun many hm _=>?_)
  ·have hm:many=ccM l t:=by rw [hm,hs]; rfl
   obtain ⟨b1,b2⟩:=hM t
   rw [← hm] at b1 b2
   have hp:=pw14_le (k:=t) (by omega)
   have hp0:=pw14_pos t
   have ba:=fun i=>bd_all (all:=l) (many:=many) (B:=pw14 t) (m:=l.length) (by omega) h14 rfl b2 (i:=i)
   generalize pw14 t=B at hp hp0 b2 ba
   simp (disch:=first|omega|simp only[vl];omega) only [vcd]
   refine loop_fold (ccR l many) (fun i s=>bdK B i 0 l.length s) (fun i s=>[.u,.n k,.u,LL l,LI many,.u,.n ((t:Int)+1),LI s,.u,.u,.u,.u,.u,.u,.u,.u,.u,.u,.u,LL l,.n l.length,.n i,.u,.u,.u,.u,.u,.u,.u,.u,.u,.u]) l.length (rep l.length 0) (ba 0 (by omega)) (by simp) (fun i s hi h=>bd_next (by omega) h14 (bd_row (by omega) h b2 hi (Nat.le_refl _))) (fun i s hi hP hs=>?_) (fun s hs hP=>?_)
   ·simp (disch:=first|omega|simp only[vl];omega) only [vcd]
    refine loop_fold (ccI l many i) (fun j s=>bdK B i j l.length s) (fun j s=>[.u,.n k,.u,LL l,LI many,.u,.n ((t:Int)+1),LI s,.n i,LI (atL l i),.u,.u,.u,.u,.u,.u,.u,.u,.u,LL l,.n l.length,.n i,.u,LL l,.n l.length,.n j,.u,.u,.u,.u,.u,.u]) l.length s hP rfl (fun j s hj h=>bd_step (by omega) h b2 hj hi) (fun j s hj hP hs=>?_) (fun s hs hP=>?_)
    ·have g1:=hmem i hi
     have g2:=hmem j hj
     have g3:=b2 j hj
     have g4:=hP.2 i hi
     simp only [Nat.lt_irrefl,if_false,if_true] at g4
     have g5:(j:Int)*B≤14*B:=Int.mul_le_mul_of_nonneg_right (by omega) (by omega)
     have g6:=hP.1
     have e:ccI l many i j s=if fiF (atL l j) (atL l i)=true then seI s i (atI s i+atI many j) else s:=rfl
     rw [e]
     simp (disch:=first|omega|simp only[vl];omega) only [vcd]
     refine call_by (fin_i (K:=K) (p:=atL l j) (q:=atL l i) (by omega) (by omega)) rfl ?_
     cases c:fiF (atL l j) (atL l i)
     ·simp (disch:=first|omega|simp only[vl];omega) only [vcd]
      simp
     ·simp (disch:=first|omega|simp only[vl];omega) only [vcd]
    ·simp (disch:=first|omega|simp only[vl];omega) only [vcd]
     rw [hs]; rfl
   ·simp (disch:=first|omega|simp only[vl];omega) only [vcd]
    rw [hs]; rfl
  ·have hm:many=ccM l (k-1):=by rw [hm,hs]; rfl
   obtain ⟨b1,b2⟩:=hM (k-1)
   rw [← hm] at b1 b2
   have hp:=pw14_le (k:=k-1) (by omega)
   have hp0:=pw14_pos (k-1)
   rw [← hm]
   have bt:=fun i=>ccT_bd (many:=many) (B:=pw14 (k-1)) (m:=l.length) (by omega) b2 (i:=i)
   simp (disch:=first|omega|simp only[vl];omega) only [vcd]
   refine loop_fold (fun i t=>t+atI many i) (fun _ _=>True) (fun i t=>[.u,.u,.u,.u,.u,.u,.u,.u,.u,.u,.u,.u,.n t,.u,.u,.u,.u,.u,.u,.u,.u,.u,.u,.u,.u,.u,.u,.u,LI many,.n many.length,.n i,.u]) many.length 0 trivial rfl (fun _ _ _ _=>trivial) (fun i t hi _ ht=>?_) (fun t ht _=>?_)
   ·have g1:=bt i (by omega)
    have g2:=b2 i (by omega)
    have g5:(i:Int)*pw14 (k-1)≤14*pw14 (k-1):=Int.mul_le_mul_of_nonneg_right (by omega) (by omega)
    rw [← ht] at g1
    generalize (i:Int)*pw14 (k-1)=c at g1 g5
    simp (disch:=first|omega|simp only[vl];omega) only [vcd]
   ·simp (disch:=first|omega|simp only[vl];omega) only [vcd]
    rw [ht]; rfl
theorem ckn_s [HA K] {n k:Nat} (hn:n<5) (hk:1≤k∧k≤5):K 447 [.n n,.n k] [.n (ckT n k)]:=by
 have h14:=ncL_14 hn
 have hM:=fun k=>ccM_bd h14 k
 have hmem:∀ i:Nat,i<(ncL n).length→(atL (ncL n) i).length=n:=fun i hi=>(ncL_mem (by omega) (atL_in hi)).2.1
 have i1:inR 0 4 (n:Int)=true:=inR_iff.2 (by omega)
 have i2:inR 1 5 (k:Int)=true:=inR_iff.2 (by omega)
 have hll:=ncL_len (n:=n)
 refine body_by (f:=ir_spec_CountChains) rfl ?_; simp only [ir_spec_CountChains,zn,zs,zq,zi,zg,zp]
 simp (disch:=first|omega|simp only[vl];omega) only [vcd]
 refine call_by (l1In_ok (K:=K)) rfl ?_
 simp (disch:=first|omega|simp only[vl];omega) only [vcd,i1]
 refine call_by (l1In_ok (K:=K)) rfl ?_
 simp (disch:=first|omega|simp only[vl];omega) only [vcd,i2]
 refine call_by (pl_s (K:=K) (n:=n) (by omega)) rfl ?_
 simp (disch:=first|omega|simp only[vl];omega) only [vcd]
 refine loop_ix (fun _=>True) (fun i=>[.u,.n k,.u,LS (pathsR n),LL ((ncL n).take i),LI (List.replicate i 1),.n i,.u,.u,.u,.u,.u,.u,.u,.u,.u,.u,.u,.u,.u,.u]) (pathsR n).length trivial rfl (fun i hi _=>?_) (fun _=>?_)
 ·obtain ⟨g1,g2,g3⟩:=pathsR_in (n:=n) (by omega) (i:=i) (by omega)
  have gl:((ncL n).take i).length≤42:=by simp; omega
  have g4:(List.replicate i (1:Int)).length=i:=by simp
  simp (disch:=first|omega|simp only[vl];omega) only [vcd]
  refine call_by (ptn_s (K:=K) g1) rfl ?_
  rw [g2]
  simp (disch:=first|omega|simp only[vl];omega) only [vcd,LL_appB]
  have e:List.replicate i (1:Int)++[1]=1::List.replicate i 1:=List.replicate_succ'.symm.trans List.replicate_succ
  rw [take_ncL (by omega),e]
 ·rw [← hll,List.take_length]
  unfold ckT
  generalize ncL n=l at h14 hM hmem hll
  obtain ⟨s,hs⟩:∃ s:List Int,s=List.replicate l.length 1:=⟨_,rfl⟩
  have hs0:s=ccM l 0:=by rw [hs]; simp [ccM,iter,rep]
  rw [← hs]
  simp (disch:=first|omega|simp only[vl];omega) only [vcd]
  refine loop_fold (fun _=>ccS l) (fun _ _=>True) (fun t s=>[.u,.n k,.u,.u,LL l,LI s,.u,.u,.n ((t:Int)+1),.u,.u,.u,.u,.u,.u,.u,.u,.u,.u,.u,.u]) (k-1) s trivial rfl (fun _ _ _ _=>trivial) (fun t many ht _ hm=>?_) (fun many hm _=>?_)
  ·have hm:many=ccM l t:=by rw [hm,hs0]; rfl
   obtain ⟨b1,b2⟩:=hM t
   rw [← hm] at b1 b2
   have hp:=pw14_le (k:=t) (by omega)
   have hp0:=pw14_pos t
   have ba:=fun i=>bd_all (all:=l) (many:=many) (B:=pw14 t) (m:=l.length) (by omega) h14 rfl b2 (i:=i)
   generalize pw14 t=B at hp hp0 b2 ba
   simp (disch:=first|omega|simp only[vl];omega) only [vcd]
   refine loop_fold (ccR l many) (fun i s=>bdK B i 0 l.length s) (fun i s=>[.u,.n k,.u,.u,LL l,LI many,.u,.u,.n ((t:Int)+1),LI s,.n i,.u,.u,.u,.u,.u,.u,.u,.u,.u,.u]) l.length (rep l.length 0) (ba 0 (by omega)) (by simp) (fun i s hi h=>bd_next (by omega) h14 (bd_row (by omega) h b2 hi (Nat.le_refl _))) (fun i s hi hP hs=>?_) (fun s hs hP=>?_)
   ·simp (disch:=first|omega|simp only[vl];omega) only [vcd]
    refine loop_fold (ccI l many i) (fun j s=>bdK B i j l.length s) (fun j s=>[.u,.n k,.u,.u,LL l,LI many,.u,.u,.n ((t:Int)+1),LI s,.n i,.n j,.u,.u,.u,.u,.u,.u,.u,.u,.u]) l.length s hP rfl (fun j s hj h=>bd_step (by omega) h b2 hj hi) (fun j s hj hP hs=>?_) (fun s hs hP=>?_)
    ·have g1:=hmem i hi
     have g2:=hmem j hj
     have g3:=b2 j hj
     have g4:=hP.2 i hi
     simp only [Nat.lt_irrefl,if_false,if_true] at g4
     have g5:(j:Int)*B≤14*B:=Int.mul_le_mul_of_nonneg_right (by omega) (by omega)
     have g6:=hP.1
     have e:ccI l many i j s=if fiF (atL l j) (atL l i)=true then seI s i (atI s i+atI many j) else s:=rfl
     rw [e]
     simp (disch:=first|omega|simp only[vl];omega) only [vcd]
     refine call_by (fin_s (K:=K) (p:=atL l j) (q:=atL l i) (by omega) (by omega)) rfl ?_
     cases c:fiF (atL l j) (atL l i)
     ·simp (disch:=first|omega|simp only[vl];omega) only [vcd]
      simp
     ·simp (disch:=first|omega|simp only[vl];omega) only [vcd]
    ·simp (disch:=first|omega|simp only[vl];omega) only [vcd]
     rw [hs]; rfl
   ·simp (disch:=first|omega|simp only[vl];omega) only [vcd]
    rw [hs]; rfl
  ·have hm:many=ccM l (k-1):=by rw [hm,hs0]; rfl
   obtain ⟨b1,b2⟩:=hM (k-1)
   rw [← hm] at b1 b2
   have hp:=pw14_le (k:=k-1) (by omega)
   have hp0:=pw14_pos (k-1)
   rw [← hm]
   have bt:=fun i=>ccT_bd (many:=many) (B:=pw14 (k-1)) (m:=l.length) (by omega) b2 (i:=i)
   simp (disch:=first|omega|simp only[vl];omega) only [vcd]
   refine loop_fold (fun i t=>t+atI many i) (fun _ _=>True) (fun i t=>[.u,.u,.u,.u,.u,LI many,.u,.u,.u,.u,.u,.u,.n t,.n i,.u,.u,.u,.u,.u,.u,.u]) many.length 0 trivial rfl (fun _ _ _ _=>trivial) (fun i t hi _ ht=>?_) (fun t ht _=>?_)
   ·have g1:=bt i (by omega)
    have g2:=b2 i (by omega)
    have g5:(i:Int)*pw14 (k-1)≤14*pw14 (k-1):=Int.mul_le_mul_of_nonneg_right (by omega) (by omega)
    rw [← ht] at g1
    generalize (i:Int)*pw14 (k-1)=c at g1 g5
    simp (disch:=first|omega|simp only[vl];omega) only [vcd]
   ·simp (disch:=first|omega|simp only[vl];omega) only [vcd]
    rw [ht]; rfl
theorem ckn_i0 [HA K] {n k:Int} (h:¬ ((0≤n∧n≤4)∧1≤k∧k≤5)):K 446 [.n n,.n k] [.n (-1)]:=by
 refine body_by (f:=ir_impl_CountChains) rfl ?_; simp only [ir_impl_CountChains,zn,zs,zq,zi,zg,zp]
 simp (disch:=first|omega|simp only[vl];omega) only [vcd]
 refine call_by (within_ok (K:=K)) rfl ?_
 by_cases h1:0≤n∧n≤4
 ·have i1:inR 0 4 n=true:=inR_iff.2 h1
  have i2:inR 1 5 k=false:=inR_f.2 (fun q=>h ⟨h1,q⟩)
  simp (disch:=first|omega|simp only[vl];omega) only [vcd,i1]
  refine call_by (within_ok (K:=K)) rfl ?_
  simp (disch:=first|omega|simp only[vl];omega) only [vcd,i2]
 ·have i1:inR 0 4 n=false:=inR_f.2 h1
  simp (disch:=first|omega|simp only[vl];omega) only [vcd,i1]
theorem ckn_s0 [HA K] {n k:Int} (h:¬ ((0≤n∧n≤4)∧1≤k∧k≤5)):K 447 [.n n,.n k] [.n (-1)]:=by
 refine body_by (f:=ir_spec_CountChains) rfl ?_; simp only [ir_spec_CountChains,zn,zs,zq,zi,zg,zp]
 simp (disch:=first|omega|simp only[vl];omega) only [vcd]
 refine call_by (l1In_ok (K:=K)) rfl ?_
 by_cases h1:0≤n∧n≤4
 ·have i1:inR 0 4 n=true:=inR_iff.2 h1
  have i2:inR 1 5 k=false:=inR_f.2 (fun q=>h ⟨h1,q⟩)
  simp (disch:=first|omega|simp only[vl];omega) only [vcd,i1]
  refine call_by (l1In_ok (K:=K)) rfl ?_
  simp (disch:=first|omega|simp only[vl];omega) only [vcd,i2]
 ·have i1:inR 0 4 n=false:=inR_f.2 h1
  simp (disch:=first|omega|simp only[vl];omega) only [vcd,i1]
