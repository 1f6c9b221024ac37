/-
 The lists of all, and MoebiusOf of both sides.
-/
import Derived.Test.YtjbonmaggidboaaPfKrI
set_option linter.unusedSimpArgs false
set_option linter.unusedVariables false
namespace Go.Cat
variable {K:Nat→List D→List D→Prop}
theorem ncL_len {n:Nat}:(ncL n).length=(pathsR n).length:=by simp [ncL]
theorem pathsR_in {n:Nat} (hn:n<6) {i:Nat} (hi:i<(ncL n).length):dyck (atS (pathsR n) i)=true∧ptn (atS (pathsR n) i)=atL (ncL n) i∧(atS (pathsR n) i).length≤10:=by
 rw [ncL_len] at hi
 have hm:atS (pathsR n) i∈pathsR n:=atS_mem hi
 have hd:=(paths_mem (by omega)).1 hm
 refine ⟨hd.1,?_,by omega⟩
 rw [ptnC_eq hd.1]
 simp [atL,atS,ncL,hi]
theorem take_ncL {n i:Nat} (hi:i<(ncL n).length):(ncL n).take (i+1)=(ncL n).take i++[atL (ncL n) i]:=by
 rw [qta hi]
 simp [atL,hi]
theorem LL_nilJ:D.l []=LL []:=rfl
theorem ncr_i [HA K] {n:Nat} (hn:n<6):K 486 [.n n] [LL (ncL n)]:=by
 have h42:=ncL_42 hn
 have hl:=ncL_len (n:=n)
 refine body_by (f:=ir_impl_noncrossing) rfl ?_; simp only [ir_impl_noncrossing,zn,zs,zq,zi,zg,zp]
 simp (disch:=first|omega|simp only[vl];omega) only [vcd]
 refine call_by (ap_i (K:=K) (n:=n) (by omega)) rfl ?_
 simp (disch:=first|omega|simp only[vl];omega) only [vcd]
 rw [LL_nilJ]
 refine loop_ix (fun _=>True) (fun i=>[.u,.u,LL ((ncL n).take i),.u,.u,LS (pathsR n),.n (pathsR n).length,.n i,.u]) (pathsR n).length trivial (by simp) (fun i hi _=>?_) (fun _=>?_)
 ·obtain ⟨g1,g2,g3⟩:=pathsR_in hn (i:=i) (by omega)
  have gl:((ncL n).take i).length≤42:=by simp; omega
  simp (disch:=first|omega|simp only[vl];omega) only [vcd]
  refine call_by ((ptn_ok (K:=K) g1).1) rfl ?_
  rw [g2]
  simp (disch:=first|omega|simp only[vl];omega) only [vcd,LL_appB]
  rw [take_ncL (by omega)]
 ·simp (disch:=first|omega|simp only[vl];omega) only [vcd]
  rw [← hl,List.take_length]
noncomputable def mbR (p q:List Int):Int×Bool:=if ncF p=true∧ncF q=true∧p.length=q.length∧p.length≤5 then (if fiF p q=true then (mbV (ncL p.length) 6 p q,true) else (0,true)) else (0,false)
theorem mbo_i [HA K] {p q:List Int} (h1:p.length≤1099511627776) (h2:q.length≤1099511627776):K 444 [LI p,LI q] [.n (mbR p q).1,.b (mbR p q).2]:=by
 have k1:=nc_i (K:=K) (p:=p) h1
 have k2:=nc_i (K:=K) (p:=q) h2
 refine body_by (f:=ir_impl_MoebiusOf) rfl ?_; simp only [ir_impl_MoebiusOf,zn,zs,zq,zi,zg,zp]
 simp (disch:=first|omega|simp only[vl];omega) only [vcd]
 cases hp:ncF p
 ·rw [hp] at k1
  refine call_by (k1) rfl ?_
  simp (disch:=first|omega|simp only[vl];omega) only [vcd]
  simp [mbR,hp]
 ·rw [hp] at k1
  refine call_by (k1) rfl ?_
  simp (disch:=first|omega|simp only[vl];omega) only [vcd]
  cases hq:ncF q
  ·rw [hq] at k2
   refine call_by (k2) rfl ?_
   simp (disch:=first|omega|simp only[vl];omega) only [vcd]
   simp [mbR,hq]
  ·rw [hq] at k2
   refine call_by (k2) rfl ?_
   simp (disch:=first|omega|simp only[vl];omega) only [vcd]
   by_cases hl:p.length=q.length
   ·by_cases h5:p.length≤5
    ·have gp:=mem_ncL hp h5
     have gq:q∈ncL p.length:=by rw [hl]; exact mem_ncL hq (by omega)
     have gr:=ncL_mem (by omega) gq
     simp (disch:=first|omega|simp only[vl];omega) only [vcd]
     refine call_by (fin_i (K:=K) (p:=p) (q:=q) (by omega) (by omega)) rfl ?_
     cases hf:fiF p q
     ·simp (disch:=first|omega|simp only[vl];omega) only [vcd]
      have h5':q.length≤5:=by omega
      simp [mbR,hp,hq,hl,hf,h5']
     ·simp (disch:=first|omega|simp only[vl];omega) only [vcd]
      refine call_by (ncr_i (K:=K) (n:=p.length) (by omega)) rfl ?_
      simp (disch:=first|omega|simp only[vl];omega) only [vcd]
      refine call_by (mb_i (K:=K) (n:=p.length) (by omega) gp (f:=6) (by omega) gq (by omega)) rfl ?_
      simp (disch:=first|omega|simp only[vl];omega) only [vcd]
      have h5':q.length≤5:=by omega
      simp [mbR,hp,hq,hl,hf,h5']
    ·simp (disch:=first|omega|simp only[vl];omega) only [vcd]
     simp [mbR,h5]
   ·simp (disch:=first|omega|simp only[vl];omega) only [vcd]
    simp [mbR,hl]
def bwL (p q:List Int) (all:List (List Int)):List (List Int):=all.filter fun r=>fiF p r&&fiF r q
theorem bw_s [HA K] {p q:List Int} {n:Nat} (hn:n<6) (hp:p.length=n) (hq:q.length=n):K 487 [LI p,LI q] [LL (bwL p q (ncL n))]:=by
 have h42:=ncL_42 hn
 have hl:=ncL_len (n:=n)
 refine body_by (f:=ir_spec_l19Between) rfl ?_; simp only [ir_spec_l19Between,zn,zs,zq,zi,zg,zp]
 simp (disch:=first|omega|simp only[vl];omega) only [vcd]
 rw [hp]
 refine call_by (pl_s (K:=K) (n:=n) (by omega)) rfl ?_
 simp (disch:=first|omega|simp only[vl];omega) only [vcd]
 rw [LL_nilJ]
 refine loop_ix (fun _=>True) (fun i=>[LI p,LI q,.u,LL (bwL p q ((ncL n).take i)),LS (pathsR n),.n i,.u,.u,.u]) (pathsR n).length trivial (by simp [bwL]) (fun i hi _=>?_) (fun _=>?_)
 ·obtain ⟨g1,g2,g3⟩:=pathsR_in hn (i:=i) (by omega)
  have gl:(bwL p q ((ncL n).take i)).length≤42:=by
   have:=List.length_filter_le (fun r=>fiF p r&&fiF r q) ((ncL n).take i)
   have h2:((ncL n).take i).length≤42:=by simp; omega
   unfold bwL; omega
  have gr:=ncL_mem hn (atL_in (m:=ncL n) (i:=i) (by omega))
  obtain ⟨r,hr⟩:∃ r,r=atL (ncL n) i:=⟨_,rfl⟩
  have e:bwL p q ((ncL n).take (i+1))=if fiF p r=true∧fiF r q=true then bwL p q ((ncL n).take i)++[r] else bwL p q ((ncL n).take i):=by
   rw [take_ncL (by omega),← hr]
   unfold bwL
   rw [List.filter_append]
   by_cases h1:fiF p r=true <;> by_cases h2:fiF r q=true <;> simp [h1,h2]
  rw [← hr] at gr
  rw [e]
  simp (disch:=first|omega|simp only[vl];omega) only [vcd]
  refine call_by (ptn_s (K:=K) g1) rfl ?_
  rw [g2,← hr]
  simp (disch:=first|omega|simp only[vl];omega) only [vcd]
  refine call_by (fin_s (K:=K) (p:=p) (q:=r) (by omega) (by omega)) rfl ?_
  cases h1:fiF p r
  ·simp (disch:=first|omega|simp only[vl];omega) only [vcd]
   simp
  ·simp (disch:=first|omega|simp only[vl];omega) only [vcd]
   refine call_by (fin_s (K:=K) (p:=r) (q:=q) (by omega) (by omega)) rfl ?_
   cases h2:fiF r q
   ·simp (disch:=first|omega|simp only[vl];omega) only [vcd]
    simp
   ·simp (disch:=first|omega|simp only[vl];omega) only [vcd,LL_appB]
 ·simp (disch:=first|omega|simp only[vl];omega) only [vcd]
  rw [← hl,List.take_length]
def mbS (l:List (List Int)) (val:List Int) (r:Nat) (x:List Int) (k:Nat) (n:Int):Int:=if rkP (atL l k)<r∧fiF (atL l k) x=true then n-atI val k else n
theorem iter_foldl {G:List Int→Int→Int} {l:List (List Int)} {s:Int}:∀ {i:Nat},i≤l.length→iter (fun k n=>G (atL l k) n) i s=(l.take i).foldl (fun n r=>G r n) s
 | 0,_=>rfl
 | i+1,h=>by
  rw [iter,iter_foldl (by omega),qta (by omega),List.foldl_append]
  have:atL l i=l[i]:=by have h:i<l.length:=h; simp [atL,h]
  simp [this]
theorem iter_const {σ:Type} {F:Nat→σ→σ} {s:σ}:∀ {n:Nat},(∀ i,i<n→∀ s,F i s=s)→iter F n s=s
 | 0,_=>rfl
 | n+1,h=>by rw [iter,iter_const fun i hi=>h i (by omega),h n (by omega)]
theorem mb_step {n:Nat} (hn:n<6) {p q x:List Int} {val:List Int} {r:Nat} (hp:p∈ncL n) (hx:x∈bwL p q (ncL n)) (hr:rkP x=r)
  (hv:∀ k:Nat,k<(bwL p q (ncL n)).length→rkP (atL (bwL p q (ncL n)) k)<r→atI val k=mbV (ncL n) 6 p (atL (bwL p q (ncL n)) k)):
  iter (mbS (bwL p q (ncL n)) val r x) (bwL p q (ncL n)).length (if x=p then 1 else 0)=mbV (ncL n) 6 p x:=by
 have hmem:∀ y,y∈bwL p q (ncL n)→y∈ncL n∧fiF p y=true∧fiF y q=true:=fun y hy=>by
  simp only [bwL,List.mem_filter,qba] at hy
  exact ⟨hy.1,hy.2.1,hy.2.2⟩
 obtain ⟨hxm,hx1,hx2⟩:=hmem x hx
 have gp:=ncL_mem hn hp
 have gx:=ncL_mem hn hxm
 by_cases he:x=p
 ·subst he
  rw [if_pos rfl,iter_const fun k hk s=>?_]
  ·simp [mbV]
  ·obtain ⟨m1,m2,m3⟩:=hmem _ (atL_in (i:=k) hk)
   have gm:=ncL_mem hn m1
   unfold mbS
   rw [if_neg]
   rintro ⟨c1,c2⟩
   by_cases hq:x=atL (bwL x q (ncL n)) k
   ·rw [← hq] at c1; omega
   ·have:=rk_lt gx.1 gm.1 (by omega) m2 hq
    omega
 ·have e1:iter (mbS (bwL p q (ncL n)) val r x) (bwL p q (ncL n)).length 0=iter (fun k n'=>(fun y n'=>if rkP y<r∧fiF y x=true then n'-mbV (ncL n) 6 p y else n') (atL (bwL p q (ncL n)) k) n') (bwL p q (ncL n)).length 0:=by
   refine iter_congr fun k hk s=>?_
   unfold mbS
   by_cases hc:rkP (atL (bwL p q (ncL n)) k)<r
   ·rw [hv k hk hc]
   ·simp [hc]
  rw [if_neg he,e1,iter_foldl (G:=fun y n'=>if rkP y<r∧fiF y x=true then n'-mbV (ncL n) 6 p y else n') (Nat.le_refl _),List.take_length]
  have e2:mbV (ncL n) 6 p x=iter (mbG (ncL n) (mbV (ncL n) 5 p) p x) (ncL n).length 0:=by
   show (if p=x then 1 else iter (mbG (ncL n) (mbV (ncL n) 5 p) p x) (ncL n).length 0)=_
   rw [if_neg (fun e=>he e.symm)]
  rw [e2]
  unfold bwL
  rw [List.foldl_filter]
  have e3:=iter_foldl (G:=fun y n'=>if (fiF p y&&fiF y q)=true then (if rkP y<r∧fiF y x=true then n'-mbV (ncL n) 6 p y else n') else n') (l:=ncL n) (s:=0) (Nat.le_refl _)
  rw [List.take_length] at e3
  refine e3.symm.trans (iter_congr fun k hk s=>?_)
  have m1:atL (ncL n) k∈ncL n:=atL_in hk
  have gm:=ncL_mem hn m1
  unfold mbG
  generalize atL (ncL n) k=y at m1 gm
  by_cases c1:fiF p y=true
  ·by_cases c2:fiF y x=true
   ·have c3:=fiF_tr c2 hx2
    by_cases c4:y=x
    ·subst c4
     rw [if_pos (by simp [c1,c3]),if_neg (by omega),if_neg (by simp)]
    ·have c5:=rk_lt gm.1 gx.1 (by omega) c2 c4
     rw [if_pos (by simp [c1,c3]),if_pos ⟨by omega,c2⟩,if_pos ⟨c1,c2,c4⟩,mbV_fuel hn (f:=6) (f':=5) m1 (by omega) (by omega)]
   ·simp [c2]
  ·simp [c1]
