/-
 MoebiusOf of the reference.
-/
import Derived.Test.YtjbonmaggidboaaPfKrJ
set_option linter.unusedSimpArgs false
set_option linter.unusedVariables false
namespace Go.Cat
variable {K:Nat→List D→List D→Prop}
theorem atI_seK {l:List Int} {i a:Nat} {v:Int} (hi:i<l.length):atI (seI l i v) a=if a=i then v else atI l a:=by
 simp only [atI,seI,qtn,qgd,List.getElem?_set]
 by_cases h:i=a
 ·subst h
  simp [hi]
 ·have h':¬ a=i:=fun e=>h e.symm
  simp [h,h']
def mbI (n:Nat) (p:List Int) (l:List (List Int)) (v:List Int) (r i:Nat):Prop:=v.length=l.length∧(∀ k:Nat,k<l.length→-15625000000≤atI v k∧atI v k≤15625000000)∧(∀ k:Nat,k<l.length→(rkP (atL l k)<r∨(rkP (atL l k)=r∧k<i))→atI v k=mbV (ncL n) 6 p (atL l k))
theorem mbI_up {n:Nat} {p:List Int} {l:List (List Int)} {v:List Int} {r i:Nat} (h:mbI n p l v r i) (hi:i<l.length) (hr:¬ rkP (atL l i)=r):mbI n p l v r (i+1):=by
 refine ⟨h.1,h.2.1,fun k hk hc=>h.2.2 k hk ?_⟩
 rcases hc with c | c
 ·exact .inl c
 ·by_cases e:k=i
  ·subst e; exact absurd c.1 hr
  ·exact .inr ⟨c.1,by omega⟩
theorem mbI_set {n:Nat} {p:List Int} {l:List (List Int)} {v:List Int} {r i:Nat} (h:mbI n p l v r i) (hi:i<l.length) {x:Int} (hx:x=mbV (ncL n) 6 p (atL l i)) (hb:-15625000000≤x∧x≤15625000000):mbI n p l (seI v i x) r (i+1):=by
 have hv:=h.1
 refine ⟨by rw [seI_len]; exact hv,fun k hk=>?_,fun k hk hc=>?_⟩
 ·rw [atI_seK (by omega)]
  split
  ·exact hb
  ·exact h.2.1 k hk
 ·rw [atI_seK (by omega)]
  split
  ·rename_i e; rw [hx,e]
  ·rename_i e
   refine h.2.2 k hk ?_
   rcases hc with c | c
   ·exact .inl c
   ·exact .inr ⟨c.1,by omega⟩
theorem mbI_nx {n:Nat} {p:List Int} {l:List (List Int)} {v:List Int} {r:Nat} (h:mbI n p l v r l.length):mbI n p l v (r+1) 0:=by
 refine ⟨h.1,h.2.1,fun k hk hc=>h.2.2 k hk ?_⟩
 rcases hc with c | c
 ·by_cases e:rkP (atL l k)=r
  ·exact .inr ⟨e,hk⟩
  ·exact .inl (by omega)
 ·omega
theorem mbo_s [HA K] {p q:List Int} (h1:p.length≤1099511627776) (h2:q.length≤1099511627776):K 449 [LI p,LI q] [.n (mbR p q).1,.b (mbR p q).2]:=by
 have k1:=nc_s (K:=K) (p:=p) h1
 have k2:=nc_s (K:=K) (p:=q) h2
 refine body_by (f:=ir_spec_MoebiusOf) rfl ?_; simp only [ir_spec_MoebiusOf,zn,zs,zq,zi,zg,zp]
 simp (disch:=first|omega|simp only[vl];omega) only [vcd]
 cases hp:ncF p
 ·rw [hp] at k1
  refine call_by (k1) rfl ?_
  simp (disch:=first|omega|simp only[vl];omega) only [vcd]
  simp [mbR,hp]
 ·rw [hp] at k1
  refine call_by (k1) rfl ?_
  simp (disch:=first|omega|simp only[vl];omega) only [vcd]
  cases hq:ncF q
  ·rw [hq] at k2
   refine call_by (k2) rfl ?_
   simp (disch:=first|omega|simp only[vl];omega) only [vcd]
   simp [mbR,hq]
  ·rw [hq] at k2
   refine call_by (k2) rfl ?_
   simp (disch:=first|omega|simp only[vl];omega) only [vcd]
   by_cases hl:p.length=q.length
   ·by_cases h5:p.length≤5
    ·obtain ⟨n,hn⟩:∃ n,n=p.length:=⟨_,rfl⟩
     have h6:n<6:=by omega
     have gp:p∈ncL n:=by rw [hn]; exact mem_ncL hp h5
     have gq:q∈ncL n:=by rw [hn,hl]; exact mem_ncL hq (by omega)
     have gr:=ncL_mem h6 gq
     have h42:=ncL_42 h6
     simp (disch:=first|omega|simp only[vl];omega) only [vcd]
     refine call_by (fin_s (K:=K) (p:=p) (q:=q) (by omega) (by omega)) rfl ?_
     cases hf:fiF p q
     ·simp (disch:=first|omega|simp only[vl];omega) only [vcd]
      have h5':q.length≤5:=by omega
      simp [mbR,hp,hq,hl,hf,h5']
     ·have eR:mbR p q=(mbV (ncL n) 6 p q,true):=by
       have h5':q.length≤5:=by omega
       simp [mbR,hp,hq,hl,hf,h5']
       rw [hn,hl]
      rw [eR]
      simp (disch:=first|omega|simp only[vl];omega) only [vcd]
      refine call_by (bw_s (K:=K) (n:=n) h6 hn.symm (by omega)) rfl ?_
      have hst:=fun (x:List Int) (val:List Int) (r:Nat) hx=>mb_step h6 (p:=p) (q:=q) (x:=x) (val:=val) (r:=r) gp hx
      have hmem:∀ y,y∈bwL p q (ncL n)→y∈ncL n:=fun y hy=>by
       simp only [bwL,List.mem_filter] at hy
       exact hy.1
      have hqm:q∈bwL p q (ncL n):=by
       simp only [bwL,List.mem_filter,qba]
       exact ⟨gq,hf,fiF_rf (ncF_pt hq)⟩
      have hll:(bwL p q (ncL n)).length≤42:=by
       have:=List.length_filter_le (fun r=>fiF p r&&fiF r q) (ncL n)
       unfold bwL; omega
      generalize bwL p q (ncL n)=l at hst hmem hqm hll
      have hmb:∀ y,-15625000000≤mbV (ncL n) 6 p y∧mbV (ncL n) 6 p y≤15625000000:=fun y=>by
       have:=mbV_bd (p:=p) h42 (f:=6) (q:=y)
       simpa [pw50] using this
      simp (disch:=first|omega|simp only[vl];omega) only [vcd]
      refine loop_up (fun r v=>mbI n p l v r 0) (fun r v=>[LI p,LI q,.u,.u,LL l,LI v,.n r,.u,.u,.u,.u,.u,.u,.u,.u,.u,.u,.u,.u,.u,.u]) (n+1) (rep l.length 0) ⟨by simp [rep],fun k hk=>by simp [rep,atI,hk],fun k hk hc=>by
        have:=ncL_mem h6 (hmem _ (atL_in (i:=k) hk)); omega⟩ (by simp) (fun r v hr hP=>?_) (fun v hP=>?_)
      ·simp (disch:=first|omega|simp only[vl];omega) only [vcd]
       refine loop_up (fun i v=>mbI n p l v r i) (fun i v=>[LI p,LI q,.u,.u,LL l,LI v,.n r,.n i,.u,.u,.u,.u,.u,.u,.u,.u,.u,.u,.u,.u,.u]) l.length v hP rfl (fun i v hi hP=>?_) (fun v hP=>?_)
       ·have gm:=ncL_mem h6 (hmem _ (atL_in (i:=i) hi))
        have hxm:=atL_in (i:=i) hi
        obtain ⟨x,hx⟩:∃ x,x=atL l i:=⟨_,rfl⟩
        have hvl:=hP.1
        rw [← hx] at gm hxm
        simp (disch:=first|omega|simp only[vl];omega) only [vcd]
        rw [← hx]
        refine call_by (rkp_s (K:=K) (p:=x) (by omega)) rfl ?_
        by_cases hrk:rkP x=r
        ·simp (disch:=first|omega|simp only[vl];omega) only [vcd]
         rw [← hx]
         refine call_by (l13Same_ok (K:=K) (a:=x) (b:=p) (by omega)) rfl ?_
         have hstp:=hst x v r hxm hrk (fun k hk hc=>hP.2.2 k hk (.inl hc))
         have hb1:∀ s0:Int,s0=0∨s0=1→∀ k s,k≤l.length→s=iter (mbS l v r x) k s0→-((k:Int)*15625000000)≤s∧s≤1+(k:Int)*15625000000:=by
          intro s0 hs0 k
          induction k with
          | zero=>intro s _ hs; simp only [iter] at hs; omega
          | succ k ih=>
           intro s hk hs
           have h1:=ih (iter (mbS l v r x) k s0) (by omega) rfl
           have h2:=hP.2.1 k (by omega)
           rw [iter] at hs
           generalize iter (mbS l v r x) k s0=y at h1 hs
           unfold mbS at hs
           split at hs <;> omega
         by_cases hxp:x=p
         ·rw [if_pos hxp] at hstp
          simp (disch:=first|omega|simp only[vl];omega) only [vcd,hxp]
          refine loop_fold (mbS l v r x) (fun _ _=>True) (fun k s=>[LI p,LI q,.u,.u,LL l,LI v,.n r,.n i,.n s,.n k,.u,.u,.u,.u,.u,.u,.u,.u,.u,.u,.u]) l.length 1 trivial rfl (fun _ _ _ _=>trivial) (fun k s hk _ hs=>?_) (fun s hs _=>?_)
          ·have hbs:=hb1 1 (.inr rfl) k s (by omega) hs
           have gk:=ncL_mem h6 (hmem _ (atL_in (i:=k) hk))
           have hvk:=hP.2.1 k hk
           have e:mbS l v r x k s=if rkP (atL l k)<r∧fiF (atL l k) x=true then s-atI v k else s:=rfl
           rw [e]
           simp (disch:=first|omega|simp only[vl];omega) only [vcd]
           refine call_by (rkp_s (K:=K) (p:=atL l k) (by omega)) rfl ?_
           by_cases c1:rkP (atL l k)<r
           ·simp (disch:=first|omega|simp only[vl];omega) only [vcd]
            rw [← hx]
            refine call_by (fin_s (K:=K) (p:=atL l k) (q:=x) (by omega) (by omega)) rfl ?_
            cases c2:fiF (atL l k) x
            ·simp (disch:=first|omega|simp only[vl];omega) only [vcd]
             simp
            ·simp (disch:=first|omega|simp only[vl];omega) only [vcd]
             simp [c1]
           ·simp (disch:=first|omega|simp only[vl];omega) only [vcd]
            simp [c1]
          ·simp (disch:=first|omega|simp only[vl];omega) only [vcd]
           rw [hs,hstp]
           exact ⟨_,mbI_set hP hi (x:=mbV (ncL n) 6 p x) (by rw [hx]) (hmb x),rfl⟩
         ·rw [if_neg hxp] at hstp
          simp (disch:=first|omega|simp only[vl];omega) only [vcd,hxp]
          refine loop_fold (mbS l v r x) (fun _ _=>True) (fun k s=>[LI p,LI q,.u,.u,LL l,LI v,.n r,.n i,.n s,.n k,.u,.u,.u,.u,.u,.u,.u,.u,.u,.u,.u]) l.length 0 trivial rfl (fun _ _ _ _=>trivial) (fun k s hk _ hs=>?_) (fun s hs _=>?_)
          ·have hbs:=hb1 0 (.inl rfl) k s (by omega) hs
           have gk:=ncL_mem h6 (hmem _ (atL_in (i:=k) hk))
           have hvk:=hP.2.1 k hk
           have e:mbS l v r x k s=if rkP (atL l k)<r∧fiF (atL l k) x=true then s-atI v k else s:=rfl
           rw [e]
           simp (disch:=first|omega|simp only[vl];omega) only [vcd]
           refine call_by (rkp_s (K:=K) (p:=atL l k) (by omega)) rfl ?_
           by_cases c1:rkP (atL l k)<r
           ·simp (disch:=first|omega|simp only[vl];omega) only [vcd]
            rw [← hx]
            refine call_by (fin_s (K:=K) (p:=atL l k) (q:=x) (by omega) (by omega)) rfl ?_
            cases c2:fiF (atL l k) x
            ·simp (disch:=first|omega|simp only[vl];omega) only [vcd]
             simp
            ·simp (disch:=first|omega|simp only[vl];omega) only [vcd]
             simp [c1]
           ·simp (disch:=first|omega|simp only[vl];omega) only [vcd]
            simp [c1]
          ·simp (disch:=first|omega|simp only[vl];omega) only [vcd]
           rw [hs,hstp]
           exact ⟨_,mbI_set hP hi (x:=mbV (ncL n) 6 p x) (by rw [hx]) (hmb x),rfl⟩
        ·simp (disch:=first|omega|simp only[vl];omega) only [vcd]
         exact ⟨v,mbI_up hP hi (by rw [← hx]; exact hrk),rfl⟩
       ·simp (disch:=first|omega|simp only[vl];omega) only [vcd]
        exact ⟨v,mbI_nx hP,rfl⟩
      ·have hvl:=hP.1
       have hall:∀ k:Nat,k<l.length→atI v k=mbV (ncL n) 6 p (atL l k):=fun k hk=>by
        have gk:=ncL_mem h6 (hmem _ (atL_in (i:=k) hk))
        have hle:rkP (atL l k)≤n:=by
         unfold rkP
         split <;> omega
        exact hP.2.2 k hk (.inl (by omega))
       simp (disch:=first|omega|simp only[vl];omega) only [vcd]
       refine loop_ix (fun i=>∀ k:Nat,k<i→atL l k≠q) (fun i=>[.u,LI q,.u,.u,LL l,LI v,.u,.u,.u,.u,.n i,.u,.u,.u,.u,.u,.u,.u,.u,.u,.u]) l.length (by omega) rfl (fun i hi hA=>?_) (fun hA=>?_)
       ·have gm:=ncL_mem h6 (hmem _ (atL_in (i:=i) hi))
        simp (disch:=first|omega|simp only[vl];omega) only [vcd]
        refine call_by (l13Same_ok (K:=K) (a:=atL l i) (b:=q) (by omega)) rfl ?_
        by_cases he:atL l i=q
        ·simp (disch:=first|omega|simp only[vl];omega) only [vcd,he]
         rw [hall i hi,he]
        ·simp (disch:=first|omega|simp only[vl];omega) only [vcd,he]
         intro k hk
         rcases qlg k i with g | g
         ·exact hA k g
         ·obtain rfl:k=i:=by omega
          exact he
       ·obtain ⟨k,hk,e⟩:=List.getElem_of_mem hqm
        have:atL l k=q:=by simp [atL,hk,e]
        exact absurd this (hA k hk)
    ·simp (disch:=first|omega|simp only[vl];omega) only [vcd]
     simp [mbR,h5]
   ·simp (disch:=first|omega|simp only[vl];omega) only [vcd]
    simp [mbR,hl]
