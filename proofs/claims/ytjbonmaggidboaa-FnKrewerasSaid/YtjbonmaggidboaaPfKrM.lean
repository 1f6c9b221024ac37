/-
 What the law of Kreweras asks, put together.
-/
import Derived.Test.YtjbonmaggidboaaPfKrL
import Derived.Test.YtjbonmaggidboaaPfCount
import Derived.Test.YtjbonmaggidboaaIrHas
set_option linter.unusedSimpArgs false
set_option linter.unusedVariables false
namespace Go.Cat
variable {K:Nat→List D→List D→Prop}
set_option maxRecDepth 100000
theorem bigN_ok [HA K] {code:List Nat}:K 220 [LB code] [.b (decide (1048576<(code.length:Int)))]:=by
 refine body_by (f:=ir_laws_big) rfl ?_; simp only [ir_laws_big,zn,zs,zq,zi,zg,zp]
 simp (disch:=first|omega|simp only[vl];omega) only [vc]
theorem sameN_ok [HA K] {a:List Int} (h:a.length≤1099511627776):K 239 [LI a,LI a] [.b true]:=by
 refine body_by (f:=ir_laws_sameInts) rfl ?_; simp only [ir_laws_sameInts,zn,zs,zq,zi,zg,zp]
 simp (disch:=first|omega|simp only[vl];omega) only [vcd]
 refine loop_ix (fun i=>True) (fun i=>[LI a,LI a,.u,.n i,.u,.u,.u]) a.length trivial rfl (fun i hi hP=>?_) (fun hP=>?_) <;> simp (disch:=first|omega|simp only[vl];omega) only [vcd]
theorem atN_ok [HA K] {code:List Nat} (hb:∀ c∈code,c<256):∃ rs,(∃ v:Int,rs=[.n v]∧0≤v∧v≤255)∧K 407 [LB code,.n 1] rs:=by
 refine body_ex (f:=ir_laws_at) rfl ?_; simp only [ir_laws_at,zn,zs,zq,zi,zg,zp]
 simp (disch:=first|omega|simp only[vl];omega) only [vcd]
 by_cases q:1<code.length
 ·have hm:atB code 1<256:=hb _ (by simp [atB,q])
  simp (disch:=first|omega|simp only[vl];omega) only [vcd]
  exact ⟨_,rfl,by omega,by omega⟩
 ·simp (disch:=first|omega|simp only[vl];omega) only [vcd]
  exact ⟨_,rfl,by omega,by omega⟩
theorem cmR_len {p d:List Int} (h:cmR p=some d):d.length=p.length:=by
 obtain ⟨z,hz,hzd⟩:=qms.1 h
 rw [← hzd]
 exact rnL_len _
theorem cmp_all [HA K] {p:List Int} (h:ncF p=true) (hl:p.length≤6):∃ d,cmR p=some d∧ncF d=true∧d.length=p.length∧K 433 [LI p] [LI d,.b true]∧K 434 [LI p] [LI d,.b true]∧∃ e,isPt e=true∧e.length=p.length∧K 433 [LI d] [LI e,.b true]∧K 435 [LI e] [LI p,.b true]∧(0<p.length→rkP p+rkP d=(p.length:Int)-1):=by
 have hk:=all_nc kerC6 h hl
 simp only [kerC,qba] at hk
 obtain ⟨hm,hk⟩:=hk
 cases hd:cmR p with
 | none=>rw [hd] at hk; simp at hk
 | some d=>
  rw [hd] at hk
  simp only [qba] at hk
  obtain ⟨hnd,hk⟩:=hk
  cases he:cmR d with
  | none=>rw [he] at hk; simp at hk
  | some e=>
   rw [he] at hk
   simp only [qba,Bool.or_eq_true,qde] at hk
   obtain ⟨hpe,hle,hc⟩:=hk
   have hdl:=cmR_len hd
   have hkd:=all_nc kerC6 hnd (by omega)
   simp only [kerC,qba] at hkd
   refine ⟨d,rfl,hnd,hdl,cmp_i (K:=K) h hm hd,cmp_s (K:=K) h hm hd,e,hpe,hle,cmp_i (K:=K) hnd hkd.1 he,?_,fun h0=>?_⟩
   ·by_cases h0:p.length=0
    ·have e1:p=[]:=List.length_eq_zero_iff.1 h0
     have e2:e=[]:=List.length_eq_zero_iff.1 (by omega)
     rw [e1,e2]
     refine body_by (f:=ir_impl_TurnPartition) rfl ?_; simp only [ir_impl_TurnPartition,zn,zs,zq,zi,zg,zp]
     simp (disch:=first|omega|simp only[vl];omega) only [vcd]
     refine call_by (pt_i (K:=K) (p:=[]) (by simp)) rfl ?_
     have:isPt []=true:=by decide
     rw [this]
     simp (disch:=first|omega|simp only[vl];omega) only [vcd]
     rfl
    ·rcases hc with c | c
     ·exact absurd c h0
     ·have:=tup_i (K:=K) (p:=e) hpe (by omega)
      rw [c.1] at this
      exact this
   ·rcases hc with c | c
    ·omega
    ·exact c.2
theorem join_all [HA K] {a b:List Int} (h:jnK a b=true) (h5:a.length≤5):∃ k,K 439 [LI a,LI b] [LI k,.b true]∧K 440 [LI a,LI b] [LI k,.b true]∧ncF k=true∧fiF a k=true∧fiF b k=true∧k.length=a.length∧
  ncF (meF 100 a b)=true∧fiF (meF 100 a b) a=true∧fiF (meF 100 a b) b=true∧∃ x y,cmR a=some x∧cmR b=some y∧fiF a b=fiF y x:=by
 obtain ⟨hp,hq,hl,h8⟩:=jnK_t h
 have hk:=kerJ_ok hp hq h5 hl
 have eM:meF 100 a b=rnL (meL 100 a b a.length) a.length:=by
  unfold meF
  rw [if_pos ⟨ncF_pt hp,ncF_pt hq,hl⟩]
 rw [eM]
 simp only [kerJ,hl,decide_true,Bool.not_true,Bool.false_or,fcL_eq,clX_eq,qba] at hk
 rw [← hl] at hk
 obtain ⟨h1,⟨m1,m2,m3⟩,c1,_⟩:=hk
 cases hr:clG a.length (a.length+1) (jnF b a) with
 | none=>rw [hr] at h1; simp at h1
 | some r=>
  cases hr':clG a.length (a.length+1) (rnL (jnF b a) a.length) with
  | none=>rw [hr,hr'] at h1; simp at h1
  | some r'=>
   rw [hr,hr'] at h1
   simp only [qba,qde] at h1
   obtain ⟨j1,j2,j3,j4,j5,j6⟩:=h1
   have hrl':r'.length=a.length:=by rw [clG_len hr']; exact rnL_len _
   have k1:=coj_i (K:=K) h hr
   have k2:=coj_s (K:=K) h j2 hr' (Nat.le_refl _)
   rw [j1] at k1
   rw [hrl',← j3] at k2
   cases hx:cmR a with
   | none=>rw [hx] at c1; simp at c1
   | some x=>
    cases hy:cmR b with
    | none=>rw [hx,hy] at c1; simp at c1
    | some y=>
     rw [hx,hy] at c1
     refine ⟨_,k1,k2,j4,j5,j6,rnL_len _,m1,m2,m3,x,y,rfl,rfl,?_⟩
     simpa using c1
theorem meF_same {a b:List Int} (ha:ncF a=true) (h5:a.length≤5):meF 100 a b=meF 9 a b:=by
 unfold meF
 split
 ·rename_i hc
  have h1:=all_nc kerM5 ha h5
  have h2:=all_pt h1 hc.2.1 (by omega)
  simp only [kerM,hc.2.2,decide_true,Bool.not_true,Bool.false_or,qde] at h2
  rw [hc.2.2]
  exact h2
 ·rfl
theorem clo_all [HA K] {t:List Int} (h6:t.length≤6):∃ v,K 451 [LI t] [LI v,.b (isPt t)]∧K 452 [LI t] [LI v,.b (isPt t)]∧v.length≤6∧(isPt t=true→ncF v=true∧fiF t v=true):=by
 cases ht:isPt t
 ·refine ⟨[],?_,?_,by simp,fun h=>by cases h⟩
  ·have:=ncl_i (K:=K) (p:=t) (by omega) (r:=[]) (f:=0) (fun h=>by rw [ht] at h; cases h)
   rw [ht] at this
   simpa using this
  ·refine body_by (f:=ir_spec_NoncrossingClosure) rfl ?_; simp only [ir_spec_NoncrossingClosure,zn,zs,zq,zi,zg,zp]
   simp (disch:=first|omega|simp only[vl];omega) only [vcd]
   refine call_by (pt_s (K:=K) (p:=t) (by omega)) rfl ?_
   rw [ht]
   simp (disch:=first|omega|simp only[vl];omega) only [vcd]
   rfl
 ·have hk:=all_pt kerT6 ht h6
  simp only [kerT,fcL_eq,clX_eq] at hk
  cases hr:clG t.length (t.length+1) t with
  | none=>rw [hr] at hk; simp at hk
  | some r=>
   rw [hr] at hk
   simp only [qba] at hk
   have hrl:=clG_len hr
   have hvl:(rnL r t.length).length=t.length:=rnL_len _
   have k1:=ncl_i (K:=K) (p:=t) (by omega) (r:=r) (fun _=>hr)
   have k2:=clo_s (K:=K) ht hr (Nat.le_refl _)
   rw [ht] at k1
   simp only [if_true] at k1
   rw [hrl] at k1 k2
   refine ⟨_,k1,k2,by omega,fun _=>⟨?_,?_⟩⟩
   ·simp only [ncF,hk.1,hk.2.1,Bool.and_self]
   ·simp only [fiF,ht,hk.1,hk.2.2,hvl,decide_true,Bool.and_self]
def lowF (s:Nat):List Int:=(List.range s).map fun (i:Nat)=>(i:Int)
def catK (s:Nat):Int:=if s % 2=0 then -(catL.getD (s-1) 0) else catL.getD (s-1) 0
theorem mbV_low:allB 6 (fun s=>s == 0 || (ncF (lowF s)&&(ncF (List.replicate s 0)&&(fiF (lowF s) (List.replicate s 0)&&decide (mbV (ncL s) 6 (lowF s) (List.replicate s 0)=catK s)))))=true:=by kernel_rfl
def cwK (g h:Nat):Int:=ckT g h*g
theorem cwK0:allB 5 (fun g=>allB 6 fun h=>g == 0 || (h == 0 || (decide (15<h*g+1) || isN (evF (tableOf tcwi) 60 8 10 [.n ((g-1:Nat):Int),.n ((h*g+1:Nat):Int)]) (cwK g h))))=true:=by kernel_rfl
theorem ckT_bd {n k:Nat} (hn:n<5) (hk:1≤k∧k≤5):0≤ckT n k∧ckT n k≤10000000:=by
 have h14:=ncL_14 hn
 obtain ⟨b1,b2⟩:=ccM_bd h14 (k-1)
 have hp:=pw14_le (k:=k-1) (by omega)
 have hp0:=pw14_pos (k-1)
 have h:=ccT_bd (many:=ccM (ncL n) (k-1)) (B:=pw14 (k-1)) (by omega) b2 (Nat.le_refl _)
 have h2:(((ncL n).length:Nat):Int)*pw14 (k-1)≤14*pw14 (k-1):=Int.mul_le_mul_of_nonneg_right (by omega) (by omega)
 unfold ckT ccT
 rw [b1]
 omega
