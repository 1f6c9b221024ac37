/-
 The numbers of Moebius of both sides.
-/
import Derived.Test.YtjbonmaggidboaaPfKrF
import Derived.Test.YtjbonmaggidboaaPfKrH
set_option linter.unusedSimpArgs false
set_option linter.unusedVariables false
namespace Go.Cat
variable {K:Nat→List D→List D→Prop}
theorem fiF_t {p q:List Int} (h:fiF p q=true):isPt p=true∧isPt q=true∧p.length=q.length∧fiB p q=true:=by
 simp only [fiF,qba,qde] at h
 exact ⟨h.1,h.2.1,h.2.2.1,h.2.2.2⟩
theorem fiF_tr {p q r:List Int} (h:fiF p q=true) (h':fiF q r=true):fiF p r=true:=by
 obtain ⟨a1,a2,a3,a4⟩:=fiF_t h
 obtain ⟨b1,b2,b3,b4⟩:=fiF_t h'
 simp only [fiF,qba,qde]
 refine ⟨a1,b2,a3.trans b3,fiB_iff.2 fun i k hi hk e=>?_⟩
 exact fiB_all b4 (by omega) (by omega) (fiB_iff.1 a4 i k hi hk e)
theorem fiF_rf {p:List Int} (h:isPt p=true):fiF p p=true:=by
 simp only [fiF,qba,qde]
 exact ⟨h,h,trivial,fiB_iff.2 fun _ _ _ _ e=>e⟩
theorem ncL_mem {n:Nat} (hn:n<6) {r:List Int} (h:r∈ncL n):ncF r=true∧r.length=n∧0≤rkP r∧rkP r<5:=by
 have hk:kerL n=true:=allB_spec kerL6 _ hn
 simp only [kerL,qba,qat,qde] at hk
 have h2:=hk.1 r h
 exact ⟨h2.1,h2.2.1,h2.2.2.1,h2.2.2.2⟩
theorem ncL_42 {n:Nat} (hn:n<6):(ncL n).length≤42:=by
 have hk:kerL n=true:=allB_spec kerL6 _ hn
 simp only [kerL,qba,qde] at hk
 exact hk.2
theorem mem_ncL {p:List Int} (h:ncF p=true) (hl:p.length≤5):p∈ncL p.length:=by
 have:=all_nc kerA5 h hl
 simpa using this
theorem kerJ_ok {p q:List Int} (hp:ncF p=true) (hq:ncF q=true) (h5:p.length≤5) (hl:p.length=q.length):kerJ p q=true:=by
 have h1:=all_nc kerJ5 hp h5
 exact all_nc h1 hq (by omega)
theorem rk_lt {p q:List Int} (hp:ncF p=true) (hq:ncF q=true) (h5:p.length≤5) (h:fiF p q=true) (hn:p≠q):rkP p<rkP q:=by
 obtain ⟨a1,a2,a3,a4⟩:=fiF_t h
 have hk:=kerJ_ok hp hq h5 a3
 simp only [kerJ,a3,decide_true,Bool.not_true,Bool.false_or,fcL_eq,qba,a4,hn,decide_false,qde] at hk
 exact hk.2.2.2
def mbG (all:List (List Int)) (g:List Int→Int) (p q:List Int) (i:Nat) (n:Int):Int:=if fiF p (atL all i)=true∧fiF (atL all i) q=true∧¬ atL all i=q then n-g (atL all i) else n
def mbV (all:List (List Int)):Nat→List Int→List Int→Int
 | 0,_,_=>0
 | f+1,p,q=>if p=q then 1 else iter (mbG all (mbV all f p) p q) all.length 0
theorem iter_congr {σ:Type} {F G:Nat→σ→σ} {s:σ}:∀ {n:Nat},(∀ i,i<n→∀ s,F i s=G i s)→iter F n s=iter G n s
 | 0,_=>rfl
 | n+1,h=>by rw [iter,iter,iter_congr fun i hi=>h i (by omega),h n (by omega)]
def pw50:Nat→Int
 | 0=>1
 | f+1=>50*pw50 f
theorem pw50_pos:∀ f,1≤pw50 f
 | 0=>by simp [pw50]
 | f+1=>by have:=pw50_pos f; simp only [pw50]; omega
theorem mbG_bd {all:List (List Int)} {g:List Int→Int} {p q:List Int} {B:Int} (hB:0≤B) (hg:∀ r,-B≤g r∧g r≤B):∀ i:Nat,-((i:Int)*B)≤iter (mbG all g p q) i 0∧iter (mbG all g p q) i 0≤(i:Int)*B
 | 0=>by simp [iter]
 | i+1=>by
  have h:=mbG_bd (all:=all) (p:=p) (q:=q) hB hg i
  have e:((i+1:Nat):Int)*B=(i:Int)*B+B:=by rw [Int.natCast_add,Int.add_mul]; simp
  rw [e,iter]
  generalize iter (mbG all g p q) i 0=s at h
  generalize (i:Int)*B=c at h
  have:=hg (atL all i)
  unfold mbG
  split <;> omega
theorem mbV_bd {all:List (List Int)} (hl:all.length≤42) {p:List Int}:∀ {f:Nat} {q:List Int},-(pw50 f)≤mbV all f p q∧mbV all f p q≤pw50 f
 | 0,q=>by simp [mbV,pw50]
 | f+1,q=>by
  have h0:=pw50_pos f
  simp only [mbV,pw50]
  split
  ·omega
  ·have h:=mbG_bd (all:=all) (g:=mbV all f p) (p:=p) (q:=q) (B:=pw50 f) (by omega) (fun r=>mbV_bd hl) all.length
   have h2:((all.length:Int))*pw50 f≤42*pw50 f:=Int.mul_le_mul_of_nonneg_right (by omega) (by omega)
   omega
theorem mbV_fuel {n:Nat} (hn:n<6) {p:List Int}:∀ {f f':Nat} {q:List Int},q∈ncL n→rkP q<f→rkP q<f'→mbV (ncL n) f p q=mbV (ncL n) f' p q
 | 0,f',q,hq,h,_=>by have:=ncL_mem hn hq; omega
 | f+1,0,q,hq,_,h=>by have:=ncL_mem hn hq; omega
 | f+1,f'+1,q,hq,h,h'=>by
  simp only [mbV]
  split
  ·rfl
  ·refine iter_congr fun i hi s=>?_
   have hr:atL (ncL n) i∈ncL n:=atL_in hi
   unfold mbG
   split
   ·rename_i hc
    have g1:=ncL_mem hn hr
    have g2:=ncL_mem hn hq
    have:=rk_lt g1.1 g2.1 (by omega) hc.2.1 hc.2.2
    rw [mbV_fuel hn (f:=f) (f':=f') hr (by omega) (by omega)]
   ·rfl
theorem mb_i [HA K] {n:Nat} (hn:n<6) {p:List Int} (hp:p∈ncL n):∀ {f:Nat} {q:List Int},f≤6→q∈ncL n→rkP q<f→K 485 [LL (ncL n),LI p,LI q] [.n (mbV (ncL n) f p q)]
 | 0,q,_,hq,h=>by have:=ncL_mem hn hq; omega
 | f+1,q,hf,hq,h=>by
  have h42:=ncL_42 hn
  have gp:=ncL_mem hn hp
  have gq:=ncL_mem hn hq
  have ih:∀ {r:List Int},r∈ncL n→rkP r<f→K 485 [LL (ncL n),LI p,LI r] [.n (mbV (ncL n) f p r)]:=fun hr h=>mb_i hn hp (by omega) hr h
  have hB:pw50 f≤15625000000:=by
   have:∀ f,f≤6→pw50 f≤15625000000:=by
    intro f hf
    match f,hf with
    | 0,_ | 1,_ | 2,_ | 3,_ | 4,_ | 5,_ | 6,_=>simp [pw50]
    | f+7,h=>exact absurd h (by omega)
   exact this f (by omega)
  have hb:=fun r=>mbV_bd (p:=p) h42 (f:=f) (q:=r)
  have hpos:=pw50_pos f
  refine body_by (f:=ir_impl_moebius) rfl ?_; simp only [ir_impl_moebius,zn,zs,zq,zi,zg,zp]
  simp (disch:=first|omega|simp only[vl];omega) only [vcd]
  refine call_by (eqi_ok (K:=K) (a:=p) (b:=q) (by omega)) rfl ?_
  simp only [mbV]
  by_cases he:p=q
  ·rw [if_pos he]
   simp (disch:=first|omega|simp only[vl];omega) only [vcd,he]
  ·rw [if_neg he]
   simp (disch:=first|omega|simp only[vl];omega) only [vcd,he]
   refine loop_fold (mbG (ncL n) (mbV (ncL n) f p) p q) (fun i s=>-((i:Int)*pw50 f)≤s∧s≤(i:Int)*pw50 f) (fun i s=>[LL (ncL n),LI p,LI q,.u,.n s,.u,.u,LL (ncL n),.n (ncL n).length,.n i,.u,.u]) (ncL n).length 0 (by simp) rfl (fun i s hi h=>?_) (fun i s hi hP hs=>?_) (fun s hs hP=>?_)
   ·have e:((i+1:Nat):Int)*pw50 f=(i:Int)*pw50 f+pw50 f:=by rw [Int.natCast_add,Int.add_mul]; simp
    rw [e]
    generalize (i:Int)*pw50 f=c at h
    have:=hb (atL (ncL n) i)
    unfold mbG
    split <;> omega
   ·have hr:atL (ncL n) i∈ncL n:=atL_in hi
    have gr:=ncL_mem hn hr
    obtain ⟨r,hre⟩:∃ r,r=atL (ncL n) i:=⟨_,rfl⟩
    rw [← hre] at hr gr
    have eG:mbG (ncL n) (mbV (ncL n) f p) p q i s=if fiF p r=true∧fiF r q=true∧¬ r=q then s-mbV (ncL n) f p r else s:=by rw [hre]; rfl
    have hib:(i:Int)*pw50 f≤42*pw50 f:=Int.mul_le_mul_of_nonneg_right (by omega) (by omega)
    generalize (i:Int)*pw50 f=c at hP hib
    have hbr:=hb r
    rw [eG]
    simp (disch:=first|omega|simp only[vl];omega) only [vcd]
    rw [← hre]
    refine call_by (fin_i (K:=K) (p:=p) (q:=r) (by omega) (by omega)) rfl ?_
    cases h1:fiF p r
    ·simp (disch:=first|omega|simp only[vl];omega) only [vcd]
     simp
    ·simp (disch:=first|omega|simp only[vl];omega) only [vcd]
     refine call_by (fin_i (K:=K) (p:=r) (q:=q) (by omega) (by omega)) rfl ?_
     cases h2:fiF r q
     ·simp (disch:=first|omega|simp only[vl];omega) only [vcd]
      simp
     ·simp (disch:=first|omega|simp only[vl];omega) only [vcd]
      refine call_by (eqi_ok (K:=K) (a:=r) (b:=q) (by omega)) rfl ?_
      by_cases h3:r=q
      ·simp (disch:=first|omega|simp only[vl];omega) only [vcd,h3]
       simp
      ·simp (disch:=first|omega|simp only[vl];omega) only [vcd,h3]
       have hlt:=rk_lt gr.1 gq.1 (by omega) h2 h3
       refine call_by (ih hr (by omega)) rfl ?_
       simp (disch:=first|omega|simp only[vl];omega) only [vcd]
       simp [h3]
   ·simp (disch:=first|omega|simp only[vl];omega) only [vcd]
    rw [hs]
