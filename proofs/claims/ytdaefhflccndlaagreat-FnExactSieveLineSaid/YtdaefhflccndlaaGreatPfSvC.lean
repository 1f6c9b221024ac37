/-
 Cyclotomic polynomials; values at roots of unity.
-/
import Derived.Test.YtdaefhflccndlaaGreatPfPolyB
import Derived.Test.YtdaefhflccndlaaGreatPfPolyD
import Derived.Test.YtdaefhflccndlaaGreatPfPolyM
import Derived.Test.YtdaefhflccndlaaGreatIrHas
set_option linter.unusedSimpArgs false
set_option linter.unusedVariables false
namespace Go.Cat
set_option maxRecDepth 100000
variable {K:Nat→List D→List D→Prop}
def cyT:List (List Int):=[[],[-1,1],[1,1],[1,1,1],[1,0,1],[1,1,1,1,1],[1,-1,1],[1,1,1,1,1,1,1],[1,0,0,0,1],[1,0,0,1,0,0,1],[1,-1,1,-1,1]]
def cytL (d:Nat):List Int:=cyT.getD d []
def dvQ (a b:List Int):List Int:=trimF (dvT b (dvN a b) (a,rep (dvN a b:Nat) 0)).2
def cytP (d:Nat):Nat→List Int
 | 0=>seI (seI (rep ((d:Int)+1) 0) 0 (-1)) d 1
 | i+1=>if d % (i+1)=0 then dvQ (cytP d i) (cytL (i+1)) else cytP d i
def cyB (d:Nat):Bool:=decide (cytP d (d-1)=cytL d)&&((List.range d).all (fun i=>decide ((cytP d i).length≤20))&&(List.range (d-1)).all fun i=>decide (1≤(cytL (i+1)).length∧(cytL (i+1)).length≤20)&&(decide (¬ d % (i+1)=0) || match dvL (cytL (i+1)) (dvN (cytP d i) (cytL (i+1))) (cytP d i,rep (dvN (cytP d i) (cytL (i+1)):Nat) 0) with
  | some x=>decide (trimF x.2=cytP d (i+1))
  | none=>false))
theorem cyB0:allB 10 (fun d=>cyB (d+1))=true:=by kernel_rfl
theorem cyB_ok {d:Nat} (h:1≤d∧d≤10):cytP d (d-1)=cytL d∧(∀ i,i<d→(cytP d i).length≤20)∧∀ i,i+1<d→(1≤(cytL (i+1)).length∧(cytL (i+1)).length≤20)∧(d % (i+1)=0→∃ x,dvL (cytL (i+1)) (dvN (cytP d i) (cytL (i+1))) (cytP d i,rep (dvN (cytP d i) (cytL (i+1)):Nat) 0)=some x∧trimF x.2=cytP d (i+1)):=by
 have:=allB_spec cyB0 (d-1) (by omega)
 rw [show d-1+1=d by omega] at this
 simp only [cyB,qba,qde] at this
 obtain ⟨h1,h2,h3⟩:=this
 refine ⟨h1,fun i hi=>by simpa using qat.1 h2 i (List.mem_range.2 hi),fun i hi=>?_⟩
 have h4:=qat.1 h3 i (List.mem_range.2 (by omega))
 simp only [qba,qde,Bool.or_eq_true] at h4
 refine ⟨h4.1,fun hd=>?_⟩
 rcases h4.2 with q | q
 ·exact absurd hd q
 ·split at q
  ·rename_i x hx
   exact ⟨x,hx,by simpa using q⟩
  ·cases q
theorem cyP_s {d i:Nat}:cytP d (i+1)=if d % (i+1)=0 then dvQ (cytP d i) (cytL (i+1)) else cytP d i:=rfl
theorem cym {d i:Nat}:((d:Int) % ((i:Int)+1)=0)↔d % (i+1)=0:=by
 rw [show (d:Int) % ((i:Int)+1)=((d % (i+1):Nat):Int) by simp [Int.natCast_emod]]
 omega
theorem LI_set0v {zs:List Int} {x:Int} (h:0<zs.length):setP [0] (LI zs) (.n x)=some (LI (seI zs 0 x)):=LI_set (i:=0) (by omega)
theorem cyt_i [HA K]:∀ (d:Nat),1≤d→d≤10→K 599 [.n d] [LI (cytL d)]
 | d,h1,h2=>by
  obtain ⟨c1,c2,c3⟩:=cyB_ok ⟨h1,h2⟩
  have ih:∀ e,1≤e→e<d→K 599 [.n e] [LI (cytL e)]:=fun e he1 he2=>cyt_i e he1 (by omega)
  have r0:(rep ((d:Int)+1) (0:Int)).length=d+1:=by simp [rep]
  refine body_by (f:=ir_impl_cyclotomic) rfl ?_; simp only [ir_impl_cyclotomic,zn,zs,zq,zi,zg,zp]
  simp (disch:=first|omega|simp only[vl];omega) only [vcd,LI_set0v]
  refine loop_ix (fun _=>True) (fun i=>[.n d,.u,LI (cytP d i),.n ((i:Int)+1),.u,.u]) (d-1) trivial rfl (fun i hi _=>?_) (fun _=>?_)
  ·obtain ⟨d1,d2⟩:=c3 i (by omega)
   have hl:=c2 i (by omega)
   have hs:=cyP_s (d:=d) (i:=i)
   by_cases q:d % (i+1)=0
   ·obtain ⟨x,x1,x2⟩:=d2 q
    have q':=cym.2 q
    simp (disch:=first|omega|simp only[vl];omega) only [vcd]
    have k:=ih (i+1) (by omega) (by omega)
    rw [show ((i+1:Nat):Int)=(i:Int)+1 from rfl] at k
    refine call_by (k) rfl ?_
    simp (disch:=first|omega|simp only[vl];omega) only [vcd]
    have kd:=div_i (K:=K) (a:=cytP d i) (b:=cytL (i+1)) (by omega) (by omega) d1.1
    rw [x1] at kd
    simp only at kd
    refine call_by (kd) rfl ?_
    simp (disch:=first|omega|simp only[vl];omega) only [vcd]
    rw [x2]
   ·have q':¬ ((d:Int) % ((i:Int)+1)=0):=fun e=>q (cym.1 e)
    rw [if_neg q] at hs
    rw [hs]
    simp (disch:=first|omega|simp only[vl];omega) only [vcd]
  ·simp (disch:=first|omega|simp only[vl];omega) only [vcd]
   rw [c1]
termination_by d=>d
theorem cyt_s [HA K]:∀ (d:Nat),1≤d→d≤10→K 596 [.n d] [LI (cytL d)]
 | d,h1,h2=>by
  obtain ⟨c1,c2,c3⟩:=cyB_ok ⟨h1,h2⟩
  have ih:∀ e,1≤e→e<d→K 596 [.n e] [LI (cytL e)]:=fun e he1 he2=>cyt_s e he1 (by omega)
  have r0:(rep ((d:Int)+1) (0:Int)).length=d+1:=by simp [rep]
  refine body_by (f:=ir_spec_l15Cyclotomic) rfl ?_; simp only [ir_spec_l15Cyclotomic,zn,zs,zq,zi,zg,zp]
  simp (disch:=first|omega|simp only[vl];omega) only [vcd,LI_set0v]
  refine loop_ix (fun _=>True) (fun i=>[.n d,.u,LI (cytP d i),.n ((i:Int)+1),.u,.u]) (d-1) trivial rfl (fun i hi _=>?_) (fun _=>?_)
  ·obtain ⟨d1,d2⟩:=c3 i (by omega)
   have hl:=c2 i (by omega)
   have hs:=cyP_s (d:=d) (i:=i)
   by_cases q:d % (i+1)=0
   ·have q':=cym.2 q
    rw [if_pos q] at hs
    rw [hs]
    simp (disch:=first|omega|simp only[vl];omega) only [vcd]
    have k:=ih (i+1) (by omega) (by omega)
    rw [show ((i+1:Nat):Int)=(i:Int)+1 from rfl] at k
    refine call_by (k) rfl ?_
    simp (disch:=first|omega|simp only[vl];omega) only [vcd]
    refine call_by (ldv_s (K:=K) (a:=cytP d i) (b:=cytL (i+1)) (by omega) (by omega) d1.1) rfl ?_
    simp (disch:=first|omega|simp only[vl];omega) only [vcd]
    rfl
   ·have q':¬ ((d:Int) % ((i:Int)+1)=0):=fun e=>q (cym.1 e)
    rw [if_neg q] at hs
    rw [hs]
    simp (disch:=first|omega|simp only[vl];omega) only [vcd]
  ·simp (disch:=first|omega|simp only[vl];omega) only [vcd]
   rw [c1]
termination_by d=>d
def vrV (r:List Int):Int×Bool:=if r.length=0 then (0,true) else if r.length=1 then (atI r 0,true) else (0,false)
def vrR (n d:Nat):List Int:=trimF (dvT (cytL d) (dvN (cpR n) (cytL d)) (cpR n,rep (dvN (cpR n) (cytL d):Nat) 0)).1
def vrN (n d:Nat):Int×Bool:=vrV (vrR n d)
def shK (p:List Int) (d:Nat):Nat→List Int
 | 0=>rep d 0
 | i+1=>seI (shK p d i) (i % d:Nat) (atI (shK p d i) (i % d:Nat)+atI p i)
theorem shK_len {p:List Int} {d:Nat}:∀ i,(shK p d i).length=d
 | 0=>by simp [shK,rep]
 | i+1=>by simp only [shK,seI_len,shK_len i]
def vrB (n d:Nat):Bool:=smlF (cpR n)&&(decide ((cpR n).length≤30)&&(decide (1≤(cytL d).length∧(cytL d).length≤20)&&((cpR n).all (inR 0 100)&&((List.range (cpR n).length).all (fun i=>(shK (cpR n) d i).all (inR 0 1000))&&match dvL (cytL d) (dvN (shK (cpR n) d (cpR n).length) (cytL d)) (shK (cpR n) d (cpR n).length,rep (dvN (shK (cpR n) d (cpR n).length) (cytL d):Nat) 0) with
  | some x=>decide (vrV (trimF x.1)=vrN n d)
  | none=>false))))
theorem vrB0:allB 5 (fun n=>allB 10 fun d=>vrB (n+1) (d+1))=true:=by kernel_rfl
theorem vrB_ok {n d:Nat} (hn:1≤n∧n≤5) (hd:1≤d∧d≤10):vrB n d=true:=by
 have:=allB_spec (allB_spec vrB0 (n-1) (by omega)) (d-1) (by omega)
 rwa [show n-1+1=n by omega,show d-1+1=d by omega] at this
theorem inR_at {a b:Int} {l:List Int} (h:l.all (inR a b)=true) {j:Nat} (hj:j<l.length):a≤atI l j∧atI l j≤b:=by
 have:=qat.1 h l[j] (List.getElem_mem hj)
 have e:atI l (j:Nat)=l[j]:=by simp [atI,hj]
 rw [e]; exact inR_iff.1 this
theorem var_i [HA K] {n d:Nat} (hn:1≤n∧n≤5) (hd:1≤d∧d≤10):K 588 [LI (cpR n),.n d] [.n (vrN n d).1,.b (vrN n d).2]:=by
 have h:=vrB_ok hn hd
 simp only [vrB,qba,qde] at h
 obtain ⟨b1,b2,b3,b4,b5,b6⟩:=h
 obtain ⟨x,x1,x2⟩:∃ x,dvL (cytL d) (dvN (shK (cpR n) d (cpR n).length) (cytL d)) (shK (cpR n) d (cpR n).length,rep (dvN (shK (cpR n) d (cpR n).length) (cytL d):Nat) 0)=some x∧vrV (trimF x.1)=vrN n d:=by
  split at b6
  ·rename_i x hx
   exact ⟨x,hx,by simpa using b6⟩
  ·cases b6
 have hin:inR 1 16 (d:Int)=true:=inR_iff.2 (by omega)
 rw [← x2]
 refine body_by (f:=ir_impl_ValueAtRoot) rfl ?_; simp only [ir_impl_ValueAtRoot,zn,zs,zq,zi,zg,zp]
 simp (disch:=first|omega|simp only[vl];omega) only [vcd]
 refine call_by (fac_i (K:=K) (p:=cpR n) (by omega)) rfl ?_
 rw [b1]
 simp (disch:=first|omega|simp only[vl];omega) only [vcd]
 refine call_by (within_ok (K:=K)) rfl ?_
 rw [hin]
 simp (disch:=first|omega|simp only[vl];omega) only [vcd]
 refine loop_ix (fun _=>True) (fun i=>[.u,.n d,.u,.u,LI (shK (cpR n) d i),.u,.u,.u,.u,LI (cpR n),.n (cpR n).length,.n i,.u,.u,.u,.u]) (cpR n).length trivial rfl (fun i hi _=>?_) (fun _=>?_)
 ·have hl:=shK_len (p:=cpR n) (d:=d) i
  have hm:i % d<d:=Nat.mod_lt _ (by omega)
  have em:(i:Int) % (d:Int)=((i % d:Nat):Int):=by simp [Int.natCast_emod]
  have v1:=inR_at b4 (j:=i) hi
  have v2:=inR_at (qat.1 b5 i (List.mem_range.2 hi)) (j:=i % d) (by rw [hl]; exact hm)
  simp (disch:=first|omega|simp only[vl];omega) only [vcd,em]
  rfl
 ·have hl:=shK_len (p:=cpR n) (d:=d) (cpR n).length
  simp (disch:=first|omega|simp only[vl];omega) only [vcd]
  refine call_by (cyt_i (K:=K) d hd.1 hd.2) rfl ?_
  simp (disch:=first|omega|simp only[vl];omega) only [vcd]
  have kd:=div_i (K:=K) (a:=shK (cpR n) d (cpR n).length) (b:=cytL d) (by omega) (by omega) b3.1
  rw [x1] at kd
  simp only at kd
  refine call_by (kd) rfl ?_
  generalize trimF x.1=r
  unfold vrV
  by_cases h0:r.length=0
  ·rw [if_pos h0]
   simp (disch:=first|omega|simp only[vl];omega) only [vcd]
  ·rw [if_neg h0]
   by_cases h1:r.length=1
   ·rw [if_pos h1]
    simp (disch:=first|omega|simp only[vl];omega) only [vcd]
   ·rw [if_neg h1]
    simp (disch:=first|omega|simp only[vl];omega) only [vcd]
theorem var_s [HA K] {n d:Nat} (hn:1≤n∧n≤5) (hd:1≤d∧d≤10):K 585 [LI (cpR n),.n d] [.n (vrN n d).1,.b (vrN n d).2]:=by
 have h:=vrB_ok hn hd
 simp only [vrB,qba,qde] at h
 obtain ⟨b1,b2,b3,_,_,_⟩:=h
 have hin:inR 1 16 (d:Int)=true:=inR_iff.2 (by omega)
 refine body_by (f:=ir_spec_ValueAtRoot) rfl ?_; simp only [ir_spec_ValueAtRoot,zn,zs,zq,zi,zg,zp]
 simp (disch:=first|omega|simp only[vl];omega) only [vcd]
 refine call_by (fac_s (K:=K) (p:=cpR n) (by omega)) rfl ?_
 rw [b1]
 simp (disch:=first|omega|simp only[vl];omega) only [vcd]
 refine call_by (l1In_ok (K:=K)) rfl ?_
 rw [hin]
 simp (disch:=first|omega|simp only[vl];omega) only [vcd]
 refine call_by (cyt_s (K:=K) d hd.1 hd.2) rfl ?_
 simp (disch:=first|omega|simp only[vl];omega) only [vcd]
 refine call_by (ldv_s (K:=K) (a:=cpR n) (b:=cytL d) (by omega) (by omega) b3.1) rfl ?_
 rw [vrN,vrR]
 generalize trimF (dvT (cytL d) (dvN (cpR n) (cytL d)) (cpR n,rep (dvN (cpR n) (cytL d):Nat) 0)).1=r
 unfold vrV
 by_cases h0:r.length=0
 ·rw [if_pos h0]
  simp (disch:=first|omega|simp only[vl];omega) only [vcd]
 ·rw [if_neg h0]
  by_cases h1:r.length=1
  ·rw [if_pos h1]
   simp (disch:=first|omega|simp only[vl];omega) only [vcd]
  ·rw [if_neg h1]
   simp (disch:=first|omega|simp only[vl];omega) only [vcd]
end Go.Cat
