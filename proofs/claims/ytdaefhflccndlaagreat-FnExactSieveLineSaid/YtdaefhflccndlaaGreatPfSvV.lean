/-
 The sieve: the line, on both sides.
-/
import Derived.Test.YtdaefhflccndlaaGreatPfSvI
import Derived.Test.YtdaefhflccndlaaGreatPfSvC
import Derived.Test.YtdaefhflccndlaaGreatPfNumT
import Derived.Test.YtdaefhflccndlaaGreatPfPLine
import Derived.Test.YtdaefhflccndlaaGreatIrHas
set_option linter.unusedSimpArgs false
set_option linter.unusedVariables false
namespace Go.Cat
set_option maxRecDepth 100000
variable {K:Nat→List D→List D→Prop}
abbrev tvg:List (Nat×IF):=[(589,ir_impl_gcd)]
abbrev tvo:List (Nat×IF):=[(586,ir_spec_l15Order)]
def eqN1 (x:Option (List D)) (v:Nat):Bool:=match x with
 | some [.i .i64 z]=>decide (z=v)
 | _=>false
theorem eqN1_spec {x:Option (List D)} {v:Nat} (h:eqN1 x v=true):x=some [.n v]:=by
 unfold eqN1 at h
 split at h
 ·rw [qde] at h; rw [h]
 ·cases h
theorem gc0:allB 10 (fun o=>allB (o+1) fun k=>eqN1 (evF (tableOf tvg) 100 20 589 [.n ((o+1:Nat):Int),.n (k:Nat)]) (Nat.gcd (o+1) k))=true:=by kernel_rfl
theorem od0:allB 10 (fun o=>allB (o+1) fun k=>eqN1 (evF (tableOf tvo) 100 20 586 [.n ((o+1:Nat):Int),.n (k:Nat)]) ((o+1) / Nat.gcd (o+1) k))=true:=by kernel_rfl
theorem gcd_i [HA K] {o k:Nat} (ho:1≤o∧o≤10) (hk:k<o):K 589 [.n o,.n k] [.n (Nat.gcd o k)]:=by
 have:=eqN1_spec (allB_spec (allB_spec gc0 (o-1) (by omega)) k (by omega))
 rw [show o-1+1=o by omega] at this
 exact run tvg 100 20 589 this
theorem ord15_s [HA K] {o k:Nat} (ho:1≤o∧o≤10) (hk:k<o):K 586 [.n o,.n k] [.n (o / Nat.gcd o k:Nat)]:=by
 have:=eqN1_spec (allB_spec (allB_spec od0 (o-1) (by omega)) k (by omega))
 rw [show o-1+1=o by omega] at this
 exact run tvo 100 20 586 this
theorem od_rg {o k:Nat} (ho:1≤o∧o≤10):1≤o / Nat.gcd o k∧o / Nat.gcd o k≤10:=by
 have h1:0<Nat.gcd o k:=Nat.gcd_pos_of_pos_left _ (by omega)
 have h2:Nat.gcd o k≤o:=Nat.gcd_le_left _ (by omega)
 exact ⟨Nat.div_pos h2 h1,Nat.le_trans (Nat.div_le_self _ _) ho.2⟩
theorem orF_pos {f n:Nat} (hf:f<3) (hn:1≤n∧n≤5):1≤orF f n∧orF f n≤10:=by
 rcases f3 hf with rfl | rfl | rfl <;> simp only [orF] <;> omega
noncomputable def hdK (f n k:Nat):Bool:=(vrN n (orF f n / Nat.gcd (orF f n) k)).2&&decide ((vrN n (orF f n / Nat.gcd (orF f n) k)).1=fxS f n k)
noncomputable def hdV (f n:Nat):Bool:=(List.range (orF f n)).all (hdK f n)
theorem hdV_t {f n:Nat} (h:∀ k,k<orF f n→hdK f n k=true):hdV f n=true:=qat.2 fun k hk=>h k (List.mem_range.1 hk)
theorem hdV_f {f n k:Nat} (hk:k<orF f n) (h:hdK f n k=false):hdV f n=false:=by
 rw [Bool.eq_false_iff]
 intro q
 have:=qat.1 q k (List.mem_range.2 hk)
 rw [h] at this; cases this
theorem svh_s [HA K] {f n:Nat} (hf:f<3) (hn:1≤n∧n≤5):K 570 [.s (fmN f),.n n] [.b (hdV f n)]:=by
 have ho:=orF_pos hf hn
 refine body_by (f:=ir_spec_SieveHolds) rfl ?_; simp only [ir_spec_SieveHolds,zn,zs,zq,zi,zg,zp]
 simp (disch:=first|omega|simp only[vl];omega) only [vcd]
 refine call_by (ord_s (K:=K) hf hn) rfl ?_
 simp (disch:=first|omega|simp only[vl];omega) only [vcd]
 refine call_by (cpo_s (K:=K) (n:=(n:Int))) rfl ?_
 rw [show inR 0 7 (n:Int)=true from inR_iff.2 (by omega)]
 simp (disch:=first|omega|simp only[vl];omega) only [vcd]
 refine loop_ix (fun i=>∀ j,j<i→hdK f n j=true) (fun i=>[.s (fmN f),.n n,.u,.n (orF f n),LI (cpR n),.b true,.n i,.u,.u,.u,.u]) (orF f n) (by omega) rfl (fun i hi hP=>?_) (fun hP=>?_)
 ·have hd:=od_rg (k:=i) ho
  simp (disch:=first|omega|simp only[vl];omega) only [vcd]
  refine call_by (ord15_s (K:=K) ho hi) rfl ?_
  simp (disch:=first|omega|simp only[vl];omega) only [vcd]
  refine call_by (var_s (K:=K) hn hd) rfl ?_
  cases q1:(vrN n (orF f n / Nat.gcd (orF f n) i)).2
  ·simp (disch:=first|omega|simp only[vl];omega) only [vcd]
   rw [hdV_f hi (by simp [hdK,q1])]
  ·simp (disch:=first|omega|simp only[vl];omega) only [vcd]
   refine call_by (fix_s (K:=K) hf hn hi) rfl ?_
   by_cases q2:(vrN n (orF f n / Nat.gcd (orF f n) i)).1=fxS f n i
   ·simp (disch:=first|omega|simp only[vl];omega) only [vcd]
    exact all_s hP (by simp [hdK,q1,q2])
   ·simp (disch:=first|omega|simp only[vl];omega) only [vcd]
    rw [hdV_f hi (by simp [hdK,q2])]
 ·simp (disch:=first|omega|simp only[vl];omega) only [vcd]
  rw [hdV_t hP]
theorem ls_6v {a b c d e f:List Nat}:liD [.s a,.s b,.s c,.s d,.s e,.s f]=some (LS [a,b,c,d,e,f]):=rfl
theorem ls_2v {a b:List Nat}:liD [.s a,.s b]=some (LS [a,b]):=rfl
theorem fpF_bd {p:List Int} (h:p.length≤30):(fpF p).length≤1000:=by
 unfold fpF
 split
 ·simp
 ·rename_i q
  have hp:polF p=true:=by
   cases hq:polF p with
   | true=>rfl
   | false=>exact absurd (.inr hq) q
  have:=glT_len (sep:=[44]) (fpW_b hp) (fpW p).length
  rw [glue]
  rw [fpW_len] at this ⊢
  simp only [qlc,qln] at this
  have h2:p.length*(20+(0+1))≤30*21:=Nat.mul_le_mul h (by omega)
  omega
theorem svh_i [HA K] {f n:Nat} (hf:f<3) (hn:1≤n∧n≤5):K 574 [.s (fmN f),.n n] [.b (hdV f n)]:=by
 have ho:=orF_pos hf hn
 refine body_by (f:=ir_impl_SieveHolds) rfl ?_; simp only [ir_impl_SieveHolds,zn,zs,zq,zi,zg,zp]
 simp (disch:=first|omega|simp only[vl];omega) only [vcd]
 refine call_by (ord_i (K:=K) hf hn) rfl ?_
 simp (disch:=first|omega|simp only[vl];omega) only [vcd]
 refine call_by (cpo_i (K:=K) (n:=(n:Int))) rfl ?_
 rw [show inR 0 7 (n:Int)=true from inR_iff.2 (by omega)]
 simp (disch:=first|omega|simp only[vl];omega) only [vcd]
 refine loop_ix (fun i=>∀ j,j<i→hdK f n j=true) (fun i=>[.s (fmN f),.n n,.u,.n (orF f n),LI (cpR n),.n i,.u,.u,.u,.u,.u]) (orF f n) (by omega) rfl (fun i hi hP=>?_) (fun hP=>?_)
 ·have hd:=od_rg (k:=i) ho
  have hg:0<Nat.gcd (orF f n) i:=Nat.gcd_pos_of_pos_left _ (by omega)
  have eq0:(orF f n:Int) / (Nat.gcd (orF f n) i:Int)=((orF f n / Nat.gcd (orF f n) i:Nat):Int):=by simp
  simp (disch:=first|omega|simp only[vl];omega) only [vcd]
  refine call_by (gcd_i (K:=K) ho hi) rfl ?_
  simp (disch:=first|omega|simp only[vl];omega) only [vcd,eq0]
  refine call_by (var_i (K:=K) hn hd) rfl ?_
  cases q1:(vrN n (orF f n / Nat.gcd (orF f n) i)).2
  ·simp (disch:=first|omega|simp only[vl];omega) only [vcd]
   rw [hdV_f hi (by simp [hdK,q1])]
  ·simp (disch:=first|omega|simp only[vl];omega) only [vcd]
   refine call_by (fix_i (K:=K) hf hn hi) rfl ?_
   by_cases q2:(vrN n (orF f n / Nat.gcd (orF f n) i)).1=fxS f n i
   ·simp (disch:=first|omega|simp only[vl];omega) only [vcd]
    exact all_s hP (by simp [hdK,q1,q2])
   ·simp (disch:=first|omega|simp only[vl];omega) only [vcd]
    rw [hdV_f hi (by simp [hdK,q2])]
 ·simp (disch:=first|omega|simp only[vl];omega) only [vcd]
  rw [hdV_t hP]
def fxL (f n k:Nat):List Int:=(List.range k).map fun k=>(fxS f n k:Int)
theorem fxL_len {f n k:Nat}:(fxL f n k).length=k:=by simp [fxL]
theorem fxL_s {f n k:Nat}:fxL f n (k+1)=fxL f n k++[(fxS f n k:Int)]:=by simp [fxL,List.range_succ]
theorem fxS_le {f n k:Nat} (hn:n≤5):fxS f n k≤132:=by
 have h1:=pathsR_132 (n:=n) (by omega)
 have h2:=List.countP_le_length (p:=fun w=>decide (t15 f n k w=w)) (l:=pathsR n)
 simp only [fxS]; omega
theorem fxL_64 {f n k:Nat} (hn:n≤5):i64s (fxL f n k):=fun y hy=>by
 simp only [fxL,List.mem_map] at hy
 obtain ⟨j,_,rfl⟩:=hy
 have:=fxS_le (f:=f) (n:=n) (k:=j) hn
 omega
theorem orT_bd {L:List Int} (hL:L.length≤132):∀ i,(iter (orT L) i ([],List.replicate L.length false)).1.length≤i∧i64s (iter (orT L) i ([],List.replicate L.length false)).1
 | 0=>⟨by simp [iter],fun y hy=>by simp [iter] at hy⟩
 | i+1=>by
  obtain ⟨h1,h2⟩:=orT_bd hL i
  have hi:=(orR_inv (L:=L) (f:=L.length) (a:=i) (s:=0) (B:=(iter (orT L) i ([],List.replicate L.length false)).2)).2.2
  simp only [iter,orT]
  split
  ·refine ⟨by simp only [qla,qlc,qln]; omega,fun y hy=>?_⟩
   rcases qma.1 hy with q | q
   ·exact h2 y q
   ·rw [List.mem_singleton.1 q]; omega
  ·exact ⟨by omega,h2⟩
theorem svl_ok [HA K] {f n:Nat} (hf:f<3) (hn:1≤n∧n≤5):∃ v,K 558 [.s (fmN f),.n n] [.s v]∧K 557 [.s (fmN f),.n n] [.s v]:=by
 have ho:=orF_pos hf hn
 have hp:=pathsR_132 (n:=n) (by omega)
 have hL:=obL_len (f:=f) (n:=n)
 have hcl:(cpR n).length≤30:=by
  have:=vrB_ok hn (d:=1) (by omega)
  simp only [vrB,qba,qde] at this
  exact this.2.1
 have hi1:=fxL_64 (f:=f) (n:=n) (k:=orF f n) hn.2
 have hl1:=fxL_len (f:=f) (n:=n) (k:=orF f n)
 obtain ⟨o1,o2⟩:=orT_bd (L:=obL f n) (by omega) (obL f n).length
 have hi2:i64s (orS (obL f n)):=o2
 have hl2:(orS (obL f n)).length≤(obL f n).length:=o1
 have n1:=numT_len hi1
 have n2:=numT_len hi2
 have pf:=fpF_bd (p:=cpR n) hcl
 have hin:inR 0 7 (n:Int)=true:=inR_iff.2 (by omega)
 obtain ⟨s1,hs1⟩:∃ s,s=[115,105,101,118,101,32]++fpF (cpR n)++[32,102,105,120,101,100,32]++numT (fxL f n (orF f n))++[32,111,114,98,105,116,115,32]++numT (orS (obL f n)):=⟨_,rfl⟩
 have ls1:s1.length≤50000:=by rw [hs1]; simp; omega
 have g1:glue [32] [[115,105,101,118,101],fpF (cpR n),[102,105,120,101,100],numT (fxL f n (orF f n)),[111,114,98,105,116,115],numT (orS (obL f n))]=s1:=by rw [hs1]; simp [glue,glT,atS]
 have ln1:=line_ok (K:=K) (ws:=[[115,105,101,118,101],fpF (cpR n),[102,105,120,101,100],numT (fxL f n (orF f n)),[111,114,98,105,116,115],numT (orS (obL f n))]) (by simp) (by simp; omega)
 rw [g1] at ln1
 have g2:glue [32] [s1,[104,111,108,100,115]]=s1++[32,104,111,108,100,115]:=by simp [glue,glT,atS]
 have ln2:=line_ok (K:=K) (ws:=[s1,[104,111,108,100,115]]) (by simp) (by simp; omega)
 rw [g2] at ln2
 refine ⟨if hdV f n=true then s1++[32,104,111,108,100,115] else s1,?_,?_⟩
 ·refine body_by (f:=ir_impl_SieveLine) rfl ?_; simp only [ir_impl_SieveLine,zn,zs,zq,zi,zg,zp]
  simp (disch:=first|omega|simp only[vl];omega) only [vcd]
  refine call_by (ord_i (K:=K) hf hn) rfl ?_
  simp (disch:=first|omega|simp only[vl];omega) only [vcd]
  refine call_by (cpo_i (K:=K) (n:=(n:Int))) rfl ?_
  simp (disch:=first|omega|simp only[vl];omega) only [vcd]
  refine loop_ix (fun _=>True) (fun i=>[.s (fmN f),.n n,.u,.u,LI (cpR n),LI (fxL f n i),.u,.u,.u,.u,.n (orF f n),.n i,.u,.u]) (orF f n) trivial rfl (fun i hi _=>?_) (fun _=>?_)
  ·have hli:=fxL_len (f:=f) (n:=n) (k:=i)
   simp (disch:=first|omega|simp only[vl];omega) only [vcd]
   refine call_by (fix_i (K:=K) hf hn hi) rfl ?_
   simp (disch:=first|omega|simp only[vl];omega) only [vcd]
   rw [fxL_s]
  ·simp (disch:=first|omega|simp only[vl];omega) only [vcd]
   refine call_by (orb_i (K:=K) hf hn) rfl ?_
   simp (disch:=first|omega|simp only[vl];omega) only [vcd]
   refine call_by (fpol_i (K:=K) (p:=cpR n) (by omega)) rfl ?_
   simp (disch:=first|omega|simp only[vl];omega) only [vcd]
   refine call_by (list_i (K:=K) (l:=fxL f n (orF f n)) (by omega) hi1) rfl ?_
   simp (disch:=first|omega|simp only[vl];omega) only [vcd]
   refine call_by (list_i (K:=K) (l:=orS (obL f n)) (by omega) hi2) rfl ?_
   simp (disch:=first|omega|simp only[vl];omega) only [vcd,ls_6v]
   refine call_by (ln1) rfl ?_
   simp (disch:=first|omega|simp only[vl];omega) only [vcd]
   refine call_by (svh_i (K:=K) hf hn) rfl ?_
   cases hd:hdV f n
   ·simp (disch:=first|omega|simp only[vl];omega) only [vcd]
    rw [if_neg (by simp)]
   ·simp (disch:=first|omega|simp only[vl];omega) only [vcd,ls_2v]
    refine call_by (ln2) rfl ?_
    simp (disch:=first|omega|simp only[vl];omega) only [vcd]
 ·refine body_by (f:=ir_spec_SieveLine) rfl ?_; simp only [ir_spec_SieveLine,zn,zs,zq,zi,zg,zp]
  simp (disch:=first|omega|simp only[vl];omega) only [vcd]
  refine call_by (ord_s (K:=K) hf hn) rfl ?_
  simp (disch:=first|omega|simp only[vl];omega) only [vcd]
  refine call_by (cpo_s (K:=K) (n:=(n:Int))) rfl ?_
  simp (disch:=first|omega|simp only[vl];omega) only [vcd]
  refine loop_ix (fun _=>True) (fun i=>[.s (fmN f),.n n,.u,.n (orF f n),LI (cpR n),LI (fxL f n i),.n i,.u,.u,.u,.u,.u]) (orF f n) trivial rfl (fun i hi _=>?_) (fun _=>?_)
  ·have hli:=fxL_len (f:=f) (n:=n) (k:=i)
   simp (disch:=first|omega|simp only[vl];omega) only [vcd]
   refine call_by (fix_s (K:=K) hf hn hi) rfl ?_
   simp (disch:=first|omega|simp only[vl];omega) only [vcd]
   rw [fxL_s]
  ·simp (disch:=first|omega|simp only[vl];omega) only [vcd]
   refine call_by (orb_s (K:=K) hf hn) rfl ?_
   simp (disch:=first|omega|simp only[vl];omega) only [vcd]
   refine call_by (fpol_s (K:=K) (p:=cpR n) (by omega)) rfl ?_
   simp (disch:=first|omega|simp only[vl];omega) only [vcd]
   refine call_by (nums_s34 (K:=K) (l:=fxL f n (orF f n)) (by omega) hi1) rfl ?_
   simp (disch:=first|omega|simp only[vl];omega) only [vcd]
   refine call_by (nums_s34 (K:=K) (l:=orS (obL f n)) (by omega) hi2) rfl ?_
   simp (disch:=first|omega|simp only[vl];omega) only [vcd]
   refine call_by (svh_s (K:=K) hf hn) rfl ?_
   cases hd:hdV f n
   ·simp (disch:=first|omega|simp only[vl];omega) only [vcd]
    rw [if_neg (by simp),hs1]
    simp
   ·simp (disch:=first|omega|simp only[vl];omega) only [vcd]
    rw [hs1]
    simp
theorem svl_law [HA K] (s:List Nat) (a:Int):K 546 [.s s,.n a] [.b true]:=by
 obtain ⟨v,k1,k2⟩:∃ v,K 558 [.s s,.n a] [.s v]∧K 557 [.s s,.n a] [.s v]:=by
  have no:inR 1 5 a=false∨(s≠fmN 0∧s≠fmN 1∧s≠fmN 2)→∃ v,K 558 [.s s,.n a] [.s v]∧K 557 [.s s,.n a] [.s v]:=fun h=>by
   refine ⟨[],?_,?_⟩
   ·refine body_by (f:=ir_impl_SieveLine) rfl ?_; simp only [ir_impl_SieveLine,zn,zs,zq,zi,zg,zp]
    simp (disch:=first|omega|simp only[vl];omega) only [vcd]
    refine call_by (ord_i0 (K:=K) h) rfl ?_
    simp (disch:=first|omega|simp only[vl];omega) only [vcd]
   ·refine body_by (f:=ir_spec_SieveLine) rfl ?_; simp only [ir_spec_SieveLine,zn,zs,zq,zi,zg,zp]
    simp (disch:=first|omega|simp only[vl];omega) only [vcd]
    refine call_by (ord_s0 (K:=K) h) rfl ?_
    simp (disch:=first|omega|simp only[vl];omega) only [vcd]
  cases hin:inR 1 5 a with
  | false=>exact no (.inl hin)
  | true=>
   have h:=inR_iff.1 hin
   obtain ⟨n,rfl⟩:=qoz (by omega:0≤a)
   by_cases h0:s=fmN 0
   ·rw [h0]; exact svl_ok (by omega) (by omega)
   ·by_cases h1:s=fmN 1
    ·rw [h1]; exact svl_ok (by omega) (by omega)
    ·by_cases h2:s=fmN 2
     ·rw [h2]; exact svl_ok (by omega) (by omega)
     ·exact no (.inr ⟨h0,h1,h2⟩)
 have eq0:(v == v)=true:=by simp
 refine body_by (f:=ir_laws_FnExactSieveLine) rfl ?_; simp only [ir_laws_FnExactSieveLine,zn,zs,zq,zi,zg,zp]
 by_cases h:s.length≤1048576
 ·simp (disch:=first|omega|simp only[vl];omega) only [vcd]
  refine call_by (k2) rfl ?_
  simp (disch:=first|omega|simp only[vl];omega) only [vcd]
  refine call_by (k1) rfl ?_
  simp (disch:=first|omega|simp only[vl];omega) only [vcd,eq0]
 ·simp (disch:=first|omega|simp only[vl];omega) only [vcd]
end Go.Cat
