/-
 Texts as numbers: ParseInt of both sides.
-/
import Derived.Test.YtdifmcppfcbgdaaGreatPfFmt
import Derived.Test.YtdifmcppfcbgdaaGreatPfPath
import Derived.Test.YtdifmcppfcbgdaaGreatPfNum
set_option linter.unusedSimpArgs false
set_option linter.unusedVariables false
namespace Go.Cat
variable {K:Nat→List D→List D→Prop}
def isDg (c:Nat):Bool:=decide (48≤c)&&decide (c≤57)
def vL (s:List Nat):Nat:=s.foldl (fun a c=>if isDg c=true then a*10+(c-48) else a) 0
def kL (s:List Nat):Nat:=s.countP isDg
theorem vL_snoc {s:List Nat} {c:Nat}:vL (s++[c])=if isDg c=true then vL s*10+(c-48) else vL s:=by
 simp [vL,List.foldl_append]
theorem kL_snoc {s:List Nat} {c:Nat}:kL (s++[c])=kL s+if isDg c=true then 1 else 0:=by
 simp only [kL,List.countP_append,List.countP_cons,List.countP_nil]; omega
theorem snocI {P:List Nat→Prop} (h0:P []) (hs:∀ a c,P a→P (a++[c])):∀ s,P s:=by
 intro s
 rw [← List.reverse_reverse s]
 induction s.reverse with
 | nil=>exact h0
 | cons c t ih=>rw [List.reverse_cons]; exact hs _ _ ih
theorem isDg_iff {c:Nat}:isDg c=true↔48≤c∧c≤57:=by simp [isDg]
theorem vL_lt:∀ s,vL s<10 ^ kL s:=by
 refine snocI (by simp [vL,kL]) fun a c h=>?_
 rw [vL_snoc,kL_snoc]
 split
 ·rename_i hc
  have:=isDg_iff.1 hc
  rw [Nat.pow_succ]; omega
 ·simpa using h
theorem kL_le {s:List Nat}:kL s≤s.length:=List.countP_le_length
theorem digs_dg:∀ {n:Nat},∀ c∈digs n,isDg c=true:=by
 intro n
 induction n using Nat.strongRecOn with
 | _ n ih=>
  intro c hc
  by_cases h0:n=0
  ·subst h0; simp [digs] at hc
  ·rw [digs_s h0] at hc
   rcases qma.1 hc with q | q
   ·exact ih (n / 10) (by omega) c q
   ·obtain rfl:=List.mem_singleton.1 q
    exact isDg_iff.2 ⟨by omega,by omega⟩
theorem digs_v:∀ {n:Nat},vL (digs n)=n:=by
 intro n
 induction n using Nat.strongRecOn with
 | _ n ih=>
  by_cases h0:n=0
  ·subst h0; simp [digs,vL]
  ·rw [digs_s h0,vL_snoc,if_pos (isDg_iff.2 ⟨by omega,by omega⟩),ih (n / 10) (by omega)]
   omega
theorem digs_l {n:Nat} (h:n≠0):0<(digs n).length:=by rw [digs_s h]; simp
def pV (s:List Nat):Int:=if atB s 0=45∧0<s.length then -(vL s:Int) else vL s
def pOK (s:List Nat):Bool:=decide (-999999999≤pV s∧pV s≤999999999)&&decide (fmtI (pV s)=s)
def pR (s:List Nat):Int:=if pOK s=true then pV s else 0
theorem vL_45 {s:List Nat}:vL (45::s)=vL s:=rfl
theorem kL_45 {s:List Nat}:kL (45::s)=kL s:=rfl
theorem kL_dg {s:List Nat} (h:∀ c∈s,isDg c=true):kL s=s.length:=List.countP_eq_length.2 h
theorem at_cons {c:Nat} {s:List Nat}:atB (c::s) 0=c:=rfl
theorem at_z {s:List Nat}:atB s ((0:Nat):Int)=atB s 0:=rfl
theorem atB_mem {s:List Nat} {i:Nat} (h:i<s.length):atB s i∈s:=by
 simp [atB,h]
theorem fmt_pv {n:Int}:pV (fmtI n)=n:=by
 unfold fmtI
 split
 ·subst n; rfl
 ·rename_i h0
  split
  ·rename_i h1
   unfold pV
   rw [if_pos ⟨rfl,by simp⟩,vL_45,digs_v]; omega
  ·rename_i h1
   have hl:=digs_l (n:=n.natAbs) (by omega)
   have hm:=digs_dg (n:=n.natAbs) _ (atB_mem (s:=digs n.natAbs) hl)
   have hm:=isDg_iff.1 hm
   rw [at_z] at hm
   unfold pV
   rw [if_neg (by omega),digs_v]; omega
theorem pOK_fmt {n:Int} (h:-999999999≤n∧n≤999999999):pOK (fmtI n)=true:=by
 simp [pOK,fmt_pv,h]
theorem pR_fmt {n:Int} (h:-999999999≤n∧n≤999999999):pR (fmtI n)=n:=by
 simp [pR,pOK_fmt h,fmt_pv]
theorem pOK_shape {s:List Nat} (h:pOK s=true):(0<kL s∧kL s≤9)∧((atB s 0=45∧s.length=kL s+1)∨(atB s 0≠45∧s.length=kL s))∧∀ i:Nat,(if atB s 0=45 then 1 else 0)≤i→i<s.length→isDg (atB s i)=true:=by
 simp only [pOK,qba,qde] at h
 obtain ⟨hb,he⟩:=h
 generalize hn:pV s=n at hb he
 subst s
 clear hn
 unfold fmtI
 split
 ·exact ⟨by decide,by decide,fun i h1 h2=>by
   obtain rfl:i=0:=by simp only [qlc,qln] at h2; omega
   rfl⟩
 ·rename_i h0
  have hd:=digs_dg (n:=n.natAbs)
  have hl:=digs_l (n:=n.natAbs) (by omega)
  have h9:=digs_k (k:=9) (n:=n.natAbs) (by omega)
  have hk:=kL_dg hd
  split
  ·refine ⟨by rw [kL_45]; omega,.inl ⟨rfl,by rw [kL_45,hk,qlc]⟩,fun i h1 h2=>?_⟩
   rw [if_pos at_cons] at h1
   obtain ⟨k,rfl⟩:∃ k,i=k+1:=⟨i-1,by omega⟩
   have:atB (45::digs n.natAbs) ((k+1:Nat):Int)=atB (digs n.natAbs) k:=by simp [atB]
   rw [this]
   exact hd _ (atB_mem (by simpa using h2))
  ·have h45:=isDg_iff.1 (hd _ (atB_mem (i:=0) hl))
   rw [at_z] at h45
   exact ⟨by omega,.inr ⟨by omega,hk.symm⟩,fun i _ h2=>hd _ (atB_mem h2)⟩
theorem takeB {s:List Nat} {i:Nat} (h:i<s.length):s.take (i+1)=s.take i++[atB s i]:=by
 rw [qta h]; simp [atB,h]
theorem pV_pos {s:List Nat} (h:¬ (atB s 0=45∧0<s.length)):pV s=vL s:=if_neg h
theorem pV_neg {s:List Nat} (h:atB s 0=45∧0<s.length):pV s=-(vL s:Int):=if_pos h
theorem pOK_eq {s:List Nat}:pOK s=(decide (kL s≤9)&&decide (fmtI (pV s)=s)):=by
 by_cases h9:kL s≤9
 ·have hv:=vL_lt s
  have hp:10 ^ kL s≤10 ^ 9:=Nat.pow_le_pow_right (by omega) h9
  have hb:-999999999≤pV s∧pV s≤999999999:=by unfold pV; split <;> omega
  simp [pOK,hb,h9]
 ·have:pOK s=false:=by
   cases hc:pOK s
   ·rfl
   ·have:=(pOK_shape hc).1; omega
  simp [this,h9]
theorem pint_s [HA K] {s:List Nat} (hl:s.length≤1000000000):K 590 [.s s] [.n (pR s),.b (pOK s)]:=by
 refine body_by (f:=ir_spec_ParseInt) rfl ?_; simp only [ir_spec_ParseInt,zn,zs,zq,zi,zg,zp]
 simp (disch:=omega) only [vcd]
 refine loop_ix (fun i=>i≤s.length∧i≤11) (fun i=>[.s s,.u,.u,.n (vL (s.take i)),.n (kL (s.take i)),.n i,.u,.u,.u,.u]) (min s.length 11) (by simp) (by simp [vL,kL]) (fun i hi hP=>?_) (fun hP=>?_)
 ·have hv:=vL_lt (s.take i)
  have hk:=kL_le (s:=s.take i)
  have hp:10 ^ kL (s.take i)≤10 ^ 11:=Nat.pow_le_pow_right (by omega) (by simp only [List.length_take] at hk; omega)
  have hi2:i<s.length∧i<11:=by omega
  have et:=takeB hi2.1
  have hk2:kL (s.take i)≤i:=by simp only [List.length_take] at hk; omega
  have hwr:IntKind.i64.wrap ((kL (s.take i):Int)+1)=(kL (s.take i):Int)+1:=wrap_i64 ⟨by omega,by omega⟩
  rw [et,vL_snoc,kL_snoc]
  by_cases h1:48≤atB s i
  ·by_cases h2:atB s i≤57
   ·have hd:isDg (atB s i)=true:=isDg_iff.2 ⟨h1,h2⟩
    simp (disch:=omega) only [vcd,hd,hwr]
    refine ⟨⟨by omega,by omega⟩,?_⟩
    have ec:((vL (s.take i)*10+(atB s i-48):Nat):Int)=(vL (s.take i):Int)*10+((atB s i:Int)-48):=by omega
    rw [ec]; rfl
   ·have hd:isDg (atB s i)=false:=by simp [isDg,h2]
    simp (disch:=omega) only [vcd,hd]
    exact ⟨⟨by omega,by omega⟩,rfl⟩
  ·have hd:isDg (atB s i)=false:=by simp [isDg,h1]
   simp (disch:=omega) only [vcd,hd]
   exact ⟨⟨by omega,by omega⟩,rfl⟩
 ·obtain ⟨m,em⟩:∃ m,m=min s.length 11:=⟨_,rfl⟩
  rw [← em]
  rcases qlg s.length 11 with h11 | h11
  ·obtain rfl:m=s.length:=by omega
   rw [List.take_length]
   have hv:=vL_lt s
   have hk:=kL_le (s:=s)
   have hp:10 ^ kL s≤10 ^ 11:=Nat.pow_le_pow_right (by omega) (by omega)
   have eO:=pOK_eq (s:=s)
   have hb:-9223372036854775808≤pV s∧pV s≤9223372036854775807:=by unfold pV; split <;> omega
   have kf:=fmt_s (K:=K) (n:=pV s) hb
   by_cases h45:atB s 0=45∧0<s.length
   ·have eV:(0:Int)-(vL s:Int)=pV s:=by rw [pV_neg h45]; omega
    by_cases h9:kL s≤9
    ·simp (disch:=omega) only [vcd,h45.1,eV]
     refine call_by (kf) rfl ?_
     by_cases hf:fmtI (pV s)=s
     ·simp (disch:=omega) only [vcd,hf]
      simp [pR,eO,h9,hf]
     ·simp (disch:=omega) only [vcd,beq_eq_false_iff_ne.2 hf]
      simp [pR,eO,h9,hf]
    ·simp (disch:=omega) only [vcd,h45.1,eV]
     simp [pR,eO,h9]
   ·have eV:(vL s:Int)=pV s:=by rw [pV_pos h45]
    by_cases h9:kL s≤9
    ·by_cases h0:s.length=0
     ·simp (disch:=omega) only [vcd,eV]
      refine call_by (kf) rfl ?_
      by_cases hf:fmtI (pV s)=s
      ·simp (disch:=omega) only [vcd,hf]
       simp [pR,eO,h9,hf]
      ·simp (disch:=omega) only [vcd,beq_eq_false_iff_ne.2 hf]
       simp [pR,eO,h9,hf]
     ·have h46:atB s 0≠45:=fun q=>h45 ⟨q,by omega⟩
      simp (disch:=omega) only [vcd,h46,eV]
      refine call_by (kf) rfl ?_
      by_cases hf:fmtI (pV s)=s
      ·simp (disch:=omega) only [vcd,hf]
       simp [pR,eO,h9,hf]
      ·simp (disch:=omega) only [vcd,beq_eq_false_iff_ne.2 hf]
       simp [pR,eO,h9,hf]
    ·by_cases h0:s.length=0
     ·omega
     ·have h46:atB s 0≠45:=fun q=>h45 ⟨q,by omega⟩
      simp (disch:=omega) only [vcd,h46,eV]
      simp [pR,eO,h9]
  ·have hm:m=11:=by omega
   have eO:pOK s=false:=by
    cases hc:pOK s
    ·rfl
    ·have:=pOK_shape hc; omega
   by_cases hml:m<s.length
   ·by_cases h45:atB s 0=45
    ·by_cases h9:kL (s.take m)≤9
     ·simp (disch:=omega) only [vcd,h45]
      simp [pR,eO]
     ·simp (disch:=omega) only [vcd,h45]
      simp [pR,eO]
    ·by_cases h9:kL (s.take m)≤9
     ·simp (disch:=omega) only [vcd,h45]
      simp [pR,eO]
     ·simp (disch:=omega) only [vcd,h45]
      simp [pR,eO]
   ·by_cases h45:atB s 0=45
    ·by_cases h9:kL (s.take m)≤9
     ·simp (disch:=omega) only [vcd,h45]
      simp [pR,eO]
     ·simp (disch:=omega) only [vcd,h45]
      simp [pR,eO]
    ·by_cases h9:kL (s.take m)≤9
     ·simp (disch:=omega) only [vcd,h45]
      simp [pR,eO]
     ·simp (disch:=omega) only [vcd,h45]
      simp [pR,eO]
theorem kL_take {s:List Nat} {a:Nat}:∀ {i:Nat},a≤i→i≤s.length→(∀ j:Nat,a≤j→j<i→isDg (atB s j)=true)→kL (s.take i)=kL (s.take a)+(i-a):=by
 intro i
 induction i with
 | zero=>intro h1 _ _; obtain rfl:a=0:=by omega
         rfl
 | succ i ih=>
  intro h1 h2 h
  rcases qlg i a with q | q
  ·obtain rfl:a=i+1:=by omega
   omega
  ·rw [takeB (by omega),kL_snoc,ih q (by omega) (fun j h3 h4=>h j h3 (by omega)),if_pos (h i q (by omega))]; omega
theorem pOK_dg {s:List Nat} {a i:Nat} (ha:a=if atB s 0=45 then 1 else 0) (h1:a≤i) (h2:i<s.length) (h:isDg (atB s i)=false):pOK s=false:=by
 cases hc:pOK s
 ·rfl
 ·have:=(pOK_shape hc).2.2 i (by omega) h2
  rw [h] at this; cases this
theorem pOK_len {s:List Nat} {a:Nat} (ha:a=if atB s 0=45 then 1 else 0) (h:¬ (a+1≤s.length∧s.length≤a+9)):pOK s=false:=by
 cases hc:pOK s
 ·rfl
 ·have h1:=pOK_shape hc
  split at ha <;> omega
theorem pintA_i [HA K] {s:List Nat} {a:Nat} (hl:s.length≤1000000000) (ha:a=if atB s 0=45 then 1 else 0) (hb:a+1≤s.length∧s.length≤a+9):K 562 [.s s] [.n (pR s),.b (pOK s)]:=by
 have h0:0<s.length:=by omega
 have ka:kL (s.take a)=0:=by
  split at ha
  ·subst a
   rw [takeB h0,at_z]
   rename_i h45
   rw [h45]; rfl
  ·subst a; rfl
 have kw:=within_ok (K:=K) (x:=(s.length:Int)-a) (a:=1) (b:=9)
 have e1:inR 1 9 ((s.length:Int)-a)=true:=inR_iff.2 (by omega)
 rw [e1] at kw
 have kb:∀ i:Nat,i≤s.length→vL (s.take i)<10 ^ kL (s.take i):=fun i _=>vL_lt _
 refine body_by (f:=ir_impl_ParseInt) rfl ?_; simp only [ir_impl_ParseInt,zn,zs,zq,zi,zg,zp]
 by_cases h45:atB s 0=45
 ·obtain rfl:a=1:=by rw [ha,if_pos h45]
  simp (disch:=omega) only [vcd,h45]
  refine call_by (kw) rfl ?_
  simp (disch:=omega) only [vcd]
  refine loop_ix (fun i=>∀ j:Nat,1≤j→j<(i+1)→isDg (atB s j)=true) (fun i=>[.s s,.u,.u,.n 1,.n (vL (s.take (i+1))),.n ((i:Int)+1),.u,.u,.u,.u,.u,.u]) (s.length-1) (by omega) (by simp [vL,takeB,h0,h45,at_z,isDg]) (fun i hi hP=>?_) (fun hP=>?_)
  ·have hkt:=kL_take (s:=s) (a:=1) (i:=(i+1)) (by omega) (by omega) hP
   have hv:=kb (i+1) (by omega)
   have hp:10 ^ kL (s.take (i+1))≤10 ^ 9:=Nat.pow_le_pow_right (by omega) (by omega)
   by_cases hd:isDg (atB s ((i:Int)+1))=true
   ·have hd2:=isDg_iff.1 hd
    have et:=takeB (s:=s) (i:=(i+1)) (by omega)
    simp (disch:=omega) only [vcd]
    refine ⟨fun j h1 h2=>?_,?_⟩
    ·rcases qlg j (i+1) with q | q
     ·exact hP j h1 q
     ·obtain rfl:j=(i+1):=by omega
      exact hd
    ·rw [et,vL_snoc,if_pos (by exact hd)]
     have ec:((vL (s.take (i+1))*10+(atB s ((i+1):Nat)-48):Nat):Int)=10*(vL (s.take (i+1)):Int)+((atB s ((i:Int)+1):Int)-48):=by
      have:atB s (((i+1):Nat):Int)=atB s ((i:Int)+1):=rfl
      omega
     rw [ec]
     rfl
   ·have hO:=pOK_dg (i:=(i+1)) ha (by omega) (by omega) (by simpa using hd)
    simp only [isDg,qba,qde] at hd
    by_cases h1:atB s ((i:Int)+1)<48
    ·simp (disch:=omega) only [vcd]
     simp [pR,hO]
    ·simp (disch:=omega) only [vcd]
     simp [pR,hO]
  ·have hkt:=kL_take (s:=s) (a:=1) (i:=s.length) (by omega) (by omega) (fun j h1 h2=>hP j h1 (by omega))
   have e2:s.take ((s.length-1)+1)=s:=by rw [Nat.sub_add_cancel h0,List.take_length]
   rw [List.take_length] at hkt
   have hv:=vL_lt s
   have hp:10 ^ kL s≤10 ^ 9:=Nat.pow_le_pow_right (by omega) (by omega)
   have eO:=pOK_eq (s:=s)
   have h9:kL s≤9:=by omega
   have hbp:-9223372036854775808≤pV s∧pV s≤9223372036854775807:=by unfold pV; split <;> omega
   have kf:=fmt_i (K:=K) (n:=pV s) hbp
   have eV:(0:Int)-(vL s:Int)=pV s:=by rw [pV_neg ⟨h45,h0⟩]; omega
   rw [e2]
   simp (disch:=omega) only [vcd,eV]
   refine call_by (kf) rfl ?_
   by_cases hf:fmtI (pV s)=s
   ·simp (disch:=omega) only [vcd,hf]
    simp [pR,eO,h9,hf]
   ·simp (disch:=omega) only [vcd,beq_eq_false_iff_ne.2 hf]
    simp [pR,eO,h9,hf]
 ·obtain rfl:a=0:=by rw [ha,if_neg h45]
  simp (disch:=omega) only [vcd,h45]
  refine call_by (kw) rfl ?_
  simp (disch:=omega) only [vcd]
  refine loop_ix (fun i=>∀ j:Nat,0≤j→j<i→isDg (atB s j)=true) (fun i=>[.s s,.u,.u,.n 0,.n (vL (s.take i)),.n (i:Int),.u,.u,.u,.u,.u,.u]) s.length (by omega) (by simp [vL,takeB,h0,h45,at_z,isDg]) (fun i hi hP=>?_) (fun hP=>?_)
  ·have hkt:=kL_take (s:=s) (a:=0) (i:=i) (by omega) (by omega) hP
   have hv:=kb i (by omega)
   have hp:10 ^ kL (s.take i)≤10 ^ 9:=Nat.pow_le_pow_right (by omega) (by omega)
   by_cases hd:isDg (atB s (i:Int))=true
   ·have hd2:=isDg_iff.1 hd
    have et:=takeB (s:=s) (i:=i) (by omega)
    simp (disch:=omega) only [vcd]
    refine ⟨fun j h1 h2=>?_,?_⟩
    ·rcases qlg j i with q | q
     ·exact hP j h1 q
     ·obtain rfl:j=i:=by omega
      exact hd
    ·rw [et,vL_snoc,if_pos (by exact hd)]
     have ec:((vL (s.take i)*10+(atB s (i:Nat)-48):Nat):Int)=10*(vL (s.take i):Int)+((atB s (i:Int):Int)-48):=by
      have:atB s ((i:Nat):Int)=atB s (i:Int):=rfl
      omega
     rw [ec]
     rfl
   ·have hO:=pOK_dg (i:=i) ha (by omega) (by omega) (by simpa using hd)
    simp only [isDg,qba,qde] at hd
    by_cases h1:atB s (i:Int)<48
    ·simp (disch:=omega) only [vcd]
     simp [pR,hO]
    ·simp (disch:=omega) only [vcd]
     simp [pR,hO]
  ·have hkt:=kL_take (s:=s) (a:=0) (i:=s.length) (by omega) (by omega) (fun j h1 h2=>hP j h1 (by omega))
   have e2:s.take (s.length)=s:=by rw [List.take_length]
   rw [List.take_length] at hkt
   have hv:=vL_lt s
   have hp:10 ^ kL s≤10 ^ 9:=Nat.pow_le_pow_right (by omega) (by omega)
   have eO:=pOK_eq (s:=s)
   have h9:kL s≤9:=by omega
   have hbp:-9223372036854775808≤pV s∧pV s≤9223372036854775807:=by unfold pV; split <;> omega
   have kf:=fmt_i (K:=K) (n:=pV s) hbp
   have eV:(vL s:Int)=pV s:=by rw [pV_pos (fun q=>h45 q.1)]
   rw [e2]
   simp (disch:=omega) only [vcd,eV]
   refine call_by (kf) rfl ?_
   by_cases hf:fmtI (pV s)=s
   ·simp (disch:=omega) only [vcd,hf]
    simp [pR,eO,h9,hf]
   ·simp (disch:=omega) only [vcd,beq_eq_false_iff_ne.2 hf]
    simp [pR,eO,h9,hf]
theorem pint_i [HA K] {s:List Nat} (hl:s.length≤1000000000):K 562 [.s s] [.n (pR s),.b (pOK s)]:=by
 obtain ⟨a,ha⟩:∃ a:Nat,a=if atB s 0=45 then 1 else 0:=⟨_,rfl⟩
 by_cases hb:a+1≤s.length∧s.length≤a+9
 ·exact pintA_i hl ha hb
 ·have hO:=pOK_len ha hb
  have eR:pR s=0:=by simp [pR,hO]
  have kw:=within_ok (K:=K) (x:=(s.length:Int)-a) (a:=1) (b:=9)
  have e1:inR 1 9 ((s.length:Int)-a)=false:=by
   cases hc:inR 1 9 ((s.length:Int)-a)
   ·rfl
   ·have:=inR_iff.1 hc; omega
  rw [e1] at kw
  rw [hO,eR]
  refine body_by (f:=ir_impl_ParseInt) rfl ?_; simp only [ir_impl_ParseInt,zn,zs,zq,zi,zg,zp]
  by_cases h0:s.length=0
  ·obtain rfl:s=[]:=List.length_eq_zero_iff.1 h0
   obtain rfl:a=0:=by rw [ha]; rfl
   simp (disch:=omega) only [vcd]
   refine call_by (kw) rfl ?_
   simp (disch:=omega) only [vcd]
  ·by_cases h45:atB s 0=45
   ·obtain rfl:a=1:=by rw [ha,if_pos h45]
    simp (disch:=omega) only [vcd,h45]
    refine call_by (kw) rfl ?_
    simp (disch:=omega) only [vcd]
   ·obtain rfl:a=0:=by rw [ha,if_neg h45]
    simp (disch:=omega) only [vcd,h45]
    refine call_by (kw) rfl ?_
    simp (disch:=omega) only [vcd]
def cutA (by_:Nat):List Nat→List Nat→List (List Nat)
 | acc,[]=>[acc]
 | acc,c::t=>if c=by_ then acc::cutA by_ [] t else cutA by_ (acc++[c]) t
def cutF (by_:Nat) (s:List Nat):List (List Nat):=cutA by_ [] s
theorem cutA_mem {b:Nat}:∀ {s acc:List Nat} {p:List Nat},p∈cutA b acc s→p.length≤acc.length+s.length
 | [],acc,p,h=>by
  obtain rfl:=List.mem_singleton.1 h
  simp
 | c::t,acc,p,h=>by
  unfold cutA at h
  split at h
  ·rcases qmn.1 h with rfl | q
   ·simp
   ·have:=cutA_mem q
    simp only [qln,qlc] at *; omega
  ·have:=cutA_mem h
   simp only [qla,qlc,qln] at *; omega
theorem cutA_len {b:Nat}:∀ {s acc:List Nat},0<(cutA b acc s).length∧(cutA b acc s).length≤s.length+1
 | [],acc=>by simp [cutA]
 | c::t,acc=>by
  unfold cutA
  split
  ·have:=cutA_len (b:=b) (s:=t) (acc:=[])
   simp only [qlc]; omega
  ·have:=cutA_len (b:=b) (s:=t) (acc:=acc++[c])
   simp only [qlc]; omega
theorem cutA_step {b:Nat} {s acc:List Nat} {i:Nat} (h:i<s.length):cutA b acc (s.drop i)=if atB s i=b then acc::cutA b [] (s.drop (i+1)) else cutA b (acc++[atB s i]) (s.drop (i+1)):=by
 rw [dropB h]; rfl
def sep (b:Nat):List (List Nat)→List Nat
 | []=>[]
 | [p]=>p
 | p::q::t=>p++b::sep b (q::t)
theorem cutA_no {b:Nat}:∀ {p acc r:List Nat},b∉p→cutA b acc (p++r)=cutA b (acc++p) r
 | [],acc,r,_=>by simp
 | c::t,acc,r,h=>by
  simp only [qmn,not_or] at h
  rw [List.cons_append,cutA,if_neg (fun q=>h.1 q.symm),cutA_no h.2]; simp
theorem cut_sep {b:Nat}:∀ {ps:List (List Nat)},ps≠[]→(∀ p∈ps,b∉p)→cutF b (sep b ps)=ps
 | [],h,_=>absurd rfl h
 | [p],_,h=>by
  have:=cutA_no (b:=b) (p:=p) (acc:=[]) (r:=[]) (h p (by simp))
  simpa [cutF,sep,cutA] using this
 | p::q::t,_,h=>by
  have h1:=cutA_no (b:=b) (p:=p) (acc:=[]) (r:=b::sep b (q::t)) (h p (by simp))
  have h2:=cut_sep (b:=b) (ps:=q::t) (by simp) (fun x hx=>h x (by simp [hx]))
  unfold cutF at h2
  rw [cutF,sep,h1,cutA,if_pos rfl,h2]; simp
end Go.Cat
