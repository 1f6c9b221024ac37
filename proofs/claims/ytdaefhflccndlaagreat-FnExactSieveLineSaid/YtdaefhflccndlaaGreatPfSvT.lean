/-
 The sieve: turns, what is kept, orbits.
-/
import Derived.Test.YtdaefhflccndlaaGreatPfSvS
set_option linter.unusedSimpArgs false
set_option linter.unusedVariables false
namespace Go.Cat
variable {K:Nat→List D→List D→Prop}
theorem apd5 {n:Nat} (hn:1≤n∧n≤5) {w:List Nat} (hw:w∈pathsR n):dyck w=true∧w.length=2*n:=apd (by omega) hw
theorem mate_rg {w:List Nat} (hd:dyck w=true) (hl:w.length≤16):matF (mateC w)=true∧(mateC w).length=w.length∧∀ i:Nat,i<(mateC w).length→0≤atI (mateC w) i∧atI (mateC w) i<(mateC w).length:=by
 have hp:=mate_PP hd
 rw [mateC_eq hd] at hp
 have hm:matF (mateC w)=true:=PP_mt hl hp
 refine ⟨hm,hp.1,fun i hi=>?_⟩
 have:=inR_iff.1 ((matF_t hm).2 i hi).1
 omega
theorem l15t_s [HA K] {f n k:Nat} (hf:f<3) (hn:1≤n∧n≤5) {w:List Nat} (hw:w∈pathsR n) (hk:k<orF f n∨k=1):K 584 [.s (fmN f),.s w,.n k] [.s (t15 f n k w)]:=by
 obtain ⟨hd,hl⟩:=apd5 hn hw
 obtain ⟨c1,c2,c3⟩:=svC_ok hn hw
 have hl2:(w.length:Int) / 2=n:=by omega
 refine body_by (f:=ir_spec_l15Turn) rfl ?_; simp only [ir_spec_l15Turn,zn,zs,zq,zi,zg,zp]
 simp (disch:=first|omega|simp only[vl];omega) only [vcd,hl2]
 rcases f3 hf with rfl | rfl | rfl
 ·obtain ⟨m1,m2,m3⟩:=mate_rg hd (by omega)
  have hkk:k % (2*n)<2*n:=Nat.mod_lt _ (by omega)
  have em:(k:Int) % (2*(n:Int))=((k % (2*n):Nat):Int):=by simp [Int.natCast_emod]
  have kt:=tum_s (K:=K) (m:=mateC w) (k:=k % (2*n)) m1 (by omega) (by omega) m3
  have km:=(mat_ok (K:=K) hd).2
  rw [mateC_eq hd] at km
  simp (disch:=first|omega|simp only[vl];omega) only [vcd,show (fmN 0 == [109,97,116,99,104,105,110,103,115])=true from rfl]
  refine call_by (km) rfl ?_
  simp (disch:=first|omega|simp only[vl];omega) only [vcd,em]
  refine call_by (kt) rfl ?_
  simp (disch:=first|omega|simp only[vl];omega) only [vcd]
  have kq:=pom_s (K:=K) (m:=tmT (mateC w) (k % (2*n))) (by rw [tmT_len]; omega)
  refine call_by (kq) rfl ?_
  simp (disch:=first|omega|simp only[vl];omega) only [vcd]
  rfl
 ·have kp:=(ptn_ok (K:=K) hd).2
  rw [ptnC_eq hd] at kp
  simp (disch:=first|omega|simp only[vl];omega) only [vcd,show (fmN 1 == [109,97,116,99,104,105,110,103,115])=false from rfl,show (fmN 1 == [112,97,114,116,105,116,105,111,110,115])=true from rfl]
  refine call_by (kp) rfl ?_
  simp (disch:=first|omega|simp only[vl];omega) only [vcd]
  have hkn:k<n+1:=by
   simp only [orF] at hk; omega
  refine loop_fold (fun _ p=>tpT p) (fun _ _=>True) (fun i p=>[.u,.u,.n k,.u,.u,.u,.u,.u,LI p,.n i,.u,.u,.u,.u,.u,.u,.u,.u,.u,.u]) k (ptnC w) trivial rfl (fun _ _ _ _=>trivial) (fun i p hi _ hp=>?_) (fun p hp _=>?_)
  ·have q:=c3 i (by omega)
   rw [svP,← hp,qba,qde] at q
   simp (disch:=first|omega|simp only[vl];omega) only [vcd]
   refine call_by (tup_s (K:=K) (p:=p) q.1 q.2) rfl ?_
   simp (disch:=first|omega|simp only[vl];omega) only [vcd]
  ·have q:=c3 k (by omega)
   rw [svP,← hp,qba,qde] at q
   have q8:p.length≤8:=by
    have:=q.1
    simp [isPt] at this
    exact this.1
   simp (disch:=first|omega|simp only[vl];omega) only [vcd]
   refine call_by (pto_s (K:=K) (p:=p) (by omega)) rfl ?_
   simp (disch:=first|omega|simp only[vl];omega) only [vcd]
   rw [t15,← hp]
 ·simp only [svA,qba,qde] at c1
  obtain ⟨a1,a2,a3⟩:=c1
  have hbt:btF w=btC w:=by rw [← a1,btF_p,a1]
  have hbn:(btC w).n≤8:=by
   have:=BT.pl (btC w)
   rw [a1] at this
   omega
  have hkk:k % (n+2)<n+2:=Nat.mod_lt _ (by omega)
  have em:(k:Int) % ((n:Int)+2)=((k % (n+2):Nat):Int):=by
   rw [Int.natCast_emod]; rfl
  have hb:=bino_s (K:=K) hd
  rw [hbt] at hb
  have c4:=c2 _ hkk
  simp only [svK,qba] at c4
  have h3:=rwB_3 c4.2
  have htl:=triF_len c4.1
  have hbo:=bot_s (K:=K) (n:=(n:Int)+2) (d:=tyT ((n:Int)+2) ((k % (n+2):Nat):Int) (tgF (btC w))) (by omega) (by omega) h3
  rw [if_pos c4.1] at hbo
  simp (disch:=first|omega|simp only[vl];omega) only [vcd,show (fmN 2 == [109,97,116,99,104,105,110,103,115])=false from rfl,show (fmN 2 == [112,97,114,116,105,116,105,111,110,115])=false from rfl]
  refine call_by (hb) rfl ?_
  simp (disch:=first|omega|simp only[vl];omega) only [vcd]
  refine call_by (trg_s (K:=K) (x:=btC w) hbn) rfl ?_
  simp (disch:=first|omega|simp only[vl];omega) only [vcd,em]
  refine call_by (typ_s (K:=K) (n:=(n:Int)+2) (k:=((k % (n+2):Nat):Int)) a2 (rwB_3 a3) (by omega)) rfl ?_
  simp (disch:=first|omega|simp only[vl];omega) only [vcd]
  refine call_by (hbo) rfl ?_
  simp (disch:=first|omega|simp only[vl];omega) only [vcd]
  refine call_by (pbin_s (K:=K) (btT_n c4.1)) rfl ?_
  simp (disch:=first|omega|simp only[vl];omega) only [vcd]
  rfl
def fxS (f n k:Nat):Nat:=(pathsR n).countP fun w=>decide (t15 f n k w=w)
theorem cntP_take {α:Type} {l:List (List Nat)} {p:List Nat→Bool} {i:Nat} (h:i<l.length):(l.take (i+1)).countP p=(l.take i).countP p+if p (atS l i)=true then 1 else 0:=by
 rw [qta h,List.countP_append]
 simp [atS,h,List.countP_cons]
theorem atS_memP {l:List (List Nat)} {i:Nat} (h:i<l.length):atS l i∈l:=by simp [atS,h]
theorem pathsR_132 {n:Nat} (h:n<7):(pathsR n).length≤132:=by
 have:=allB_spec apd0 n h
 simp only [qba,qde] at this
 exact this.2
theorem fix_s [HA K] {f n k:Nat} (hf:f<3) (hn:1≤n∧n≤5) (hk:k<orF f n):K 568 [.s (fmN f),.n n,.n k] [.n (fxS f n k)]:=by
 have ho:=orF_le hf hn.2
 have hp:=pathsR_132 (n:=n) (by omega)
 refine body_by (f:=ir_spec_FixedByTurn) rfl ?_; simp only [ir_spec_FixedByTurn,zn,zs,zq,zi,zg,zp]
 simp (disch:=first|omega|simp only[vl];omega) only [vcd]
 refine call_by (ord_s (K:=K) hf hn) rfl ?_
 simp (disch:=first|omega|simp only[vl];omega) only [vcd]
 refine call_by (l1In_ok (K:=K)) rfl ?_
 rw [show inR 0 ((orF f n:Int)-1) k=true from inR_iff.2 (by omega)]
 simp (disch:=first|omega|simp only[vl];omega) only [vcd]
 refine call_by (pl_s (K:=K) (n:=n) (by omega)) rfl ?_
 simp (disch:=first|omega|simp only[vl];omega) only [vcd]
 refine loop_up (fun i (c:Nat)=>c=((pathsR n).take i).countP (fun w=>decide (t15 f n k w=w))) (fun i c=>[.s (fmN f),.u,.n k,.u,.u,LS (pathsR n),.n c,.n i,.u,.u,.u]) (pathsR n).length 0 rfl rfl (fun i c hi hP=>?_) (fun c hP=>?_)
 ·have hw:=atS_memP hi
  have hc:c≤132:=by
   rw [hP]
   have:=List.countP_le_length (p:=fun w=>decide (t15 f n k w=w)) (l:=(pathsR n).take i)
   simp only [List.length_take] at this
   omega
  have hs:=cntP_take (p:=fun w=>decide (t15 f n k w=w)) hi (α:=Nat)
  simp (disch:=first|omega|simp only[vl];omega) only [vcd]
  refine call_by (l15t_s (K:=K) hf hn hw (.inl hk)) rfl ?_
  by_cases he:t15 f n k (atS (pathsR n) i)=atS (pathsR n) i
  ·simp (disch:=first|omega|simp only[vl];omega) only [vcd,show (t15 f n k (atS (pathsR n) i) == atS (pathsR n) i)=true from beq_iff_eq.2 he]
   refine ⟨c+1,?_,by simp⟩
   rw [hs,hP]; simp [he]
  ·simp (disch:=first|omega|simp only[vl];omega) only [vcd,show (t15 f n k (atS (pathsR n) i) == atS (pathsR n) i)=false from beq_eq_false_iff_ne.2 he]
   refine ⟨c,?_,rfl⟩
   rw [hs,hP]; simp [he]
 ·rw [List.take_of_length_le (by omega)] at hP
  simp (disch:=first|omega|simp only[vl];omega) only [vcd]
  rw [hP]; rfl
theorem has_s [HA K] {l:List (List Nat)} {x:List Nat} (h:l.length≤100000):K 378 [LS l,.s x] [.b (l.contains x)]:=by
 refine body_by (f:=ir_spec_l15Has) rfl ?_; simp only [ir_spec_l15Has,zn,zs,zq,zi,zg,zp]
 simp (disch:=first|omega|simp only[vl];omega) only [vcd]
 refine loop_ix (fun i=>l.contains x=(l.drop i).contains x) (fun i=>[LS l,.s x,.u,.n i,.u,.u]) l.length (by simp) rfl (fun i hi hP=>?_) (fun hP=>?_)
 ·have hd:l.drop i=atS l i::l.drop (i+1):=by rw [List.drop_eq_getElem_cons hi]; simp [atS,hi]
  rw [hd,List.contains_cons] at hP
  by_cases he:atS l i=x
  ·simp (disch:=first|omega|simp only[vl];omega) only [vcd,show (atS l i == x)=true from beq_iff_eq.2 he]
   rw [hP]; simp [he]
  ·simp (disch:=first|omega|simp only[vl];omega) only [vcd,show (atS l i == x)=false from beq_eq_false_iff_ne.2 he]
   rw [hP]
   simp [Ne.symm he]
 ·rw [List.drop_length] at hP
  simp (disch:=first|omega|simp only[vl];omega) only [vcd]
  rw [hP]; simp
end Go.Cat
