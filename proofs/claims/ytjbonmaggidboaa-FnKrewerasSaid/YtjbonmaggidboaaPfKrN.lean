/-
 The law of Kreweras.
-/
import Derived.Test.YtjbonmaggidboaaPfKrM
set_option linter.unusedSimpArgs false
set_option linter.unusedVariables false
namespace Go.Cat
variable {K:Nat→List D→List D→Prop}
set_option maxRecDepth 100000
theorem jon_s [HA K] {a b:List Int} (ha:a.length≤5) (hb:b.length≤5):∃ x g,K 440 [LI a,LI b] [LI x,.b g]∧x.length≤5:=by
 cases h:jnK a b
 ·exact ⟨[],false,coj_s0 (K:=K) (by omega) (by omega) h,by simp⟩
 ·obtain ⟨k,k1,k2,_,_,_,hk,_⟩:=join_all (K:=K) h ha
  exact ⟨k,true,k2,by omega⟩
theorem l19Two_ok [HA K] {code:List Nat} (h:code.length≤1048576):∃ rs,(∃ a b,rs=[LI a,LI b]∧(ncF a=true∧a.length≤5)∧b.length≤6)∧K 480 [LB code] rs:=by
 refine body_ex (f:=ir_spec_l19Two) rfl ?_; simp only [ir_spec_l19Two,zn,zs,zq,zi,zg,zp]
 obtain ⟨_,⟨d,rfl,hd⟩,k1⟩:=l1New_ok (K:=K) h
 obtain ⟨_,⟨n,d1,rfl,hn,hd1⟩,k2⟩:=l1Below_ok (K:=K) hd (n:=6)
 have hn:=hn.2 (by omega)
 obtain ⟨_,⟨w,d2,rfl,hw,hd2⟩,k3⟩:=l2Draw_ok (K:=K) hd1 (n:=n) (by omega)
 have hp:=ptwK_nc (w:=w) (by omega)
 obtain ⟨_,⟨b1,d3,rfl,hd3⟩,k4⟩:=l1Once_ok (K:=K) hd2 (n:=10)
 simp (disch:=first|omega|simp only[vl];omega) only [vcd]
 refine call_by (k1) rfl ?_
 simp (disch:=first|omega|simp only[vl];omega) only [vcd]
 refine call_by (k2) rfl ?_
 simp (disch:=first|omega|simp only[vl];omega) only [vcd]
 refine call_by (k3) rfl ?_
 simp (disch:=first|omega|simp only[vl];omega) only [vcd]
 refine call_by (ptwK_s (K:=K) (w:=w) (by omega)) rfl ?_
 simp (disch:=first|omega|simp only[vl];omega) only [vcd]
 refine call_by (k4) rfl ?_
 cases b1
 ·obtain ⟨_,⟨w2,d4,rfl,hw2,hd4⟩,k5⟩:=l2Draw_ok (K:=K) hd3 (n:=n) (by omega)
  have hq:=ptwK_nc (w:=w2) (by omega)
  obtain ⟨_,⟨b2,d5,rfl,hd5⟩,k6⟩:=l1Once_ok (K:=K) hd4 (n:=2)
  simp (disch:=first|omega|simp only[vl];omega) only [vcd]
  refine call_by (k5) rfl ?_
  simp (disch:=first|omega|simp only[vl];omega) only [vcd]
  refine call_by (ptwK_s (K:=K) (w:=w2) (by omega)) rfl ?_
  simp (disch:=first|omega|simp only[vl];omega) only [vcd]
  refine call_by (k6) rfl ?_
  cases b2
  ·simp (disch:=first|omega|simp only[vl];omega) only [vcd]
   exact ⟨_,_,rfl,hp,by omega⟩
  ·obtain ⟨x,g,k7,hx⟩:=jon_s (K:=K) hp.2 hq.2
   simp (disch:=first|omega|simp only[vl];omega) only [vcd]
   refine call_by (k7) rfl ?_
   cases g
   ·simp (disch:=first|omega|simp only[vl];omega) only [vcd]
    exact ⟨_,_,rfl,hp,by omega⟩
   ·simp (disch:=first|omega|simp only[vl];omega) only [vcd]
    exact ⟨_,_,rfl,hp,by omega⟩
 ·obtain ⟨_,⟨x,d4,rfl,hx,hd4⟩,k5⟩:=l8Any_ok (K:=K) hd3
  simp (disch:=first|omega|simp only[vl];omega) only [vcd]
  refine call_by (k5) rfl ?_
  simp (disch:=first|omega|simp only[vl];omega) only [vcd]
  exact ⟨_,_,rfl,hp,hx⟩
theorem DrawCoarserJoin_ok [HA K] {code:List Nat} (h:code.length≤1048576):∃ rs,(∃ a b,rs=[LI a,LI b]∧(ncF a=true∧a.length≤5)∧b.length≤6)∧K 438 [LB code] rs:=by
 refine body_ex (f:=ir_spec_DrawCoarserJoin) rfl ?_; simp only [ir_spec_DrawCoarserJoin,zn,zs,zq,zi,zg,zp]
 obtain ⟨_,⟨a,b,rfl,ha,hb⟩,k1⟩:=l19Two_ok (K:=K) h
 simp (disch:=first|omega|simp only[vl];omega) only [vcd]
 refine call_by (k1) rfl ?_
 simp (disch:=first|omega|simp only[vl];omega) only [vcd]
 exact ⟨_,_,rfl,ha,hb⟩
theorem DrawMoebiusOf_ok [HA K] {code:List Nat} (h:code.length≤1048576):∃ rs,(∃ a b,rs=[LI a,LI b]∧(ncF a=true∧a.length≤5)∧b.length≤6)∧K 448 [LB code] rs:=by
 refine body_ex (f:=ir_spec_DrawMoebiusOf) rfl ?_; simp only [ir_spec_DrawMoebiusOf,zn,zs,zq,zi,zg,zp]
 obtain ⟨_,⟨a,b,rfl,ha,hb⟩,k1⟩:=l19Two_ok (K:=K) h
 simp (disch:=first|omega|simp only[vl];omega) only [vcd]
 refine call_by (k1) rfl ?_
 simp (disch:=first|omega|simp only[vl];omega) only [vcd]
 exact ⟨_,_,rfl,ha,hb⟩
theorem lowF_s {i:Nat}:lowF (i+1)=lowF i++[(i:Int)]:=by simp [lowF,List.range_succ]
theorem lowF_len {i:Nat}:(lowF i).length=i:=by simp [lowF]
theorem chain_all [HA K] {g h:Int} (hg:0≤g∧g≤5) (hh:0≤h∧h≤6):∃ i,K 446 [.n g,.n h] [.n i]∧K 447 [.n g,.n h] [.n i]∧(-1≤i∧i≤10000000)∧(0≤i→0<g→∃ v,K 10 [.n (g-1),.n ((h+1)*g-g+1)] [.n v]∧((h+1)*g-g+1≤15→g*i=v)):=by
 by_cases hb:(0≤g∧g≤4)∧1≤h∧h≤5
 ·obtain ⟨n,rfl⟩:=qoz hg.1
  obtain ⟨k,rfl⟩:=qoz hh.1
  have b:=ckT_bd (n:=n) (k:=k) (by omega) (by omega)
  refine ⟨ckT n k,ckn_i (K:=K) (by omega) (by omega),ckn_s (K:=K) (by omega) (by omega),by omega,fun _ h0=>?_⟩
  have e1:((k:Int)+1)*n-n+1=((k*n+1:Nat):Int):=by
   have:((k:Int)+1)*n=(k:Int)*n+n:=by rw [Int.add_mul]; simp
   rw [this]
   simp
  have e2:(n:Int)-1=((n-1:Nat):Int):=by omega
  have hk:=allB_spec (allB_spec cwK0 n (by omega)) k (by omega)
  simp only [Bool.or_eq_true,beq_iff_eq,qde] at hk
  rw [e1,e2]
  rcases hk with c | c | c | c
  ·omega
  ·omega
  ·exact ⟨-1,cw_out_i (K:=K) (a:=((n-1:Nat):Int)) (b:=((k*n+1:Nat):Int)) (fun q=>by
    have q2:=q.2.2
    have:k*n+1≤15:=by exact_mod_cast q2
    omega),fun q=>by omega⟩
  ·have:=run (K:=K) tcwi 60 8 10 (isN_spec c)
   exact ⟨_,this,fun _=>by unfold cwK; exact Int.mul_comm _ _⟩
 ·exact ⟨-1,ckn_i0 (K:=K) (by omega),ckn_s0 (K:=K) (by omega),by omega,fun h=>by omega⟩
