/-
 Paths and their ranks: the plain law, and the walks.
-/
import Derived.Test.YtdifmcppfcbgdaaGreatPfRankA
import Derived.Test.YtdifmcppfcbgdaaGreatPfPath
set_option linter.unusedSimpArgs false
set_option linter.unusedVariables false
namespace Go.Cat
variable {K:Nat→List D→List D→Prop}
set_option maxRecDepth 100000
theorem bw_succ {u d:Nat}:bw (u+1) (d+1)=if d<u then 0 else bw u (d+1)+bw (u+1) d:=rfl
theorem bw_zero {d:Nat}:bw 0 d=1:=rfl
theorem bw_low {u d:Nat} (h:d<u):bw u d=0:=by
 cases u with
 | zero=>omega
 | succ u=>
  cases d with
  | zero=>rfl
  | succ d=>rw [bw_succ,if_pos (by omega)]
def fsU (u d:Nat):Nat:=match u with
 | 0=>0
 | u+1=>bw u d
theorem bw_split {u d:Nat} (h:u≤d) (hd:0<d):bw u d=fsU u d+bw u (d-1):=by
 cases d with
 | zero=>omega
 | succ d=>
  cases u with
  | zero=>rfl
  | succ u=>rw [bw_succ,if_neg (by omega)]; rfl
def unr:Nat→Nat→Nat→Nat→List Nat
 | 0,_,_,_=>[]
 | n+1,u,d,k=>if k<fsU u d then 117::unr n (u-1) d k else 100::unr n u (d-1) (k-fsU u d)
def rkF:List Nat→Nat→Nat→Nat
 | [],_,_=>0
 | c::w,u,d=>if c=117 then rkF w (u-1) d else fsU u d+rkF w u (d-1)
def gw (u d:Nat) (w:List Nat):Prop:=u≤d∧w.length=u+d∧walkH w ((d:Int)-u)=some 0
theorem walkH_ge:∀ {w:List Nat} {h k:Int},walkH w h=some k→h≤k+w.length
 | [],h,k,e=>by simp only [walkH,qsj] at e; subst e; simp
 | c::w,h,k,e=>by
  simp only [walkH] at e
  simp only [qlc]
  split at e
  ·have:=walkH_ge e; omega
  ·split at e
   ·split at e
    ·cases e
    ·have:=walkH_ge e; omega
   ·cases e
theorem gw_u {u d:Nat} {w:List Nat} (h:gw u d (117::w)):∃ u',u=u'+1∧gw u' d w:=by
 obtain ⟨h1,h2,h3⟩:=h
 simp only [walkH,if_true] at h3
 have:=walkH_ge h3
 simp only [qlc] at h2
 cases u with
 | zero=>omega
 | succ u=>exact ⟨u,rfl,by omega,by omega,by rw [← h3]; congr 1; omega⟩
theorem gw_d {u d:Nat} {w:List Nat} {c:Nat} (h:gw u d (c::w)) (hc:c≠117):c=100∧u<d∧gw u (d-1) w:=by
 obtain ⟨h1,h2,h3⟩:=h
 simp only [walkH,if_neg hc] at h3
 split at h3
 ·rename_i hc1
  split at h3
  ·cases h3
  ·simp only [qlc] at h2
   refine ⟨hc1,by omega,by omega,by omega,?_⟩
   rw [← h3]; congr 1; omega
 ·cases h3
theorem walkH_ev:∀ {w:List Nat} {h k:Int},walkH w h=some k→∃ q:Int,k+w.length=h+2*q
 | [],h,k,e=>by simp only [walkH,qsj] at e; subst e; exact ⟨0,by simp⟩
 | c::w,h,k,e=>by
  simp only [walkH] at e
  simp only [qlc]
  split at e
  ·obtain ⟨q,hq⟩:=walkH_ev e; exact ⟨q+1,by omega⟩
  ·split at e
   ·split at e
    ·cases e
    ·obtain ⟨q,hq⟩:=walkH_ev e; exact ⟨q,by omega⟩
   ·cases e
theorem gw_dyck {w:List Nat} (h:dyck w=true):gw (w.length / 2) (w.length / 2) w∧w.length≤16:=by
 obtain ⟨h1,h2⟩:walkH w 0=some 0∧w.length≤16:=by simpa [dyck] using h
 obtain ⟨q,hq⟩:=walkH_ev h1
 exact ⟨⟨by omega,by omega,by rw [← h1]; congr 1; omega⟩,h2⟩
theorem fsU_le {u d:Nat} (h:u≤d):fsU u d≤bw u d:=by
 cases d with
 | zero=>
  have:u=0:=by omega
  subst this; simp [fsU]
 | succ d=>rw [bw_split h (by omega)]; omega
theorem unr_ok:∀ (n u d k:Nat),u≤d→u+d=n→k<bw u d→gw u d (unr n u d k)∧rkF (unr n u d k) u d=k
 | 0,u,d,k=>fun h1 h2 h3=>by
  have hu:u=0:=by omega
  have hd:d=0:=by omega
  subst hu hd
  rw [bw_zero] at h3
  exact ⟨⟨by omega,rfl,rfl⟩,by simp [unr,rkF]; omega⟩
 | n+1,u,d,k=>fun h1 h2 h3=>by
  unfold unr
  split
  ·rename_i hk
   cases u with
   | zero=>simp [fsU] at hk
   | succ u=>
    obtain ⟨⟨g1,g2,g3⟩,g4⟩:=unr_ok n u d k (by omega) (by omega) hk
    simp only [Nat.add_sub_cancel]
    refine ⟨⟨h1,by simp only [qlc]; omega,?_⟩,?_⟩
    ·simp only [walkH,if_true]
     rw [← g3]; congr 1; omega
    ·simp only [rkF,if_true,Nat.add_sub_cancel]; exact g4
  ·rename_i hk
   have hd:0<d:=by omega
   have hs:=bw_split h1 hd
   have hud:u<d:=by
    rcases qlg u d with q | q
    ·exact q
    ·have:bw u (d-1)=0:=bw_low (by omega)
     omega
   obtain ⟨⟨g1,g2,g3⟩,g4⟩:=unr_ok n u (d-1) (k-fsU u d) (by omega) (by omega) (by omega)
   refine ⟨⟨h1,by simp only [qlc]; omega,?_⟩,?_⟩
   ·simp only [walkH]
    rw [if_neg (by omega),if_pos trivial,if_neg (by omega),← g3]; congr 1; omega
   ·simp only [rkF]
    rw [if_neg (by omega),g4]; omega
theorem rk_ok:∀ (w:List Nat) (u d:Nat),gw u d w→rkF w u d<bw u d∧unr (u+d) u d (rkF w u d)=w
 | [],u,d=>fun h=>by
  obtain ⟨h1,h2,_⟩:=h
  simp only [qln] at h2
  have hu:u=0:=by omega
  have hd:d=0:=by omega
  subst hu hd
  exact ⟨by simp [rkF,bw_zero],rfl⟩
 | c::w,u,d=>fun h=>by
  by_cases hc:c=117
  ·subst hc
   obtain ⟨u',rfl,h'⟩:=gw_u h
   obtain ⟨q1,q2⟩:=rk_ok w u' d h'
   have hf:fsU (u'+1) d=bw u' d:=rfl
   have hle:=fsU_le h.1
   simp only [rkF,if_true,Nat.add_sub_cancel]
   refine ⟨by omega,?_⟩
   rw [show u'+1+d=(u'+d)+1 by omega]
   unfold unr
   rw [if_pos (by omega),Nat.add_sub_cancel,q2]
  ·obtain ⟨rfl,hud,h'⟩:=gw_d h hc
   obtain ⟨q1,q2⟩:=rk_ok w u (d-1) h'
   have hs:=bw_split h.1 (by omega)
   simp only [rkF,if_neg hc]
   refine ⟨by omega,?_⟩
   rw [show u+d=(u+(d-1))+1 by omega]
   unfold unr
   rw [if_neg (by omega),Nat.add_sub_cancel_left,q2]
theorem bwM:allB 9 (fun d=>allB (d+1) fun u=>decide (bw u d≤1430))=true:=by kernel_rfl
theorem bw_max {u d:Nat} (h:u≤d) (hd:d<9):bw u d≤1430:=of_decide_eq_true (allB_spec (allB_spec bwM d hd) u (by omega))
theorem bwC:allB 16 (fun n=>decide ((bw n n:Int)=catL.getD n 0))=true:=by kernel_rfl
theorem bw_cat {n:Nat} (h:n<16):(bw n n:Int)=catL.getD n 0:=of_decide_eq_true (allB_spec bwC n h)
def rkR (w:List Nat):Int:=if dyck w=true then rkF w (w.length / 2) (w.length / 2) else -1
theorem rk_i [HA K] {w:List Nat} (h:w.length≤1000000000):K 273 [.s w] [.n (rkR w)]:=by
 refine body_by (f:=ir_impl_RankPath) rfl ?_; simp only [ir_impl_RankPath,zn,zs,zq,zi,zg,zp]
 simp (disch:=omega) only [vcd]
 refine call_by (dyck_i (K:=K) h) rfl ?_
 cases hd:dyck w
 ·simp (disch:=omega) only [vcd,hd]
  exact Dn (by simp [rkR,hd])
 ·obtain ⟨hg,hl⟩:=gw_dyck hd
  simp (disch:=omega) only [vcd,hd]
  refine loop_up (fun i (x:Nat×Nat×Nat)=>gw x.2.1 x.2.2 (w.drop i)∧x.2.2≤8∧x.1+rkF (w.drop i) x.2.1 x.2.2=rkF w (w.length / 2) (w.length / 2)∧x.1≤1430*i) (fun i x=>[.s w,.u,.n x.1,.n x.2.1,.n x.2.2,.n i,.u,.u,.u,.u]) w.length (0,w.length / 2,w.length / 2) ⟨by simpa using hg,by simp only; omega,by simp,by simp⟩ (by simp only []; rfl) (fun i x hi hP=>?_) (fun x hP=>?_)
  ·obtain ⟨k,u,d⟩:=x
   obtain ⟨h1,h2,h3,h4⟩:=hP
   simp only at h1 h2 h3 h4
   rw [dropB hi] at h1 h3
   by_cases hc:atB w i=117
   ·rw [hc] at h1 h3
    obtain ⟨u',rfl,g⟩:=gw_u h1
    simp only [rkF,if_true,Nat.add_sub_cancel] at h3
    have gu:=g.1
    simp (disch:=omega) only [vcd,hc]
    exact ⟨(k,u',d),⟨g,h2,h3,by simp only; omega⟩,by simp⟩
   ·obtain ⟨hc1,hud,g⟩:=gw_d h1 hc
    obtain ⟨d',rfl⟩:∃ d',d=d'+1:=⟨d-1,by omega⟩
    simp only [rkF,if_neg hc,Nat.add_sub_cancel] at h3 g
    cases u with
    | zero=>
     have hf:fsU 0 (d'+1)=0:=rfl
     simp (disch:=omega) only [vcd,hc1]
     exact ⟨(k,0,d'),⟨g,by simp only; omega,by simp only; omega,by simp only; omega⟩,by simp⟩
    | succ u=>
     have hf:fsU (u+1) (d'+1)=bw u (d'+1):=rfl
     have hm:=bw_max (u:=u) (d:=d'+1) (by omega) (by omega)
     simp (disch:=omega) only [vcd,hc1,qas]
     refine call_by (bl_i (K:=K) (u:=u) (d:=d'+1) (by omega) (by omega)) rfl ?_
     simp (disch:=omega) only [vcd]
     exact ⟨(k+bw u (d'+1),u+1,d'),⟨g,by simp only; omega,by simp only; omega,by simp only; omega⟩,by simp⟩
  ·obtain ⟨k,u,d⟩:=x
   obtain ⟨h1,h2,h3,h4⟩:=hP
   rw [List.drop_length] at h3
   simp only [rkF] at h3
   simp (disch:=omega) only [vcd]
   exact Dn (by simp only [rkR,hd,if_true]; omega)
theorem rk_s [HA K] {w:List Nat} (h:w.length≤1000000000):K 276 [.s w] [.n (rkR w)]:=by
 refine body_by (f:=ir_spec_RankPath) rfl ?_; simp only [ir_spec_RankPath,zn,zs,zq,zi,zg,zp]
 simp (disch:=omega) only [vcd]
 refine call_by (dyck_s (K:=K) h) rfl ?_
 cases hd:dyck w
 ·simp (disch:=omega) only [vcd,hd]
  exact Dn (by simp [rkR,hd])
 ·obtain ⟨hg,hl⟩:=gw_dyck hd
  simp (disch:=omega) only [vcd,hd]
  refine loop_up (fun i (x:Nat×Nat×Nat)=>gw x.2.1 x.2.2 (w.drop i)∧x.2.2≤8∧x.1+rkF (w.drop i) x.2.1 x.2.2=rkF w (w.length / 2) (w.length / 2)∧x.1≤1430*i) (fun i x=>[.s w,.u,.n x.2.1,.n x.2.2,.n x.1,.n i,.u,.u,.u,.u]) w.length (0,w.length / 2,w.length / 2) ⟨by simpa using hg,by simp only; omega,by simp,by simp⟩ (by simp only []; rfl) (fun i x hi hP=>?_) (fun x hP=>?_)
  ·obtain ⟨k,u,d⟩:=x
   obtain ⟨h1,h2,h3,h4⟩:=hP
   simp only at h1 h2 h3 h4
   rw [dropB hi] at h1 h3
   by_cases hc:atB w i=117
   ·rw [hc] at h1 h3
    obtain ⟨u',rfl,g⟩:=gw_u h1
    simp only [rkF,if_true,Nat.add_sub_cancel] at h3
    have gu:=g.1
    simp (disch:=omega) only [vcd,hc]
    exact ⟨(k,u',d),⟨g,h2,h3,by simp only; omega⟩,by simp⟩
   ·obtain ⟨hc1,hud,g⟩:=gw_d h1 hc
    obtain ⟨d',rfl⟩:∃ d',d=d'+1:=⟨d-1,by omega⟩
    simp only [rkF,if_neg hc,Nat.add_sub_cancel] at h3 g
    cases u with
    | zero=>
     have hf:fsU 0 (d'+1)=0:=rfl
     simp (disch:=omega) only [vcd,hc1]
     exact ⟨(k,0,d'),⟨g,by simp only; omega,by simp only; omega,by simp only; omega⟩,by simp⟩
    | succ u=>
     have hf:fsU (u+1) (d'+1)=bw u (d'+1):=rfl
     have hm:=bw_max (u:=u) (d:=d'+1) (by omega) (by omega)
     simp (disch:=omega) only [vcd,hc1,qas]
     refine call_by (bl_w (K:=K) (u:=u) (d:=d'+1) (by omega) (by omega)) rfl ?_
     simp (disch:=omega) only [vcd]
     exact ⟨(k+bw u (d'+1),u+1,d'),⟨g,by simp only; omega,by simp only; omega,by simp only; omega⟩,by simp⟩
  ·obtain ⟨k,u,d⟩:=x
   obtain ⟨h1,h2,h3,h4⟩:=hP
   rw [List.drop_length] at h3
   simp only [rkF] at h3
   simp (disch:=omega) only [vcd]
   exact Dn (by simp only [rkR,hd,if_true]; omega)
def unO (n k:Int):Bool:=decide (0≤n∧n≤8∧0≤k∧k<bw n.toNat n.toNat)
def unRR (n k:Int):List Nat:=if unO n k=true then unr (2*n.toNat) n.toNat n.toNat k.toNat else []
end Go.Cat
