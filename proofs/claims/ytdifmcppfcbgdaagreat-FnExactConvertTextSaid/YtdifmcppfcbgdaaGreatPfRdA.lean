/-
 Brackets and binary trees, read back from any text: both sides.
-/
import Derived.Test.YtdifmcppfcbgdaaGreatPfWrite
import Derived.Test.YtdifmcppfcbgdaaGreatIrHas
set_option linter.unusedSimpArgs false
set_option linter.unusedVariables false
namespace Go.Cat
variable {K:Nat→List D→List D→Prop}
def pbW (s:List Nat):List Nat:=s.map (exl 40 117 100)
def pbO (s:List Nat):Bool:=only 40 41 s&&dyck (pbW s)
def pbR (s:List Nat):List Nat:=if pbO s=true then pbW s else []
theorem pbW_len {s:List Nat}:(pbW s).length=s.length:=by simp [pbW]
theorem pbW_snoc {s:List Nat} {i:Nat} (h:i<s.length):pbW (s.take (i+1))=pbW (s.take i)++[exl 40 117 100 (atB s i)]:=by
 rw [take_snocB h]; simp [pbW]
theorem pbO_br {w:List Nat} (hd:dyck w=true):pbO (brF w)=true∧pbR (brF w)=w:=by
 have ha:=dy_all hd
 have e:pbW (brF w)=w:=br_back ha
 have:pbO (brF w)=true:=by simp [pbO,only_br ha,e,hd]
 exact ⟨this,by simp [pbR,this,e]⟩
theorem pba_i [HA K] {s:List Nat} (hl:s.length≤1000000000):K 515 [.s s] [.s (pbR s),.b (pbO s)]:=by
 have k1:=exchanged_ok (K:=K) (w:=s) (a:=40) (b:=41) (c:=117) (d:=100) (by omega) (by omega) (by omega)
 refine body_by (f:=ir_impl_PathOfBrackets) rfl ?_; simp only [ir_impl_PathOfBrackets,zn,zs,zq,zi,zg,zp]
 simp (disch:=omega) only [vcd]
 refine call_by (k1) rfl ?_
 have hw:=pbW_len (s:=s)
 have ew:s.map (exl 40 117 100)=pbW s:=rfl
 by_cases ho:only 40 41 s=true
 ·simp (disch:=omega) only [vcd,ho,ew]
  repeat (first | (refine call_by (dyck_i (K:=K) (w:=pbW s) (by omega)) rfl ?_; try simp (disch:=omega) only [vcd]))
  by_cases hd:dyck (pbW s)=true
  ·simp (disch:=omega) only [vcd,hd]
   simp [pbR,pbO,ho,hd]
  ·simp (disch:=omega) only [vcd,hd]
   simp [pbR,pbO,ho,hd]
 ·simp (disch:=omega) only [vcd,ho]
  simp [pbR,pbO,ho]
theorem only_at {s:List Nat} {i:Nat} (h:i<s.length) (h1:atB s i≠40) (h2:atB s i≠41):only 40 41 s=false:=by
 cases hc:only 40 41 s
 ·rfl
 ·have hm:atB s i∈s:=by simp [atB,h]
  have:=qat.1 hc _ hm
  simp [h1,h2] at this
theorem pba_s [HA K] {s:List Nat} (hl:s.length≤1000000000):K 320 [.s s] [.s (pbR s),.b (pbO s)]:=by
 refine body_by (f:=ir_spec_PathOfBrackets) rfl ?_; simp only [ir_spec_PathOfBrackets,zn,zs,zq,zi,zg,zp]
 simp (disch:=first|omega|simp only[vl];omega) only [vcd]
 by_cases h16:s.length≤16
 ·refine loop_ix (fun i=>∀ j:Nat,j<i→atB s j=40∨atB s j=41) (fun i=>[.s s,.u,.u,.s (pbW (s.take i)),.n i,.u,.u,.u,.u,.u]) s.length (by simp) (by simp [pbW]) (fun i hi hP=>?_) (fun hP=>?_)
  ·have ht:(pbW (s.take i)).length=i:=by rw [pbW_len]; simp; omega
   have es:=pbW_snoc hi
   rw [es]
   by_cases h1:atB s i=40
   ·simp (disch:=first|omega|simp only[vl];omega) only [vcd,h1]
    refine ⟨fun j hj=>?_,rfl⟩
    rcases qlg j i with q | q
    ·exact hP j q
    ·obtain rfl:j=i:=by omega
     exact .inl h1
   ·by_cases h2:atB s i=41
    ·simp (disch:=first|omega|simp only[vl];omega) only [vcd,h2]
     refine ⟨fun j hj=>?_,rfl⟩
     rcases qlg j i with q | q
     ·exact hP j q
     ·obtain rfl:j=i:=by omega
      exact .inr h2
    ·have ho:=only_at hi h1 h2
     simp (disch:=first|omega|simp only[vl];omega) only [vcd]
     simp [pbR,pbO,ho]
  ·have ho:only 40 41 s=true:=by
    refine qat.2 fun x hx=>?_
    obtain ⟨j,hj,rfl⟩:=List.mem_iff_getElem.1 hx
    have:=hP j hj
    simpa [atB,hj] using this
   have hw:=pbW_len (s:=s)
   rw [List.take_length]
   simp (disch:=first|omega|simp only[vl];omega) only [vcd]
   repeat (first | (refine call_by (dyck_s (K:=K) (w:=pbW s) (by omega)) rfl ?_; try simp (disch:=first|omega|simp only[vl];omega) only [vcd]))
   by_cases hd:dyck (pbW s)=true
   ·simp (disch:=first|omega|simp only[vl];omega) only [vcd,hd]
    simp [pbR,pbO,ho,hd]
   ·simp (disch:=first|omega|simp only[vl];omega) only [vcd,hd]
    simp [pbR,pbO,ho,hd]
 ·have ho:pbO s=false:=by
   cases hc:pbO s
   ·rfl
   ·simp only [pbO,qba] at hc
    have:=(DY_of hc.2).l
    rw [pbW_len] at this; omega
  refine loop_ix (fun _=>True) (fun _=>[.s s,.u,.u,.s [],.n 0,.u,.u,.u,.u,.u]) 0 trivial rfl (fun i hi _=>absurd hi (by omega)) (fun _=>?_)
  simp (disch:=first|omega|simp only[vl];omega) only [vcd]
  simp [pbR,ho]
theorem tpath_ok [HA K]:∀ {x:BT},x.n≤100000→K 583 [x.d] [.s x.p]
 | .lf,_=>by
  refine body_by (f:=ir_impl_tree_path) rfl ?_; simp only [ir_impl_tree_path,zn,zs,zq,zi,zg,zp]
  simp only [BT.d,BT.p]
  simp (disch:=first|omega|simp only[vl];omega) only [vcd]
 | .nd l r,h=>by
  have h':=h
  simp only [BT.n] at h'
  have k1:=tpath_ok (x:=l) (by omega)
  have k2:=tpath_ok (x:=r) (by omega)
  have t1:=BT.pl l
  have t2:=BT.pl r
  refine body_by (f:=ir_impl_tree_path) rfl ?_; simp only [ir_impl_tree_path,zn,zs,zq,zi,zg,zp]
  simp only [BT.d,BT.p]
  simp (disch:=first|omega|simp only[vl];omega) only [vcd,BT.known_d,b_ft]
  refine call_by (k1) rfl ?_
  simp (disch:=first|omega|simp only[vl];omega) only [vcd,BT.known_d]
  refine call_by (k2) rfl ?_
  simp (disch:=first|omega|simp only[vl];omega) only [vcd]
  simp
theorem pbin_i [HA K] {x:BT} (h:x.n≤8):K 560 [.s x.t] [.s x.p,.b true]:=by
 refine body_by (f:=ir_impl_PathOfBinary) rfl ?_; simp only [ir_impl_PathOfBinary,zn,zs,zq,zi,zg,zp]
 simp (disch:=omega) only [vcd]
 refine call_by (pt_yes (K:=K) h) rfl ?_
 simp (disch:=omega) only [vcd,BT.known_d]
 refine call_by (tpath_ok (K:=K) (x:=x) (by omega)) rfl ?_
 simp (disch:=omega) only [vcd]
theorem pbin_i0 [HA K] {s:List Nat} (h:isB s=false):K 560 [.s s] [.s [],.b false]:=by
 refine body_by (f:=ir_impl_PathOfBinary) rfl ?_; simp only [ir_impl_PathOfBinary,zn,zs,zq,zi,zg,zp]
 simp (disch:=omega) only [vcd]
 refine call_by (pt_no (K:=K) h) rfl ?_
 simp (disch:=omega) only [vcd]
 refine call_by (tpath_ok (K:=K) (x:=.lf) (by simp [BT.n])) rfl ?_
 simp (disch:=omega) only [vcd]
 rfl
theorem l6p_ok [HA K]:∀ {x:BT},x.n≤100000→K 592 [.s x.t] [.s x.p]
 | .lf,_=>by
  refine body_by (f:=ir_spec_l6Path) rfl ?_; simp only [ir_spec_l6Path,zn,zs,zq,zi,zg,zp]
  simp only [BT.t,BT.p]
  simp (disch:=first|omega|simp only[vl];omega) only [vcd]
 | .nd a b,h=>by
  have h':=h
  simp only [BT.n] at h'
  have k1:=l6p_ok (x:=a) (by omega)
  have k2:=l6p_ok (x:=b) (by omega)
  have ta:=BT.tl a
  have tb:=BT.tl b
  have pa:=BT.pl a
  have pb:=BT.pl b
  have hl:=t_len (a:=a) (b:=b)
  have ea:=t_a (a:=a) (b:=b)
  have ke:=le_1 (K:=K) (a:=a) (b:=b) (by omega)
  have e0:=nd_ne (a:=a) (b:=b)
  have eb:=t_b (a:=a) (b:=b) (j:=(BT.nd a b).t.length-1) rfl
  simp only [BT.p]
  generalize hw:(BT.nd a b).t=w at hl ea eb ke e0
  refine body_by (f:=ir_spec_l6Path) rfl ?_; simp only [ir_spec_l6Path,zn,zs,zq,zi,zg,zp]
  simp (disch:=first|omega|simp only[vl];omega) only [vcd,e0]
  refine call_by (ke) rfl ?_
  simp (disch:=first|omega|simp only[vl];omega) only [vcd,ea]
  refine call_by (k1) rfl ?_
  simp (disch:=first|omega|simp only[vl];omega) only [vcd,eb]
  refine call_by (k2) rfl ?_
  simp (disch:=first|omega|simp only[vl];omega) only [vcd]
  simp
theorem pbin_s [HA K] {x:BT} (h:x.n≤8):K 577 [.s x.t] [.s x.p,.b true]:=by
 refine body_by (f:=ir_spec_PathOfBinary) rfl ?_; simp only [ir_spec_PathOfBinary,zn,zs,zq,zi,zg,zp]
 simp (disch:=omega) only [vcd]
 refine call_by (isb_s (K:=K) (s:=x.t)) rfl ?_
 simp (disch:=omega) only [vcd,isB_yes h]
 refine call_by (l6p_ok (K:=K) (x:=x) (by omega)) rfl ?_
 simp (disch:=omega) only [vcd]
theorem pbin_s0 [HA K] {s:List Nat} (h:isB s=false):K 577 [.s s] [.s [],.b false]:=by
 refine body_by (f:=ir_spec_PathOfBinary) rfl ?_; simp only [ir_spec_PathOfBinary,zn,zs,zq,zi,zg,zp]
 simp (disch:=omega) only [vcd]
 refine call_by (isb_s (K:=K) (s:=s)) rfl ?_
 simp (disch:=omega) only [vcd,h]
end Go.Cat
