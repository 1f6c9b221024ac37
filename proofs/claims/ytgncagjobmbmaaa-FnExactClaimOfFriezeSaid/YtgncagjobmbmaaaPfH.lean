/-
 What the laws' own helpers do.
-/
import Derived.Test.YtgncagjobmbmaaaCatFour
import Derived.Test.YtgncagjobmbmaaaIrHas
set_option linter.unusedSimpArgs false
set_option linter.unusedVariables false
namespace Go.Cat
variable {K:Nat→List D→List D→Prop}
theorem eqIntS_t [HA K] {a:List Int} (h:a.length≤1099511627776):K 44 [LI a,LI a] [.b true]:=by
 refine body_by (f:=ir_laws_eqIntS) rfl ?_; simp only [ir_laws_eqIntS,zn,zs,zq,zi,zg,zp]
 simp (disch:=first|omega|simp only[vl];omega) only [vcd]
 refine loop_ix (fun _=>True) (fun i=>[LI a,LI a,.u,.n i,.u,.u,.u]) a.length trivial rfl (fun i hi _=>?_) (fun _=>?_) <;> simp (disch:=first|omega|simp only[vl];omega) only [vcd]
theorem eqStringS_t [HA K] {a:List (List Nat)} (h:a.length≤1099511627776):K 15 [LS a,LS a] [.b true]:=by
 refine body_by (f:=ir_laws_eqStringS) rfl ?_; simp only [ir_laws_eqStringS,zn,zs,zq,zi,zg,zp]
 simp (disch:=first|omega|simp only[vl];omega) only [vcd]
 refine loop_ix (fun _=>True) (fun i=>[LS a,LS a,.u,.n i,.u,.u,.u]) a.length trivial rfl (fun i hi _=>?_) (fun _=>?_) <;> simp (disch:=first|omega|simp only[vl];omega) only [vcd]
theorem toIntS_ok [HA K] {a:List Int} (h:a.length≤1099511627776):K 42 [LI a] [LI a]:=by
 refine body_by (f:=ir_laws_toIntS) rfl ?_; simp only [ir_laws_toIntS,zn,zs,zq,zi,zg,zp]
 simp (disch:=first|omega|simp only[vl];omega) only [vcd]
 refine loop_up (fun i (s:List Int)=>s.length=a.length∧∀ j:Nat,j<i→atI s j=atI a j) (fun i s=>[LI a,.u,LI s,.n i,.u]) a.length (rep a.length 0) ⟨by simp [rep],by simp⟩ rfl (fun i s hi hP=>?_) (fun s hP=>?_)
 ·obtain ⟨h1,h2⟩:=hP
  simp (disch:=first|omega|simp only[vl];omega) only [vcd]
  refine ⟨_,⟨?_,fun j hj=>?_⟩,rfl⟩
  ·rw [seI_len,h1]
  ·rw [atI_set (by omega)]
   split
   ·rename_i hij; rw [hij]
   ·exact h2 j (by omega)
 ·obtain ⟨h1,h2⟩:=hP
  simp (disch:=first|omega|simp only[vl];omega) only [vcd]
  exact Dl (extI h1 fun j hj=>h2 j (by omega)).symm
def markF (k:Int) (n:Nat) (a:List Int):List Int:=iter (fun i s=>seI s i (k+i)) n a
theorem markF_len {k:Int} {n:Nat} {a:List Int}:(markF k n a).length=a.length:=iter_inv (fun (s:List Int)=>s.length=a.length) rfl (fun i s h=>by rw [seI_len,h]) n
theorem markF_at {k:Int} {a:List Int}:∀ {n:Nat},n≤a.length→∀ j:Nat,j<n→atI (markF k n a) j=k+j
 | 0,_,j,hj=>by omega
 | n+1,hn,j,hj=>by
  show atI (seI (markF k n a) n (k+n)) j=_
  rw [atI_set (by rw [markF_len]; omega)]
  split
  ·rename_i h; rw [h]
  ·exact markF_at (by omega) j (by omega)
theorem markIntS_ok [HA K] {a:List Int} {k:Int} (h:a.length≤1099511627776) (hk:0≤k∧k≤1099511627776):K 45 [LI a,.n k] [.n (k+a.length),LI (markF k a.length a)]:=by
 refine body_by (f:=ir_laws_markIntS) rfl ?_; simp only [ir_laws_markIntS,zn,zs,zq,zi,zg,zp]
 simp (disch:=first|omega|simp only[vl];omega) only [vcd]
 refine loop_fold (fun i s=>seI s i (k+i)) (fun _ (s:List Int)=>s.length=a.length) (fun i s=>[LI s,.n (k+i),.u,.n i,.u]) a.length a rfl (by simp (disch:=first|omega|simp only[vl];omega) only [vcd,Int.add_zero]) (fun i s _ hs=>by rw [seI_len,hs]) (fun i s hi hs _=>?_) (fun s hs1 hs=>?_)
 ·simp (disch:=first|omega|simp only[vl];omega) only [vcd,Int.add_assoc]
 ·simp (disch:=first|omega|simp only[vl];omega) only [vcd]
  rw [hs1]; rfl
theorem heldIntS_ok [HA K] {a:List Int} {k:Int} (h:a.length≤1099511627776) (hk:0≤k∧k≤1099511627776) (ha:∀ j:Nat,j<a.length→atI a j=k+j):K 46 [LI a,.n k] [.n (k+a.length)]:=by
 refine body_by (f:=ir_laws_heldIntS) rfl ?_; simp only [ir_laws_heldIntS,zn,zs,zq,zi,zg,zp]
 simp (disch:=first|omega|simp only[vl];omega) only [vcd]
 refine loop_ix (fun _=>True) (fun i=>[LI a,.n (k+i),.u,.n i,.u,.u]) a.length trivial (by simp (disch:=first|omega|simp only[vl];omega) only [vcd,Int.add_zero]) (fun i hi _=>?_) (fun _=>?_)
 ·have:=ha i hi
  simp (disch:=first|omega|simp only[vl];omega) only [vcd,Int.add_assoc]
 ·simp (disch:=first|omega|simp only[vl];omega) only [vcd]
theorem held_mark [HA K] {a:List Int} {k:Int} (h:a.length≤1099511627776) (hk:0≤k∧k≤1099511627776):K 46 [LI (markF k a.length a),.n k] [.n (k+a.length)]:=by
 have:=heldIntS_ok (K:=K) (a:=markF k a.length a) (k:=k) (by rw [markF_len]; exact h) hk (fun j hj=>markF_at (Nat.le_refl _) j (by rw [markF_len] at hj; exact hj))
 rwa [markF_len] at this
def digs:Nat→List Nat
 | 0=>[]
 | n+1=>digs ((n+1) / 10)++[48+(n+1) % 10]
decreasing_by omega
theorem digs_len:∀ n:Nat,(digs n).length≤n
 | 0=>by simp [digs]
 | n+1=>by
  rw [digs]
  have:=digs_len ((n+1) / 10)
  simp only [qla,qlc,qln]
  omega
decreasing_by omega
def markT (k:Int):List Nat:=if k≤0 then [109,48] else 109::digs k.toNat
theorem markText_ok [HA K] {k:Int} (hk:k≤1000000000):K 26 [.n k] [.s (markT k)]:=by
 refine body_by (f:=ir_laws_markText) rfl ?_; simp only [ir_laws_markText,zn,zs,zq,zi,zg,zp]
 simp (disch:=first|omega|simp only[vl];omega) only [vc]
 by_cases h0:k≤0
 ·simp (disch:=first|omega|simp only[vl];omega) only [vc,h0,markT]
 ·simp (disch:=first|omega|simp only[vl];omega) only [vc,h0]
  refine loop_wh (fun (x:Nat×List Nat)=>x.1≤k.toNat∧digs x.1++x.2=digs k.toNat) (fun x=>[.n x.1,.u,.s x.2,.u,.u]) (fun x=>x.1) (k.toNat,[]) ⟨Nat.le_refl _,by simp⟩ (by simp only [Int.toNat_of_nonneg (show 0≤k by omega)]) ?_
  rintro ⟨n,t⟩ ⟨hn,ht⟩
  simp only at hn ht
  cases n with
  | zero=>
   simp only [digs,List.nil_append] at ht
   have:=digs_len k.toNat
   subst ht
   simp (disch:=first|omega|simp only[vl];omega) only [vcd,markT,h0]
  | succ n=>
   have h1:=congrArg List.length ht
   have h2:=digs_len k.toNat
   rw [qla] at h1
   simp (disch:=first|omega|simp only[vl];omega) only [vcd]
   refine ⟨((n+1) / 10,(48+(n+1) % 10)::t),?_,⟨?_,?_⟩,?_⟩
   ·show (n+1) / 10<n+1; omega
   ·show (n+1) / 10≤k.toNat; omega
   ·rw [← ht,digs,qaa]; rfl
   ·have e:(48+((n:Int)+1) % 10).toNat=48+(n+1) % 10:=by omega
    rw [e]; rfl
def markFS (k:Int) (n:Nat) (a:List (List Nat)):List (List Nat):=iter (fun i s=>seS s i (markT (k+i))) n a
theorem markFS_len {k:Int} {n:Nat} {a:List (List Nat)}:(markFS k n a).length=a.length:=iter_inv (fun (s:List (List Nat))=>s.length=a.length) rfl (fun i s h=>by rw [seS_len,h]) n
theorem markFS_at {k:Int} {a:List (List Nat)}:∀ {n:Nat},n≤a.length→∀ j:Nat,j<n→atS (markFS k n a) j=markT (k+j)
 | 0,_,j,hj=>by omega
 | n+1,hn,j,hj=>by
  show atS (seS (markFS k n a) n (markT (k+n))) j=_
  rw [atS_set (by rw [markFS_len]; omega)]
  split
  ·rename_i h; rw [h]
  ·exact markFS_at (by omega) j (by omega)
theorem markStringS_ok [HA K] {a:List (List Nat)} {k:Int} (h:a.length≤100000000) (hk:0≤k∧k≤100000000):K 16 [LS a,.n k] [.n (k+a.length),LS (markFS k a.length a)]:=by
 refine body_by (f:=ir_laws_markStringS) rfl ?_; simp only [ir_laws_markStringS,zn,zs,zq,zi,zg,zp]
 simp (disch:=first|omega|simp only[vl];omega) only [vcd]
 refine loop_fold (fun i s=>seS s i (markT (k+i))) (fun _ (s:List (List Nat))=>s.length=a.length) (fun i s=>[LS s,.n (k+i),.u,.n i,.u]) a.length a rfl (by simp (disch:=first|omega|simp only[vl];omega) only [vcd,Int.add_zero]) (fun i s _ hs=>by rw [seS_len,hs]) (fun i s hi hs _=>?_) (fun s hs1 hs=>?_)
 ·simp (disch:=first|omega|simp only[vl];omega) only [vcd]
  refine call_by (markText_ok (K:=K) (by omega)) rfl ?_
  simp (disch:=first|omega|simp only[vl];omega) only [vcd,Int.add_assoc]
 ·simp (disch:=first|omega|simp only[vl];omega) only [vcd]
  rw [hs1]; rfl
theorem heldStringS_ok [HA K] {a:List (List Nat)} {k:Int} (h:a.length≤100000000) (hk:0≤k∧k≤100000000) (ha:∀ j:Nat,j<a.length→atS a j=markT (k+j)):K 17 [LS a,.n k] [.n (k+a.length)]:=by
 refine body_by (f:=ir_laws_heldStringS) rfl ?_; simp only [ir_laws_heldStringS,zn,zs,zq,zi,zg,zp]
 simp (disch:=first|omega|simp only[vl];omega) only [vcd]
 refine loop_ix (fun _=>True) (fun i=>[LS a,.n (k+i),.u,.n i,.u,.u]) a.length trivial (by simp (disch:=first|omega|simp only[vl];omega) only [vcd,Int.add_zero]) (fun i hi _=>?_) (fun _=>?_)
 ·have:=ha i hi
  simp (disch:=first|omega|simp only[vl];omega) only [vcd]
  refine call_by (markText_ok (K:=K) (by omega)) rfl ?_
  simp (disch:=first|omega|simp only[vl];omega) only [vcd,Int.add_assoc,this]
 ·simp (disch:=first|omega|simp only[vl];omega) only [vcd]
end Go.Cat
