/-
 Turns of matchings, of partitions, of triangulations.
-/
import Derived.Test.YtjbonmaggidboaaPfRdN
import Derived.Test.YtjbonmaggidboaaPfMat
import Derived.Test.YtjbonmaggidboaaPfPart
import Derived.Test.YtjbonmaggidboaaPfMDraw
import Derived.Test.YtjbonmaggidboaaPfTri
import Derived.Test.YtjbonmaggidboaaIrHas
set_option linter.unusedSimpArgs false
set_option linter.unusedVariables false
namespace Go.Cat
variable {K:Nat→List D→List D→Prop}
def tmT (m:List Int) (k:Nat):List Int:=iter (fun i out=>seI out (((i:Int)-k+m.length) % m.length) ((atI m i-k+m.length) % m.length)) m.length (rep m.length 0)
theorem tmT_len {m:List Int} {k:Nat}:(tmT m k).length=m.length:=by
 unfold tmT
 exact iter_inv (fun (l:List Int)=>l.length=m.length) (by simp [rep]) (fun i s h=>by rw [seI_len]; exact h) _
theorem emod_rg {a n:Int} (h:0<n):0≤a % n∧a % n<n:=⟨Int.emod_nonneg _ (by omega),Int.emod_lt_of_pos _ h⟩
theorem tum_i [HA K] {m:List Int} {k:Nat} (hm:matF m=true) (hl:0<m.length) (hk:k<m.length) (hr:∀ i:Nat,i<m.length→0≤atI m i∧atI m i<m.length):K 474 [LI m,.n k] [LI (tmT m k),.b true]:=by
 have h16:=(matF_t hm).1
 have hin:inR 0 ((m.length:Int)-1) k=true:=inR_iff.2 (by omega)
 refine body_by (f:=ir_impl_TurnMatching) rfl ?_; simp only [ir_impl_TurnMatching,zn,zs,zq,zi,zg,zp]
 simp (disch:=first|omega|simp only[vl];omega) only [vcd]
 refine call_by (match_i (K:=K) (m:=m) (by omega)) rfl ?_
 rw [hm]
 simp (disch:=first|omega|simp only[vl];omega) only [vcd]
 have e1:max 0 ((m.length:Int)-1)=(m.length:Int)-1:=by omega
 simp (disch:=first|omega|simp only[vl];omega) only [vcd,e1]
 refine call_by (within_ok (K:=K)) rfl ?_
 simp (disch:=first|omega|simp only[vl];omega) only [vcd,hin]
 refine loop_fold (fun i out=>seI out (((i:Int)-k+m.length) % m.length) ((atI m i-k+m.length) % m.length)) (fun _ s=>s.length=m.length) (fun i s=>[.u,.n k,.u,.u,.n m.length,LI s,.u,.u,.u,LI m,.n m.length,.n i,.u]) m.length (rep m.length 0) (by simp [rep]) rfl (fun i s _ h=>by rw [seI_len]; exact h) (fun i s hi hs _=>?_) (fun s hs _=>?_)
 ·have r1:=hr i hi
  have q1:=emod_rg (a:=(i:Int)-k+m.length) (n:=m.length) (by omega)
  have q2:=emod_rg (a:=atI m i-k+m.length) (n:=m.length) (by omega)
  simp (disch:=first|omega|simp only[vl];omega) only [vcd]
 ·simp (disch:=first|omega|simp only[vl];omega) only [vcd]
  rw [hs]; rfl
theorem tum_s [HA K] {m:List Int} {k:Nat} (hm:matF m=true) (hl:0<m.length) (hk:k<m.length) (hr:∀ i:Nat,i<m.length→0≤atI m i∧atI m i<m.length):K 477 [LI m,.n k] [LI (tmT m k),.b true]:=by
 have h16:=(matF_t hm).1
 have hin:inR 0 ((m.length:Int)-1) k=true:=inR_iff.2 (by omega)
 refine body_by (f:=ir_spec_TurnMatching) rfl ?_; simp only [ir_spec_TurnMatching,zn,zs,zq,zi,zg,zp]
 simp (disch:=first|omega|simp only[vl];omega) only [vcd]
 refine call_by (match_s (K:=K) (m:=m) (by omega)) rfl ?_
 rw [hm]
 have e1:max 0 ((m.length:Int)-1)=(m.length:Int)-1:=by omega
 simp (disch:=first|omega|simp only[vl];omega) only [vcd,e1]
 refine call_by (l1In_ok (K:=K)) rfl ?_
 simp (disch:=first|omega|simp only[vl];omega) only [vcd,hin]
 refine loop_fold (fun i out=>seI out (((i:Int)-k+m.length) % m.length) ((atI m i-k+m.length) % m.length)) (fun _ s=>s.length=m.length) (fun i s=>[LI m,.n k,.u,.u,.n m.length,LI s,.n i,.u,.u]) m.length (rep m.length 0) (by simp [rep]) rfl (fun i s _ h=>by rw [seI_len]; exact h) (fun i s hi hs _=>?_) (fun s hs _=>?_)
 ·have r1:=hr i hi
  have q1:=emod_rg (a:=(i:Int)-k+m.length) (n:=m.length) (by omega)
  have q2:=emod_rg (a:=atI m i-k+m.length) (n:=m.length) (by omega)
  simp (disch:=first|omega|simp only[vl];omega) only [vcd]
 ·simp (disch:=first|omega|simp only[vl];omega) only [vcd]
  rw [hs]; rfl
def tpL (p:List Int):List Int:=[atI p ((p.length:Int)-1)]++sub p 0 ((p.length:Int)-1)
def tpT (p:List Int):List Int:=rnL (tpL p) (tpL p).length
theorem tpL_len {p:List Int} (h:0<p.length):(tpL p).length=p.length:=by
 simp only [tpL,qla,qlc,qln,sub_len]; omega
theorem tup_i [HA K] {p:List Int} (hp:isPt p=true) (hl:0<p.length):K 435 [LI p] [LI (tpT p),.b true]:=by
 have h8:p.length≤8:=by simp [isPt] at hp; exact hp.1
 have hl2:=tpL_len hl
 refine body_by (f:=ir_impl_TurnPartition) rfl ?_; simp only [ir_impl_TurnPartition,zn,zs,zq,zi,zg,zp]
 simp (disch:=first|omega|simp only[vl];omega) only [vcd]
 refine call_by (pt_i (K:=K) (p:=p) (by omega)) rfl ?_
 rw [hp]
 simp (disch:=first|omega|simp only[vl];omega) only [vcd]
 refine call_by (rn_i (K:=K) (l:=tpL p) (by omega)) rfl ?_
 simp (disch:=first|omega|simp only[vl];omega) only [vcd]
 rfl
end Go.Cat
