/-
 The partners of a path's letters, as both sides find them.
-/
import Derived.Test.YtihgdjeahjfhfaaGreatPfMat
import Derived.Test.YtihgdjeahjfhfaaGreatPfSort
import Derived.Test.YtihgdjeahjfhfaaGreatIrHas
set_option linter.unusedSimpArgs false
set_option linter.unusedVariables false
namespace Go.Cat
variable {K:Nat→List D→List D→Prop}
def fls (s:List Bool):Nat:=s.countP fun b=>!b
theorem seT_nat {s:List Bool} {i:Nat} {b:Bool}:seT s i b=s.set i b:=by simp [seT]
theorem fls_set:∀ {s:List Bool} {i:Nat},i<s.length→s.getD i false=false→fls (s.set i true)+1=fls s
 | [],i,h,_=>by simp at h
 | b::s,0,_,h=>by simp only [List.getD_cons_zero] at h; subst h; simp [fls]
 | b::s,i+1,h,hb=>by
  have:=fls_set (s:=s) (i:=i) (by simpa using h) (by simpa using hb)
  simp only [fls,List.set_cons_succ,List.countP_cons] at this ⊢
  omega
theorem fls_set_le:∀ {s:List Bool} {i:Nat},fls (s.set i true)≤fls s
 | [],i=>by simp [fls]
 | b::s,0=>by simp [fls,List.countP_cons]
 | b::s,i+1=>by
  have:=fls_set_le (s:=s) (i:=i)
  simp only [fls,List.set_cons_succ,List.countP_cons] at this ⊢
  omega
def cyW (a b:List Int):Nat→List Bool→Int→List Bool
 | 0,s,_=>s
 | f+1,s,at'=>if atT s at'=true then s else cyW a b f (seT (seT s at' true) (atI a at') true) (atI b (atI a at'))
theorem cyW_len {a b:List Int}:∀ {f:Nat} {s:List Bool} {x:Int},(cyW a b f s x).length=s.length
 | 0,_,_=>rfl
 | f+1,s,x=>by
  unfold cyW
  split
  ·rfl
  ·rw [cyW_len,seT_len,seT_len]
def cyO (a b:List Int):Nat→List Bool×Nat
 | 0=>(rep a.length false,0)
 | i+1=>if atT (cyO a b i).1 i=true then cyO a b i else (cyW a b (a.length+1) (cyO a b i).1 i,(cyO a b i).2+1)
theorem cyO_len {a b:List Int}:∀ i,(cyO a b i).1.length=a.length∧(cyO a b i).2≤i
 | 0=>by simp [cyO,rep]
 | i+1=>by
  have:=cyO_len (a:=a) (b:=b) i
  unfold cyO
  split
  ·omega
  ·simp only [cyW_len]; omega
def cyN (a b:List Int):Nat:=(cyO a b a.length).2
def inL (m:List Int):Prop:=∀ j:Nat,j<m.length→0≤atI m j∧atI m j<m.length
theorem inL_of {m:List Int} (h:matF m=true):inL m:=fun j hj=>by
 have:=inR_iff.1 ((matF_t h).2 j hj).1
 omega
theorem inL_at {m:List Int} (h:inL m) {x:Int} (hx:0≤x∧x<m.length):0≤atI m x∧atI m x<m.length:=by
 obtain ⟨n,rfl⟩:=qoz hx.1
 exact h n (by omega)
theorem atT_nat {s:List Bool} {n:Nat}:atT s (n:Int)=s.getD n false:=by simp [atT]
theorem cyc_step {a:List Int} {f:Nat} {s:List Bool} {x:Int} (hs:s.length=a.length) (hx:0≤x∧x<a.length) (ha:inL a) (hf:fls s<f+1) (hn:atT s x=false):
  fls (seT (seT s x true) (atI a x) true)<f:=by
 obtain ⟨n,rfl⟩:=qoz hx.1
 have h2:=ha n (by omega)
 obtain ⟨k,hk⟩:=qoz h2.1
 rw [hk,seT_nat,seT_nat]
 rw [atT_nat] at hn
 have e1:=fls_set (s:=s) (i:=n) (by omega) hn
 have e2:=fls_set_le (s:=s.set n true) (i:=k)
 omega
theorem cyc_i [HA K] {a b:List Int} (hl:a.length≤16) (hab:b.length=a.length) (ha:inL a) (hb:inL b):K 360 [LI a,LI b] [.n (cyN a b)]:=by
 refine body_by (f:=ir_impl_cycles) rfl ?_; simp only [ir_impl_cycles,zn,zs,zq,zi,zg,zp]
 simp (disch:=first|omega|simp only[vl];omega) only [vcd]
 refine loop_ix (fun _=>True) (fun i=>[LI a,LI b,.u,LT (cyO a b i).1,.n (cyO a b i).2,.u,.u,.n a.length,.n i,.u,.u,.u]) a.length trivial rfl (fun i hi _=>?_) (fun _=>?_)
 ·have hlen:=cyO_len (a:=a) (b:=b) i
  obtain ⟨s,hs⟩:∃ s,s=(cyO a b i).1:=⟨_,rfl⟩
  obtain ⟨c,hc⟩:∃ c,c=(cyO a b i).2:=⟨_,rfl⟩
  rw [← hs,← hc] at hlen
  have he:cyO a b (i+1)=if atT s i=true then (s,c) else (cyW a b (a.length+1) s i,c+1):=by
   rw [hs,hc]; rfl
  rw [he,← hs,← hc]
  obtain ⟨hl1,hl2⟩:=hlen
  obtain ⟨R,hR⟩:∃ R,R=cyW a b (a.length+1) s i:=⟨_,rfl⟩
  rw [← hR]
  cases ht:atT s i
  ·simp only [qft,if_false]
   simp (disch:=first|omega|simp only[vl];omega) only [vcd,ht]
   refine loop_wh (fun (x:Nat×List Bool×Int)=>x.2.1.length=a.length∧(0≤x.2.2∧x.2.2<a.length)∧fls x.2.1<x.1∧cyW a b x.1 x.2.1 x.2.2=R) (fun x=>[LI a,LI b,.u,LT x.2.1,.n ((c:Int)+1),.u,.n x.2.2,.n a.length,.n i,.u,.u,.u]) (fun x=>x.1) (a.length+1,s,i) ⟨hl1,by simp; omega,by have:=List.countP_le_length (p:=fun b=>!b) (l:=s); simp only [fls]; omega,hR.symm⟩ rfl ?_
   rintro ⟨f,t,x⟩ ⟨g1,g2,g3,g4⟩
   simp only at g1 g2 g3 g4 ⊢
   have hin:=inL_at ha g2
   have hin2:=inL_at hb (x:=atI a x) (by omega)
   cases f with
   | zero=>omega
   | succ f=>
    simp only [cyW] at g4
    cases hx:atT t x
    ·rw [hx] at g4
     simp only [qft,if_false] at g4
     simp (disch:=first|omega|simp only[vl];omega) only [vcd,hx]
     exact ⟨(f,seT (seT t x true) (atI a x) true,atI b (atI a x)),by show f<f+1; omega,⟨by rw [seT_len,seT_len,g1],by rw [← hab]; exact hin2,cyc_step g1 g2 ha g3 hx,g4⟩,rfl⟩
    ·rw [hx] at g4
     simp only [if_true] at g4
     simp (disch:=first|omega|simp only[vl];omega) only [vcd,hx]
     rw [← g4]
  ·simp only [if_true]
   simp (disch:=first|omega|simp only[vl];omega) only [vcd,ht]
 ·simp (disch:=first|omega|simp only[vl];omega) only [vcd]
  rfl
theorem loops_s [HA K] {a b:List Int} (ha:ncmF a=true) (hb:ncmF b=true) (hab:b.length=a.length):K 371 [LI a,LI b] [.n (cyN a b)]:=by
 have ha1:matF a=true:=by simp [ncmF] at ha; exact ha.1
 have hb1:matF b=true:=by simp [ncmF] at hb; exact hb.1
 have hl:=(matF_t ha1).1
 have hia:=inL_of ha1
 have hib:=inL_of hb1
 refine body_by (f:=ir_spec_LoopsOf) rfl ?_; simp only [ir_spec_LoopsOf,zn,zs,zq,zi,zg,zp]
 simp (disch:=first|omega|simp only[vl];omega) only [vcd]
 repeat (first | (refine call_by (ncm_s (K:=K) (m:=a) (by omega)) rfl ?_; try simp (disch:=first|omega|simp only[vl];omega) only [vcd,ha,hb]) | (refine call_by (ncm_s (K:=K) (m:=b) (by omega)) rfl ?_; try simp (disch:=first|omega|simp only[vl];omega) only [vcd,ha,hb]))
 refine loop_ix (fun _=>True) (fun i=>[LI a,LI b,.u,LT (cyO a b i).1,.n (cyO a b i).2,.n i,.u,.u,.u,.u,.u]) a.length trivial rfl (fun i hi _=>?_) (fun _=>?_)
 ·have hlen:=cyO_len (a:=a) (b:=b) i
  obtain ⟨s,hs⟩:∃ s,s=(cyO a b i).1:=⟨_,rfl⟩
  obtain ⟨c,hc⟩:∃ c,c=(cyO a b i).2:=⟨_,rfl⟩
  rw [← hs,← hc] at hlen
  have he:cyO a b (i+1)=if atT s i=true then (s,c) else (cyW a b (a.length+1) s i,c+1):=by
   rw [hs,hc]; rfl
  rw [he,← hs,← hc]
  obtain ⟨hl1,hl2⟩:=hlen
  obtain ⟨R,hR⟩:∃ R,R=cyW a b (a.length+1) s i:=⟨_,rfl⟩
  rw [← hR]
  cases ht:atT s i
  ·simp only [qft,if_false]
   simp (disch:=first|omega|simp only[vl];omega) only [vcd,ht]
   refine loop_wh (fun (x:Nat×List Bool×Int)=>x.2.1.length=a.length∧(0≤x.2.2∧x.2.2<a.length)∧fls x.2.1<x.1∧cyW a b x.1 x.2.1 x.2.2=R) (fun x=>[LI a,LI b,.u,LT x.2.1,.n ((c:Int)+1),.n i,.n x.2.2,.u,.u,.u,.u]) (fun x=>x.1) (a.length+1,s,i) ⟨hl1,by simp; omega,by have:=List.countP_le_length (p:=fun b=>!b) (l:=s); simp only [fls]; omega,hR.symm⟩ rfl ?_
   rintro ⟨f,t,x⟩ ⟨g1,g2,g3,g4⟩
   simp only at g1 g2 g3 g4 ⊢
   have hin:=inL_at hia g2
   have hin2:=inL_at hib (x:=atI a x) (by omega)
   cases f with
   | zero=>omega
   | succ f=>
    simp only [cyW] at g4
    cases hx:atT t x
    ·rw [hx] at g4
     simp only [qft,if_false] at g4
     simp (disch:=first|omega|simp only[vl];omega) only [vcd,hx]
     exact ⟨(f,seT (seT t x true) (atI a x) true,atI b (atI a x)),by show f<f+1; omega,⟨by rw [seT_len,seT_len,g1],by rw [← hab]; exact hin2,cyc_step g1 g2 hia g3 hx,g4⟩,rfl⟩
    ·rw [hx] at g4
     simp only [if_true] at g4
     simp (disch:=first|omega|simp only[vl];omega) only [vcd,hx]
     rw [← g4]
  ·simp only [if_true]
   simp (disch:=first|omega|simp only[vl];omega) only [vcd,ht]
 ·simp (disch:=first|omega|simp only[vl];omega) only [vcd]
  rfl
end Go.Cat
