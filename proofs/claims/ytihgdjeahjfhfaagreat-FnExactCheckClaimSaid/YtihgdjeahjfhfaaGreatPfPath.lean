/-
 Words of u and d: counting letters, paths.
-/
import Derived.Test.YtihgdjeahjfhfaaGreatCatFour
import Derived.Test.YtihgdjeahjfhfaaGreatIrHas
set_option linter.unusedSimpArgs false
set_option linter.unusedVariables false
namespace Go.Cat
variable {K:Nat→List D→List D→Prop}
def cnt (w:List Nat) (c:Nat):Nat:=w.count c
theorem cnt_cons {a c:Nat} {w:List Nat}:cnt (a::w) c=cnt w c+(if a=c then 1 else 0):=by
 simp only [cnt,List.count_cons]; congr 1
 by_cases h:a=c <;> simp [h]
def walkH:List Nat→Int→Option Int
 | [],h=>some h
 | c::w,h=>if c=117 then walkH w (h+1) else if c=100 then (if h-1<0 then none else walkH w (h-1)) else none
def hts:List Nat→Int→List Int
 | [],_=>[]
 | c::w,h=>if c=117 then (h+1)::hts w (h+1) else (h-1)::hts w (h-1)
def dyck (w:List Nat):Bool:=decide (walkH w 0=some 0)&&decide (w.length≤16)
def htsR (w:List Nat):List Int:=match walkH w 0 with
 | some _=>0::hts w 0
 | none=>[]
def htsO (w:List Nat):Bool:=decide (walkH w 0=some 0)
theorem heights_ok [HA K] {w:List Nat} (h:w.length≤1000000000):K 82 [.s w] [LI (htsR w),.b (htsO w)]:=by
 refine body_by (f:=ir_impl_heights) rfl ?_; simp only [ir_impl_heights,zn,zs,zq,zi,zg,zp]
 simp (disch:=first|omega|simp only[vl];omega) only [vcd]
 refine loop_up (fun i (x:Int×List Int)=>0≤x.1∧x.1≤i∧x.2.length=i+1∧walkH w 0=walkH (w.drop i) x.1∧(0::hts w 0:List Int)=x.2++hts (w.drop i) x.1) (fun i x=>[.s w,.u,.u,LI x.2,.n x.1,.n i,.u,.u,.u,.u,.u]) w.length (0,[0]) ⟨by simp,by simp,by simp,by simp,by simp⟩ rfl (fun i x hi hP=>?_) (fun x hP=>?_)
 ·obtain ⟨hh,l⟩:=x
  obtain ⟨h1,h2,h3,h4,h5⟩:=hP
  simp only at h1 h2 h3 h4 h5
  rw [dropB hi] at h4 h5
  simp only [walkH,hts] at h4 h5
  by_cases hu:atB w i=117
  ·rw [if_pos hu] at h4 h5
   simp (disch:=first|omega|simp only[vl];omega) only [vcd]
   exact ⟨(hh+1,l++[hh+1]),⟨by simp; omega,by simp; omega,by simp; omega,h4,by simp [h5]⟩,rfl⟩
  ·rw [if_neg hu] at h4 h5
   by_cases hd:atB w i=100
   ·rw [if_pos hd] at h4
    by_cases hn:hh-1<0
    ·rw [if_pos hn] at h4
     simp (disch:=first|omega|simp only[vl];omega) only [vcd]
     simp only [htsR,htsO,h4]; rfl
    ·rw [if_neg hn] at h4
     simp (disch:=first|omega|simp only[vl];omega) only [vcd]
     exact ⟨(hh-1,l++[hh-1]),⟨by simp; omega,by simp; omega,by simp; omega,h4,by simp [h5]⟩,rfl⟩
   ·rw [if_neg hd] at h4
    simp (disch:=first|omega|simp only[vl];omega) only [vcd]
    simp only [htsR,htsO,h4]; rfl
 ·obtain ⟨hh,l⟩:=x
  obtain ⟨h1,h2,h3,h4,h5⟩:=hP
  simp only at h1 h2 h3 h4 h5
  rw [List.drop_length] at h4 h5
  simp only [walkH,hts,List.append_nil] at h4 h5
  simp (disch:=first|omega|simp only[vl];omega) only [vcd]
  simp only [htsR,htsO,h4,h5,qsj]
theorem dyck_i [HA K] {w:List Nat} (h:w.length≤1000000000):K 67 [.s w] [.b (dyck w)]:=by
 refine body_by (f:=ir_impl_IsDyck) rfl ?_; simp only [ir_impl_IsDyck,zn,zs,zq,zi,zg,zp]
 by_cases hl:w.length≤16
 ·simp (disch:=omega) only [vcd]
  repeat (first | (refine call_by (heights_ok (K:=K) h) rfl ?_; try simp (disch:=omega) only [vcd]))
  simp [dyck,htsO,hl]
 ·simp (disch:=omega) only [vcd]
  simp [dyck,hl]
theorem dyck_s [HA K] {w:List Nat} (h:w.length≤1000000000):K 64 [.s w] [.b (dyck w)]:=by
 refine body_by (f:=ir_spec_IsDyck) rfl ?_; simp only [ir_spec_IsDyck,zn,zs,zq,zi,zg,zp]
 simp (disch:=omega) only [vcd]
 refine loop_up (fun i (x:Int)=>0≤x∧x≤i∧walkH w 0=walkH (w.drop i) x) (fun i x=>[.s w,.u,.n x,.n i,.u,.u,.u,.u,.u]) w.length 0 ⟨by simp,by simp,by simp⟩ rfl (fun i hh hi hP=>?_) (fun hh hP=>?_)
 ·obtain ⟨h1,h2,h4⟩:=hP
  rw [dropB hi] at h4
  simp only [walkH] at h4
  by_cases hu:atB w i=117
  ·rw [if_pos hu] at h4
   simp (disch:=omega) only [vcd]
   exact ⟨hh+1,⟨by omega,by omega,h4⟩,rfl⟩
  ·rw [if_neg hu] at h4
   by_cases hd:atB w i=100
   ·rw [if_pos hd] at h4
    by_cases hn:hh-1<0
    ·rw [if_pos hn] at h4
     simp (disch:=omega) only [vcd]
     simp [dyck,h4]
    ·rw [if_neg hn] at h4
     simp (disch:=omega) only [vcd]
     exact ⟨hh-1,⟨by omega,by omega,h4⟩,rfl⟩
   ·rw [if_neg hd] at h4
    simp (disch:=omega) only [vcd]
    simp [dyck,h4]
 ·obtain ⟨h1,h2,h4⟩:=hP
  rw [List.drop_length] at h4
  simp only [walkH] at h4
  by_cases h0:hh=0
  ·simp (disch:=omega) only [vcd]
   simp only [dyck,h4,h0]; simp; omega
  ·simp (disch:=omega) only [vcd]
   simp [dyck,h4,h0]
end Go.Cat
