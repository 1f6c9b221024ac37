/-
 A path works a stack.
-/
import Derived.Test.YtihgdjeahjfhfaaGreatPfSort
import Derived.Test.YtihgdjeahjfhfaaGreatPfPath
import Derived.Test.YtihgdjeahjfhfaaGreatIrHas
set_option linter.unusedSimpArgs false
set_option linter.unusedVariables false
namespace Go.Cat
variable {K:Nat→List D→List D→Prop}
theorem walkH_cnt:∀ {w:List Nat} {h k:Int},walkH w h=some k→k=h+cnt w 117-cnt w 100∧cnt w 117+cnt w 100=w.length
 | [],h,k,e=>by simp only [walkH,qsj] at e; subst e; simp [cnt]
 | c::w,h,k,e=>by
  simp only [walkH] at e
  simp only [cnt_cons,qlc]
  by_cases hu:c=117
  ·rw [if_pos hu] at e
   have:=walkH_cnt e
   subst hu
   simp
   omega
  ·rw [if_neg hu] at e
   by_cases hd:c=100
   ·rw [if_pos hd] at e
    split at e
    ·cases e
    ·have:=walkH_cnt e
     subst hd
     simp
     omega
   ·rw [if_neg hd] at e; cases e
theorem dyck_walk {w:List Nat} (h:dyck w=true):walkH w 0=some 0∧w.length≤16:=by simpa [dyck] using h
theorem dyck_len {w:List Nat} (h:dyck w=true):w.length=2*cnt w 117:=by
 have:=walkH_cnt (dyck_walk h).1
 omega
def szF (w:List Nat):Int:=if dyck w=true then (w.length:Int) / 2 else -1
theorem size_i [HA K] {w:List Nat} (h:w.length≤1000000000):K 132 [.s w] [.n (szF w)]:=by
 refine body_by (f:=ir_impl_SizeOf) rfl ?_; simp only [ir_impl_SizeOf,zn,zs,zq,zi,zg,zp]
 simp (disch:=omega) only [vcd]
 cases hd:dyck w
 all_goals repeat (first | (refine call_by (dyck_i (K:=K) h) rfl ?_; try simp (disch:=omega) only [vcd,hd]))
 all_goals simp [szF,hd]
def outT:List Nat→List Int→List Int→List Int
 | [],_,_=>[]
 | c::w,p,st=>if c=117 then outT w (p.drop 1) (atI p 0::st) else atI st 0::outT w p (st.drop 1)
theorem outT_len:∀ {w:List Nat} {p st:List Int},(outT w p st).length≤w.length
 | [],_,_=>by simp [outT]
 | c::w,p,st=>by
  simp only [outT,qlc]
  split
  ·have:=outT_len (w:=w) (p:=p.drop 1) (st:=atI p 0::st); omega
  ·have:=outT_len (w:=w) (p:=p) (st:=st.drop 1); simp only [qlc]; omega
def outO (w:List Nat) (p:List Int):Bool:=dyck w&&permF p&&decide (w.length=2*p.length)
def outR (w:List Nat) (p:List Int):List Int:=if outO w p=true then outT w p [] else []
theorem outR_len {w:List Nat} {p:List Int}:(outR w p).length≤w.length:=by
 unfold outR; split
 ·exact outT_len
 ·simp
theorem drop0 {p:List Int} {n:Nat} (h:n<p.length):atI (p.drop n) 0=atI p n:=by simp [atI,h]
theorem out_i [HA K] {w:List Nat} {p:List Int} (h:w.length≤10000000) (hp:p.length≤10000000):K 110 [.s w,LI p] [LI (outR w p),.b (outO w p)]:=by
 refine body_by (f:=ir_impl_OutputOf) rfl ?_; simp only [ir_impl_OutputOf,zn,zs,zq,zi,zg,zp]
 simp (disch:=first|omega|simp only[vl];omega) only [vcd,LI_nil]
 cases hd:dyck w
 ·repeat (first | (refine call_by (dyck_i (K:=K) (by omega)) rfl ?_; try simp (disch:=first|omega|simp only[vl];omega) only [vcd,hd]))
  simp [outR,outO,hd]
 cases hq:permF p
 ·repeat (first | (refine call_by (dyck_i (K:=K) (by omega)) rfl ?_; try simp (disch:=first|omega|simp only[vl];omega) only [vcd,hd,hq]) | (refine call_by (perm_i (K:=K) (by omega)) rfl ?_; try simp (disch:=first|omega|simp only[vl];omega) only [vcd,hd,hq]))
  simp [outR,outO,hq]
 have hl:=dyck_len hd
 have hw:=(dyck_walk hd).1
 have hs:szF w=cnt w 117:=by rw [szF,if_pos hd]; omega
 by_cases hc:p.length=cnt w 117
 case neg=>
  repeat (first | (refine call_by (dyck_i (K:=K) (by omega)) rfl ?_; try simp (disch:=first|omega|simp only[vl];omega) only [vcd,hd,hq,hs]) | (refine call_by (perm_i (K:=K) (by omega)) rfl ?_; try simp (disch:=first|omega|simp only[vl];omega) only [vcd,hd,hq,hs]) | (refine call_by (size_i (K:=K) (by omega)) rfl ?_; try simp (disch:=first|omega|simp only[vl];omega) only [vcd,hd,hq,hs]))
  have:¬ w.length=2*p.length:=by omega
  simp [outR,outO,this]
 have ho:outO w p=true:=by simp [outO,hd,hq]; omega
 repeat (first | (refine call_by (dyck_i (K:=K) (by omega)) rfl ?_; try simp (disch:=first|omega|simp only[vl];omega) only [vcd,hd,hq,hs,LI_nil]) | (refine call_by (perm_i (K:=K) (by omega)) rfl ?_; try simp (disch:=first|omega|simp only[vl];omega) only [vcd,hd,hq,hs,LI_nil]) | (refine call_by (size_i (K:=K) (by omega)) rfl ?_; try simp (disch:=first|omega|simp only[vl];omega) only [vcd,hd,hq,hs,LI_nil]))
 refine loop_up (fun i (x:List Int×List Int×Nat)=>x.1.length≤i∧x.2.1.length≤i∧x.2.2+cnt (w.drop i) 117=p.length∧walkH (w.drop i) x.2.1.length=some 0∧outT w p []=x.1++outT (w.drop i) (p.drop x.2.2) x.2.1)
  (fun i x=>[.s w,LI p,.u,.u,LI x.1,LI x.2.1.reverse,.n x.2.2,.n i,.u,.u,.u]) w.length ([],[],0) ⟨by simp,by simp,by simp [hc],by simpa using hw,by simp⟩ rfl (fun i x hi hP=>?_) (fun x hP=>?_)
 ·obtain ⟨o,st,n⟩:=x
  obtain ⟨h1,h1b,h2,h3,h4⟩:=hP
  simp only at h1 h1b h2 h3 h4
  rw [dropB hi] at h2 h3 h4
  rw [cnt_cons] at h2
  simp only [walkH,outT] at h3 h4
  by_cases hu:atB w i=117
  ·rw [if_pos hu] at h2 h3 h4
   have hn:n<p.length:=by omega
   rw [drop0 hn,List.drop_drop] at h4
   simp (disch:=first|omega|simp only[vl];omega) only [vcd]
   refine ⟨(o,atI p n::st,n+1),⟨by simp; omega,by simp; omega,by simp; omega,by simpa using h3,h4⟩,?_⟩
   simp
  ·rw [if_neg hu] at h2 h3 h4
   by_cases hv:atB w i=100
   ·rw [if_pos hv] at h3
    cases st with
    | nil=>simp at h3
    | cons y t=>
     simp only [qlc] at h1b h3
     have hl:t.reverse.length=t.length:=List.length_reverse
     have e1:atI (t.reverse++[y]) t.length=y:=by rw [← hl]; exact at_last
     have e2:sub (t.reverse++[y]) 0 t.length=t.reverse:=by rw [← hl]; exact sub_init
     have e3:(((t.reverse++[y]).length:Nat):Int)=(t.length:Int)+1:=by simp
     have e4:atI (y::t) 0=y:=rfl
     have h5:walkH (w.drop (i+1)) t.length=some 0:=by
      rw [if_neg (by omega)] at h3
      rw [← h3]; congr 1; omega
     simp only [List.reverse_cons]
     simp (disch:=first|omega|simp only[vl];omega) only [vcd,e3,e1,e2,qas]
     refine ⟨(o++[y],t,n),⟨by simp; omega,by simp; omega,by simp; omega,h5,by rw [h4,e4]; simp⟩,rfl⟩
   ·rw [if_neg hv] at h3; cases h3
 ·obtain ⟨o,st,n⟩:=x
  obtain ⟨h1,h1b,h2,h3,h4⟩:=hP
  simp only at h4
  rw [List.drop_length] at h4
  simp only [outT,List.append_nil] at h4
  simp (disch:=first|omega|simp only[vl];omega) only [vcd]
  simp [outR,ho,h4]
theorem out_s [HA K] {w:List Nat} {p:List Int} (h:w.length≤10000000) (hp:p.length≤10000000):K 109 [.s w,LI p] [LI (outR w p),.b (outO w p)]:=by
 refine body_by (f:=ir_spec_OutputOf) rfl ?_; simp only [ir_spec_OutputOf,zn,zs,zq,zi,zg,zp]
 simp (disch:=first|omega|simp only[vl];omega) only [vcd,LI_nil]
 cases hd:dyck w
 ·repeat (first | (refine call_by (dyck_s (K:=K) (by omega)) rfl ?_; try simp (disch:=first|omega|simp only[vl];omega) only [vcd,hd]))
  simp [outR,outO,hd]
 cases hq:permF p
 ·repeat (first | (refine call_by (dyck_s (K:=K) (by omega)) rfl ?_; try simp (disch:=first|omega|simp only[vl];omega) only [vcd,hd,hq]) | (refine call_by (perm_s (K:=K) (by omega)) rfl ?_; try simp (disch:=first|omega|simp only[vl];omega) only [vcd,hd,hq]))
  simp [outR,outO,hq]
 have hl:=dyck_len hd
 have hw:=(dyck_walk hd).1
 by_cases hc:p.length=cnt w 117
 case neg=>
  repeat (first | (refine call_by (dyck_s (K:=K) (by omega)) rfl ?_; try simp (disch:=first|omega|simp only[vl];omega) only [vcd,hd,hq]) | (refine call_by (perm_s (K:=K) (by omega)) rfl ?_; try simp (disch:=first|omega|simp only[vl];omega) only [vcd,hd,hq]))
  have:¬ w.length=2*p.length:=by omega
  simp [outR,outO,this]
 have ho:outO w p=true:=by simp [outO,hd,hq]; omega
 repeat (first | (refine call_by (dyck_s (K:=K) (by omega)) rfl ?_; try simp (disch:=first|omega|simp only[vl];omega) only [vcd,hd,hq,LI_nil]) | (refine call_by (perm_s (K:=K) (by omega)) rfl ?_; try simp (disch:=first|omega|simp only[vl];omega) only [vcd,hd,hq,LI_nil]))
 refine loop_up (fun i (x:List Int×List Int×Nat)=>x.1.length≤i∧x.2.1.length≤i∧x.2.2+cnt (w.drop i) 117=p.length∧walkH (w.drop i) x.2.1.length=some 0∧outT w p []=x.1++outT (w.drop i) (p.drop x.2.2) x.2.1)
  (fun i x=>[.s w,LI p,.u,.u,LI x.1,LI x.2.1.reverse,.n x.2.2,.n i,.u,.u,.u]) w.length ([],[],0) ⟨by simp,by simp,by simp [hc],by simpa using hw,by simp⟩ rfl (fun i x hi hP=>?_) (fun x hP=>?_)
 ·obtain ⟨o,st,n⟩:=x
  obtain ⟨h1,h1b,h2,h3,h4⟩:=hP
  simp only at h1 h1b h2 h3 h4
  rw [dropB hi] at h2 h3 h4
  rw [cnt_cons] at h2
  simp only [walkH,outT] at h3 h4
  by_cases hu:atB w i=117
  ·rw [if_pos hu] at h2 h3 h4
   have hn:n<p.length:=by omega
   rw [drop0 hn,List.drop_drop] at h4
   simp (disch:=first|omega|simp only[vl];omega) only [vcd]
   refine ⟨(o,atI p n::st,n+1),⟨by simp; omega,by simp; omega,by simp; omega,by simpa using h3,h4⟩,?_⟩
   simp
  ·rw [if_neg hu] at h2 h3 h4
   by_cases hv:atB w i=100
   ·rw [if_pos hv] at h3
    cases st with
    | nil=>simp at h3
    | cons y t=>
     simp only [qlc] at h1b h3
     have hl:t.reverse.length=t.length:=List.length_reverse
     have e1:atI (t.reverse++[y]) t.length=y:=by rw [← hl]; exact at_last
     have e2:sub (t.reverse++[y]) 0 t.length=t.reverse:=by rw [← hl]; exact sub_init
     have e3:(((t.reverse++[y]).length:Nat):Int)=(t.length:Int)+1:=by simp
     have e4:atI (y::t) 0=y:=rfl
     have h5:walkH (w.drop (i+1)) t.length=some 0:=by
      rw [if_neg (by omega)] at h3
      rw [← h3]; congr 1; omega
     simp only [List.reverse_cons]
     simp (disch:=first|omega|simp only[vl];omega) only [vcd,e3,e1,e2,qas]
     refine ⟨(o++[y],t,n),⟨by simp; omega,by simp; omega,by simp; omega,h5,by rw [h4,e4]; simp⟩,rfl⟩
   ·rw [if_neg hv] at h3; cases h3
 ·obtain ⟨o,st,n⟩:=x
  obtain ⟨h1,h1b,h2,h3,h4⟩:=hP
  simp only at h4
  rw [List.drop_length] at h4
  simp only [outT,List.append_nil] at h4
  simp (disch:=first|omega|simp only[vl];omega) only [vcd]
  simp [outR,ho,h4]
end Go.Cat
