/-
 Texts cut into numbers: cut and l32Numbers.
-/
import Derived.Test.YtdifmcppfcbgdaaGreatPfPI
import Derived.Test.YtdifmcppfcbgdaaGreatPfAp2
import Derived.Test.YtdifmcppfcbgdaaGreatIrHas
set_option linter.unusedSimpArgs false
set_option linter.unusedVariables false
namespace Go.Cat
variable {K:Nat→List D→List D→Prop}
theorem sub_snoc {s:List Nat} {f i:Nat} (h1:f≤i) (h2:i<s.length):(s.take (i+1)).drop f=(s.take i).drop f++[atB s i]:=by
 rw [takeB h2,List.drop_append_of_le_length (by simp; omega)]
theorem sub_natA {s:List Nat} {f i:Nat}:sub s (f:Int) (i:Int)=(s.take i).drop f:=by
 simp [sub]
theorem cut_i [HA K] {s:List Nat} {b:Nat} (h:s.length≤1000000000):K 561 [.s s,.y b] [LS (cutF b s)]:=by
 refine body_by (f:=ir_impl_cut) rfl ?_; simp only [ir_impl_cut,zn,zs,zq,zi,zg,zp]
 simp (disch:=first|omega|simp only[vl];omega) only [vcd,LS_nil]
 refine loop_up (fun i (x:List (List Nat)×Nat)=>x.2≤i∧x.1.length≤i∧cutF b s=x.1++cutA b ((s.take i).drop x.2) (s.drop i)) (fun i x=>[.s s,.y b,.u,LS x.1,.n x.2,.n i,.u,.u]) s.length ([],0) ⟨by simp,by simp,by simp [cutF]⟩ rfl (fun i x hi hP=>?_) (fun x hP=>?_)
 ·obtain ⟨o,f⟩:=x
  obtain ⟨h1,h2,h3⟩:=hP
  simp only at h1 h2 h3
  rw [cutA_step hi] at h3
  by_cases hc:atB s i=b
  ·rw [if_pos hc] at h3
   simp (disch:=first|omega|simp only[vl];omega) only [vcd,hc]
   refine ⟨(o++[sub s f i],i+1),⟨by simp,by simp; omega,?_⟩,rfl⟩
   simp only [sub_natA,qaa,List.singleton_append]
   rw [h3]
   have:(s.take (i+1)).drop (i+1)=[]:=List.drop_eq_nil_of_le (by simp; omega)
   rw [this]
  ·rw [if_neg hc,← sub_snoc h1 hi] at h3
   simp (disch:=first|omega|simp only[vl];omega) only [vcd,hc]
   exact ⟨(o,f),⟨by simp; omega,by simp; omega,h3⟩,rfl⟩
 ·obtain ⟨o,f⟩:=x
  obtain ⟨h1,h2,h3⟩:=hP
  simp only at h1 h2 h3
  simp (disch:=first|omega|simp only[vl];omega) only [vcd,ls_1]
  rw [h3,sub_natA,List.take_length,List.drop_length]
  rfl
theorem LI_nilN:D.l []=LI []:=rfl
theorem sub_oneN {s:List Nat} {i:Nat} (h:i<s.length):sub s (i:Int) ((i:Int)+1)=[atB s i]:=by
 have e:((i:Int)+1)=((i+1:Nat):Int):=by omega
 rw [e,sub_natA,takeB h,List.drop_append_of_le_length (by simp; omega)]
 simp
def numO (ps:List (List Nat)):Bool:=ps.all pOK
def numR (ps:List (List Nat)):List Int:=if numO ps=true then ps.map pV else []
theorem numO_no {o t:List (List Nat)} {p:List Nat} (h:¬ pOK p=true):numO (o++p::t)=false:=by
 simp [numO,h]
theorem numR_no {o:List (List Nat)} (h:numO o=false):numR o=[]:=by simp [numR,h]
theorem pR_ok {p:List Nat} (h:pOK p=true):pR p=pV p:=by simp [pR,h]
theorem nums_s [HA K] {s:List Nat} {b:Nat} (h:s.length≤1000000):K 575 [.s s,.y b] [LI (numR (cutF b s)),.b (numO (cutF b s))]:=by
 refine body_by (f:=ir_spec_l32Numbers) rfl ?_; simp only [ir_spec_l32Numbers,zn,zs,zq,zi,zg,zp]
 simp (disch:=first|omega|simp only[vl];omega) only [vcd,LI_nilN]
 refine loop_up (fun i (x:List (List Nat)×List Nat)=>x.1.length≤i∧x.2.length≤i∧x.1.all pOK=true∧(i≤s.length→cutF b s=x.1++cutA b x.2 (s.drop i))∧(s.length<i→cutF b s=x.1)) (fun i x=>[.s s,.y b,.u,.u,LI (x.1.map pV),.s x.2,.n i,.u,.u,.u,.u,.u]) (s.length+1) ([],[]) ⟨by simp,by simp,by simp,by simp [cutF],by simp⟩ rfl (fun i x hi hP=>?_) (fun x hP=>?_)
 ·obtain ⟨o,p⟩:=x
  obtain ⟨h1,h2,h3,h4,_⟩:=hP
  simp only at h1 h2 h3 h4
  have h4:=h4 (by omega)
  have kp:=pint_s (K:=K) (s:=p) (by omega)
  by_cases hs:i<s.length
  ·rw [cutA_step hs] at h4
   by_cases hc:atB s i=b
   ·rw [if_pos hc] at h4
    simp (disch:=first|omega|simp only[vl];omega) only [vcd,hc]
    refine call_by (kp) rfl ?_
    by_cases hp:pOK p=true
    ·simp (disch:=first|omega|simp only[vl];omega) only [vcd,hp]
     exact ⟨(o++[p],[]),⟨by simp; omega,by simp,by simp [h3,hp],fun _=>by simp [h4],fun q=>absurd q (by omega)⟩,by simp [pR_ok hp]⟩
    ·simp (disch:=first|omega|simp only[vl];omega) only [vcd,hp]
     have hn:numO (cutF b s)=false:=by rw [h4]; exact numO_no hp
     rw [hn,numR_no hn]
     rfl
   ·rw [if_neg hc] at h4
    simp (disch:=first|omega|simp only[vl];omega) only [vcd,hc]
    rw [sub_oneN hs]
    exact ⟨(o,p++[atB s i]),⟨by simp; omega,by simp; omega,h3,fun _=>h4,fun q=>absurd q (by omega)⟩,rfl⟩
  ·have e1:s.drop i=[]:=List.drop_eq_nil_of_le (by omega)
   rw [e1] at h4
   simp (disch:=first|omega|simp only[vl];omega) only [vcd]
   refine call_by (kp) rfl ?_
   by_cases hp:pOK p=true
   ·simp (disch:=first|omega|simp only[vl];omega) only [vcd,hp]
    exact ⟨(o++[p],[]),⟨by simp; omega,by simp,by simp [h3,hp],fun q=>absurd q (by omega),fun _=>by simp [h4,cutA]⟩,by simp [pR_ok hp]⟩
   ·simp (disch:=first|omega|simp only[vl];omega) only [vcd,hp]
    have hn:numO (cutF b s)=false:=by rw [h4]; exact numO_no hp
    rw [hn,numR_no hn]
    rfl
 ·obtain ⟨o,p⟩:=x
  obtain ⟨h1,h2,h3,h4,h5⟩:=hP
  simp only at h1 h2 h3 h5
  simp (disch:=first|omega|simp only[vl];omega) only [vcd]
  rw [h5 (by omega)]
  simp [numR,numO,h3]
end Go.Cat
