/-
 Partitions read back: IsNoncrossing, PathOfPartition and l32Partition of the reference, for any list and text.
-/
import Derived.Test.YtdaefhflccndlaaGreatPfPart
import Derived.Test.YtdaefhflccndlaaGreatPfPI
import Derived.Test.YtdaefhflccndlaaGreatIrHas
set_option linter.unusedSimpArgs false
set_option linter.unusedVariables false
namespace Go.Cat
variable {K:Nat→List D→List D→Prop}
def tlA (f:Int→List Int→Bool):List Int→Bool
 | []=>true
 | x::t=>f x t&&tlA f t
def ncQ (x y z:Int):List Int→Bool:=tlA fun u _=>!(decide (x=z)&&decide (y=u)&&!decide (x=y))
def ncC (x y:Int):List Int→Bool:=tlA fun z t=>ncQ x y z t
def ncB (x:Int):List Int→Bool:=tlA fun y t=>ncC x y t
def ncA:List Int→Bool:=tlA fun x t=>ncB x t
def ncF (p:List Int):Bool:=isPt p&&ncA p
theorem tlA_drop {f:Int→List Int→Bool} {p:List Int} {i:Nat} (h:i<p.length):tlA f (p.drop i)=(f (atI p i) (p.drop (i+1))&&tlA f (p.drop (i+1))):=by
 rw [List.drop_eq_getElem_cons h,tlA]
 simp [atI,h]
theorem tlA_end {f:Int→List Int→Bool} {p:List Int} {i:Nat} (h:p.length≤i):tlA f (p.drop i)=true:=by
 rw [List.drop_of_length_le h]; rfl
theorem nc_s [HA K] {p:List Int} (h:p.length≤1099511627776):K 483 [LI p] [.b (ncF p)]:=by
 have k1:=pt_s (K:=K) (p:=p) h
 refine body_by (f:=ir_spec_IsNoncrossing) rfl ?_; simp only [ir_spec_IsNoncrossing,zn,zs,zq,zi,zg,zp]
 simp (disch:=omega) only [vcd]
 by_cases hp:isPt p=true
 ·rw [hp] at k1
  have h8:p.length≤8:=by simp [isPt] at hp; exact hp.1
  have e0:ncF p=ncA p:=by simp [ncF,hp]
  rw [e0]
  refine loop_ix (fun i=>ncA p=ncA (p.drop i)) (fun i=>[LI p,.u,.n i,.u,.u,.u,.u,.u,.u,.u,.u]) p.length (by simp) rfl (fun a ha hA=>?_) (fun hA=>?_)
  ·have hA:ncA p=(ncB (atI p a) (p.drop (a+1))&&ncA (p.drop (a+1))):=hA.trans (tlA_drop ha)
   simp (disch:=omega) only [vcd]
   refine call_by (k1) rfl ?_
   simp (disch:=omega) only [vcd]
   refine loop_ix (fun j=>ncA p=(ncB (atI p a) (p.drop (a+1+j))&&ncA (p.drop (a+1)))) (fun j=>[LI p,.u,.n a,.n ((a:Int)+1+j),.u,.u,.u,.u,.u,.u,.u]) (p.length-(a+1)) (by simpa using hA) (by simp) (fun j hj hB=>?_) (fun hB=>?_)
   ·obtain ⟨b,hb⟩:∃ b,b=a+1+j:=⟨_,rfl⟩
    have eb:(a:Int)+1+j=(b:Int):=by omega
    have hbl:b<p.length:=by omega
    rw [← hb] at hB
    have hB:ncA p=((ncC (atI p a) (atI p b) (p.drop (b+1))&&ncB (atI p a) (p.drop (b+1)))&&ncA (p.drop (a+1))):=by
     rw [hB]; congr 1; exact tlA_drop hbl
    rw [eb]
    simp (disch:=omega) only [vcd]
    refine loop_ix (fun k=>ncA p=((ncC (atI p a) (atI p b) (p.drop (b+1+k))&&ncB (atI p a) (p.drop (b+1)))&&ncA (p.drop (a+1)))) (fun k=>[LI p,.u,.n a,.n b,.n ((b:Int)+1+k),.u,.u,.u,.u,.u,.u]) (p.length-(b+1)) (by simpa using hB) (by simp) (fun k hk hC=>?_) (fun hC=>?_)
    ·obtain ⟨c,hc⟩:∃ c,c=b+1+k:=⟨_,rfl⟩
     have ec:(b:Int)+1+k=(c:Int):=by omega
     have hcl:c<p.length:=by omega
     rw [← hc] at hC
     have hC:ncA p=(((ncQ (atI p a) (atI p b) (atI p c) (p.drop (c+1))&&ncC (atI p a) (atI p b) (p.drop (c+1)))&&ncB (atI p a) (p.drop (b+1)))&&ncA (p.drop (a+1))):=by
      rw [hC]; congr 2; exact tlA_drop hcl
     rw [ec]
     simp (disch:=omega) only [vcd]
     refine loop_ix (fun l=>ncA p=(((ncQ (atI p a) (atI p b) (atI p c) (p.drop (c+1+l))&&ncC (atI p a) (atI p b) (p.drop (c+1)))&&ncB (atI p a) (p.drop (b+1)))&&ncA (p.drop (a+1)))) (fun l=>[LI p,.u,.n a,.n b,.n c,.n ((c:Int)+1+l),.u,.u,.u,.u,.u]) (p.length-(c+1)) (by simpa using hC) (by simp) (fun l hl hD=>?_) (fun hD=>?_)
     ·obtain ⟨d,hd⟩:∃ d,d=c+1+l:=⟨_,rfl⟩
      have ed:(c:Int)+1+l=(d:Int):=by omega
      have hdl:d<p.length:=by omega
      have ed2:c+1+(l+1)=d+1:=by omega
      have ed3:(c:Int)+1+((l:Int)+1)=(d:Int)+1:=by omega
      rw [← hd] at hD
      have hD:ncA p=((((!(decide (atI p a=atI p c)&&decide (atI p b=atI p d)&&!decide (atI p a=atI p b)))&&ncQ (atI p a) (atI p b) (atI p c) (p.drop (d+1)))&&ncC (atI p a) (atI p b) (p.drop (c+1)))&&ncB (atI p a) (p.drop (b+1))&&ncA (p.drop (a+1))):=by
       rw [hD]; congr 3; exact tlA_drop hdl
      rw [ed,ed2]
      by_cases h1:atI p a=atI p c
      ·by_cases h2:atI p b=atI p d
       ·by_cases h3:atI p a=atI p b
        ·simp (disch:=omega) only [vcd]
         rw [ed3]
         refine ⟨?_,rfl⟩
         rw [hD]; simp [h3]
        ·simp (disch:=omega) only [vcd]
         rw [hD,decide_eq_true h1,decide_eq_true h2,decide_eq_false h3]; simp
       ·simp (disch:=omega) only [vcd]
        rw [ed3]
        refine ⟨?_,rfl⟩
        rw [hD]; simp [h2]
      ·simp (disch:=omega) only [vcd]
       rw [ed3]
       refine ⟨?_,rfl⟩
       rw [hD]; simp [h1]
     ·simp (disch:=omega) only [vcd]
      have e:=tlA_end (f:=fun u _=>!(decide (atI p a=atI p c)&&decide (atI p b=u)&&!decide (atI p a=atI p b))) (p:=p) (i:=c+1+(p.length-(c+1))) (by omega)
      have e:ncQ (atI p a) (atI p b) (atI p c) (p.drop (c+1+(p.length-(c+1))))=true:=e
      rw [e,Bool.true_and] at hD
      have ek:b+1+(k+1)=c+1:=by omega
      have ek3:(b:Int)+1+((k:Int)+1)=(c:Int)+1:=by omega
      rw [ek,ek3]
      exact ⟨hD,rfl⟩
    ·simp (disch:=omega) only [vcd]
     have e:ncC (atI p a) (atI p b) (p.drop (b+1+(p.length-(b+1))))=true:=tlA_end (by omega)
     rw [e,Bool.true_and] at hC
     have ek:a+1+(j+1)=b+1:=by omega
     have ek3:(a:Int)+1+((j:Int)+1)=(b:Int)+1:=by omega
     rw [ek,ek3]
     exact ⟨hC,rfl⟩
   ·simp (disch:=omega) only [vcd]
    have e:ncB (atI p a) (p.drop (a+1+(p.length-(a+1))))=true:=tlA_end (by omega)
    rw [e,Bool.true_and] at hB
    exact hB
  ·have e:ncA (p.drop p.length)=true:=tlA_end (by omega)
   rw [e] at hA
   simp (disch:=omega) only [vcd]
   refine call_by (k1) rfl ?_
   simp (disch:=omega) only [vcd]
   rw [hA]
 ·have hp:isPt p=false:=by simpa using hp
  rw [hp] at k1
  have e0:ncF p=false:=by simp [ncF,hp]
  rw [e0]
  refine loop_ix (fun _=>True) (fun _=>[LI p,.u,.n 0,.u,.u,.u,.u,.u,.u,.u,.u]) 0 trivial rfl (fun i hi _=>absurd hi (by omega)) (fun _=>?_)
  by_cases h0:p.length=0
  ·simp (disch:=omega) only [vcd]
   refine call_by (k1) rfl ?_
   simp (disch:=omega) only [vcd]
  ·simp (disch:=omega) only [vcd]
   refine call_by (k1) rfl ?_
   simp (disch:=omega) only [vcd]
   refine call_by (k1) rfl ?_
   simp (disch:=omega) only [vcd]
theorem isPt_V {p:List Int} (h:isPt p=true):ptV p p.length∧p.length≤8:=by simp [isPt] at h; exact ⟨h.2,h.1⟩
theorem atL_seLq {o:List (List Int)} {i j:Int} {r:List Int} (hi:0≤i∧i<o.length) (hj:0≤j):atL (seL o i r) j=if i=j then r else atL o j:=by
 obtain ⟨n,rfl⟩:=qoz hi.1
 obtain ⟨m,rfl⟩:=qoz hj
 have hn:n<o.length:=by have:=hi.2; omega
 simp only [atL,seL,Int.ofNat_eq_natCast,qtn,qgd,List.getElem?_set]
 by_cases e:n=m
 ·subst e; simp [hn]
 ·have e2:¬ (n:Int)=(m:Int):=by omega
  simp [e,e2]
theorem blF_pos {p:List Int}:∀ {i:Nat},ptV p i→∀ j:Nat,j<i→0<(atL (blF p i) (atI p j)).length
 | 0,_,j,hj=>by omega
 | i+1,h,j,hj=>by
  have hv:ptV p i:=fun k hk=>h k (by omega)
  have h1:=blF_len hv
  have h2:=inR_iff.1 (h i (by omega))
  have h3:=inR_iff.1 (h j hj)
  simp only [blF]
  generalize ho:(if atI p i=(blF p i).length then blF p i++[[]] else blF p i)=o
  have hol:0≤atI p i∧atI p i<o.length:=by
   rw [← ho]; split
   ·simp only [qla,qlc,qln]; omega
   ·omega
  rw [atL_seLq hol h3.1]
  by_cases he:atI p i=atI p j
  ·rw [if_pos he]; simp
  ·rw [if_neg he]
   have hji:j<i:=by
    rcases qlg j i with q | q
    ·exact q
    ·obtain rfl:j=i:=by omega
     exact absurd rfl he
   have ih:=blF_pos hv j hji
   rw [← ho]; split
   ·have h4:=inR_iff.1 (hv j hji)
    have hb:=nxF_bd hv
    have hjl:atI p j<(blF p i).length:=by
     rcases Int.lt_or_le (atI p j) ((blF p i).length:Int) with q | q
     ·exact q
     ·exfalso
      obtain ⟨m,hm⟩:=qoz h4.1
      have hm:atI p j=(m:Int):=hm
      rw [hm] at ih q
      have:atL (blF p i) (m:Int)=[]:=by
       simp only [atL,qtn,qgd]
       rw [qgn (by omega)]; rfl
      rw [this] at ih; simp at ih
    obtain ⟨m,hm⟩:=qoz h4.1
    have hm:atI p j=(m:Int):=hm
    rw [hm] at ih hjl ⊢
    have:atL (blF p i++[[]]) (m:Int)=atL (blF p i) (m:Int):=by
     simp only [atL,qtn,qgd]
     rw [qgl (by omega)]
    rw [this]; exact ih
   ·exact ih
def poT (p:List Int) (b:List (List Int)):Nat→List Nat
 | 0=>[]
 | i+1=>poT p b i++[117]++if atI (atL b (atI p i)) ((atL b (atI p i)).length-1)=i then List.replicate (atL b (atI p i)).length 100 else []
def ptoR (p:List Int):List Nat:=if ncF p=true then poT p (blF p p.length) p.length else []
theorem poT_len {p:List Int} {b:List (List Int)} (h:∀ j:Nat,j<p.length→(atL b (atI p j)).length≤8):∀ {i:Nat},i≤p.length→(poT p b i).length≤9*i
 | 0,_=>by simp [poT]
 | i+1,hi=>by
  have ih:=poT_len h (i:=i) (by omega)
  have h1:=h i (by omega)
  simp only [poT,qla,qlc,qln]
  split
  ·simp only [List.length_replicate]; omega
  ·simp only [qln]; omega
theorem rep_snocQ {k c:Nat}:List.replicate (k+1) c=List.replicate k c++[c]:=by rw [List.replicate_succ']
theorem pto_s [HA K] {p:List Int} (h:p.length≤1099511627776):K 579 [LI p] [.s (ptoR p),.b (ncF p)]:=by
 have k1:=nc_s (K:=K) (p:=p) h
 by_cases hn:ncF p=true
 ·have hp:isPt p=true:=by simp only [ncF,qba] at hn; exact hn.1
  obtain ⟨hv,h8⟩:=isPt_V hp
  have k2:=blk_s (K:=K) (p:=p) h
  rw [hp,if_pos rfl] at k2
  have hr1:=blF_pos hv
  have hbl:=blF_len hv
  have hnx:=nxF_bd hv
  have hin:∀ j:Nat,j<p.length→0≤atI p j∧atI p j<(blF p p.length).length:=by
   intro j hj
   have h1:=inR_iff.1 (hv j hj)
   have h2:=hr1 j hj
   refine ⟨h1.1,?_⟩
   rcases Int.lt_or_le (atI p j) ((blF p p.length).length:Int) with q | q
   ·exact q
   ·exfalso
    obtain ⟨m,hm⟩:=qoz h1.1
    have hm:atI p j=(m:Int):=hm
    rw [hm] at h2 q
    have:atL (blF p p.length) (m:Int)=[]:=by
     simp only [atL,qtn,qgd]
     rw [qgn (by omega)]; rfl
    rw [this] at h2; simp at h2
  have hr2:∀ j:Nat,j<p.length→(atL (blF p p.length) (atI p j)).length≤8:=by
   intro j hj
   obtain ⟨m,hm⟩:=qoz (hin j hj).1
   have hm:atI p j=(m:Int):=hm
   have h2:=(hin j hj).2
   rw [hm] at h2 ⊢
   have:=blF_row (atL_in (i:=m) (m:=blF p p.length) (by omega))
   omega
  rw [hn] at k1
  rw [ptoR,if_pos hn,hn]
  generalize hB:blF p p.length=B at k2 hr1 hr2 hin hbl
  refine body_by (f:=ir_spec_PathOfPartition) rfl ?_; simp only [ir_spec_PathOfPartition,zn,zs,zq,zi,zg,zp]
  simp (disch:=first|omega|simp only[vl];omega) only [vcd]
  refine call_by (k1) rfl ?_
  simp (disch:=first|omega|simp only[vl];omega) only [vcd]
  refine call_by (k2) rfl ?_
  simp (disch:=first|omega|simp only[vl];omega) only [vcd]
  refine loop_ix (fun _=>True) (fun i=>[LI p,.u,.u,.s (poT p B i),LL B,.n i,.u,.u,.u,.u,.u,.u]) p.length trivial rfl (fun i hi _=>?_) (fun _=>?_)
  ·have q1:=hr1 i hi
   have q2:=hr2 i hi
   have q3:=hin i hi
   have hlt:=poT_len hr2 (i:=i) (by omega)
   obtain ⟨r,hr⟩:∃ r,r=atL B (atI p i):=⟨_,rfl⟩
   rw [poT,← hr]
   rw [← hr] at q1 q2
   by_cases hl:atI r (r.length-1)=i
   ·rw [if_pos hl]
    simp (disch:=first|omega|simp only[vl];omega) only [vcd,← hr,hl]
    refine loop_ix (fun _=>True) (fun k=>[LI p,.u,.u,.s (poT p B i++[117]++List.replicate k 100),LL B,.n i,LI r,.n k,.u,.u,.u,.u]) r.length trivial (by simp) (fun k hk _=>?_) (fun _=>?_)
    ·have hrl:(List.replicate k 100:List Nat).length=k:=by simp
     rw [rep_snocQ,← qaa]
     simp (disch:=first|omega|simp only[vl];omega) only [vcd]
    ·simp (disch:=first|omega|simp only[vl];omega) only [vcd]
   ·rw [if_neg hl,List.append_nil]
    simp (disch:=first|omega|simp only[vl];omega) only [vcd,← hr,hl]
  ·simp (disch:=first|omega|simp only[vl];omega) only [vcd]
 ·have hn:ncF p=false:=by simpa using hn
  rw [hn] at k1
  rw [ptoR,hn]
  refine body_by (f:=ir_spec_PathOfPartition) rfl ?_; simp only [ir_spec_PathOfPartition,zn,zs,zq,zi,zg,zp]
  simp (disch:=first|omega|simp only[vl];omega) only [vcd]
  refine call_by (k1) rfl ?_
  simp (disch:=first|omega|simp only[vl];omega) only [vcd]
  rfl
end Go.Cat
