/-
 Partitions of Kreweras: IsNoncrossing and IsFiner of both sides, common parts, ranks.
-/
import Derived.Test.YtjbonmaggidboaaPfRdQ
import Derived.Test.YtjbonmaggidboaaPfTurn
import Derived.Test.YtjbonmaggidboaaIrHas
set_option linter.unusedSimpArgs false
set_option linter.unusedVariables false
namespace Go.Cat
variable {K:Nat→List D→List D→Prop}
theorem nc_i [HA K] {p:List Int} (h:p.length≤1099511627776):K 436 [LI p] [.b (ncF p)]:=by
 have k1:=pt_i (K:=K) (p:=p) h
 refine body_by (f:=ir_impl_IsNoncrossing) rfl ?_; simp only [ir_impl_IsNoncrossing,zn,zs,zq,zi,zg,zp]
 simp (disch:=first|omega|simp only[vl];omega) only [vcd]
 by_cases hp:isPt p=true
 ·rw [hp] at k1
  have h8:p.length≤8:=by simp [isPt] at hp; exact hp.1
  have e0:ncF p=ncA p:=by simp [ncF,hp]
  rw [e0]
  refine call_by (k1) rfl ?_
  simp (disch:=first|omega|simp only[vl];omega) only [vcd]
  refine loop_ix (fun i=>ncA p=ncA (p.drop i)) (fun i=>[LI p,.u,.u,.u,.u,.u,.u,.n p.length,.n i,.u,.u,.u,.u,.u]) p.length (by simp) rfl (fun a ha hA=>?_) (fun hA=>?_)
  ·have hA:ncA p=(ncB (atI p a) (p.drop (a+1))&&ncA (p.drop (a+1))):=hA.trans (tlA_drop ha)
   simp (disch:=first|omega|simp only[vl];omega) only [vcd]
   refine loop_ix (fun j=>ncA p=(ncB (atI p a) (p.drop (a+1+j))&&ncA (p.drop (a+1)))) (fun j=>[LI p,.u,.n a,.n ((a:Int)+1+j),.u,.u,.u,.n p.length,.n a,.u,.u,.u,.u,.u]) (p.length-(a+1)) (by simpa using hA) (by simp) (fun j hj hB=>?_) (fun hB=>?_)
   ·obtain ⟨b,hb⟩:∃ b,b=a+1+j:=⟨_,rfl⟩
    have eb:(a:Int)+1+j=(b:Int):=by omega
    have hbl:b<p.length:=by omega
    rw [← hb] at hB
    have hB:ncA p=((ncC (atI p a) (atI p b) (p.drop (b+1))&&ncB (atI p a) (p.drop (b+1)))&&ncA (p.drop (a+1))):=by
     rw [hB]; congr 1; exact tlA_drop hbl
    rw [eb]
    simp (disch:=first|omega|simp only[vl];omega) only [vcd]
    refine loop_ix (fun k=>ncA p=((ncC (atI p a) (atI p b) (p.drop (b+1+k))&&ncB (atI p a) (p.drop (b+1)))&&ncA (p.drop (a+1)))) (fun k=>[LI p,.u,.n a,.n b,.n ((b:Int)+1+k),.u,.u,.n p.length,.n a,.u,.u,.u,.u,.u]) (p.length-(b+1)) (by simpa using hB) (by simp) (fun k hk hC=>?_) (fun hC=>?_)
    ·obtain ⟨c,hc⟩:∃ c,c=b+1+k:=⟨_,rfl⟩
     have ec:(b:Int)+1+k=(c:Int):=by omega
     have hcl:c<p.length:=by omega
     rw [← hc] at hC
     have hC:ncA p=(((ncQ (atI p a) (atI p b) (atI p c) (p.drop (c+1))&&ncC (atI p a) (atI p b) (p.drop (c+1)))&&ncB (atI p a) (p.drop (b+1)))&&ncA (p.drop (a+1))):=by
      rw [hC]; congr 2; exact tlA_drop hcl
     rw [ec]
     simp (disch:=first|omega|simp only[vl];omega) only [vcd]
     refine loop_ix (fun l=>ncA p=(((ncQ (atI p a) (atI p b) (atI p c) (p.drop (c+1+l))&&ncC (atI p a) (atI p b) (p.drop (c+1)))&&ncB (atI p a) (p.drop (b+1)))&&ncA (p.drop (a+1)))) (fun l=>[LI p,.u,.n a,.n b,.n c,.n ((c:Int)+1+l),.u,.n p.length,.n a,.u,.u,.u,.u,.u]) (p.length-(c+1)) (by simpa using hC) (by simp) (fun l hl hD=>?_) (fun hD=>?_)
     ·obtain ⟨d,hd⟩:∃ d,d=c+1+l:=⟨_,rfl⟩
      have ed:(c:Int)+1+l=(d:Int):=by omega
      have hdl:d<p.length:=by omega
      have ed2:c+1+(l+1)=d+1:=by omega
      have ed3:(c:Int)+1+((l:Int)+1)=(d:Int)+1:=by omega
      rw [← hd] at hD
      have hD:ncA p=((((!(decide (atI p a=atI p c)&&decide (atI p b=atI p d)&&!decide (atI p a=atI p b)))&&ncQ (atI p a) (atI p b) (atI p c) (p.drop (d+1)))&&ncC (atI p a) (atI p b) (p.drop (c+1)))&&ncB (atI p a) (p.drop (b+1))&&ncA (p.drop (a+1))):=by
       rw [hD]; congr 3; exact tlA_drop hdl
      rw [ed,ed2]
      by_cases h1:atI p a=atI p c
      ·by_cases h2:atI p b=atI p d
       ·by_cases h3:atI p a=atI p b
        ·simp (disch:=first|omega|simp only[vl];omega) only [vcd]
         rw [ed3]
         refine ⟨?_,rfl⟩
         rw [hD]; simp [h3]
        ·simp (disch:=first|omega|simp only[vl];omega) only [vcd]
         rw [hD,decide_eq_true h1,decide_eq_true h2,decide_eq_false h3]; simp
       ·simp (disch:=first|omega|simp only[vl];omega) only [vcd]
        rw [ed3]
        refine ⟨?_,rfl⟩
        rw [hD]; simp [h2]
      ·simp (disch:=first|omega|simp only[vl];omega) only [vcd]
       rw [ed3]
       refine ⟨?_,rfl⟩
       rw [hD]; simp [h1]
     ·simp (disch:=first|omega|simp only[vl];omega) only [vcd]
      have e:=tlA_end (f:=fun u _=>!(decide (atI p a=atI p c)&&decide (atI p b=u)&&!decide (atI p a=atI p b))) (p:=p) (i:=c+1+(p.length-(c+1))) (by omega)
      have e:ncQ (atI p a) (atI p b) (atI p c) (p.drop (c+1+(p.length-(c+1))))=true:=e
      rw [e,Bool.true_and] at hD
      have ek:b+1+(k+1)=c+1:=by omega
      have ek3:(b:Int)+1+((k:Int)+1)=(c:Int)+1:=by omega
      rw [ek,ek3]
      exact ⟨hD,rfl⟩
    ·simp (disch:=first|omega|simp only[vl];omega) only [vcd]
     have e:ncC (atI p a) (atI p b) (p.drop (b+1+(p.length-(b+1))))=true:=tlA_end (by omega)
     rw [e,Bool.true_and] at hC
     have ek:a+1+(j+1)=b+1:=by omega
     have ek3:(a:Int)+1+((j:Int)+1)=(b:Int)+1:=by omega
     rw [ek,ek3]
     exact ⟨hC,rfl⟩
   ·simp (disch:=first|omega|simp only[vl];omega) only [vcd]
    have e:ncB (atI p a) (p.drop (a+1+(p.length-(a+1))))=true:=tlA_end (by omega)
    rw [e,Bool.true_and] at hB
    exact hB
  ·have e:ncA (p.drop p.length)=true:=tlA_end (by omega)
   rw [e] at hA
   simp (disch:=first|omega|simp only[vl];omega) only [vcd]
   rw [hA]
 ·have hp:isPt p=false:=by simpa using hp
  rw [hp] at k1
  have e0:ncF p=false:=by simp [ncF,hp]
  rw [e0]
  refine call_by (k1) rfl ?_
  simp (disch:=first|omega|simp only[vl];omega) only [vcd]
def fiB (p q:List Int):Bool:=(List.range p.length).all fun i=>(List.range i).all fun k=>!decide (atI p i=atI p k) || decide (atI q i=atI q k)
def fiF (p q:List Int):Bool:=isPt p&&(isPt q&&(decide (p.length=q.length)&&fiB p q))
theorem fiB_iff {p q:List Int}:fiB p q=true↔∀ i k:Nat,i<p.length→k<i→atI p i=atI p k→atI q i=atI q k:=by
 simp only [fiB,qat,List.mem_range,Bool.or_eq_true,Bool.not_eq_true',decide_eq_false_iff_not,qde]
 constructor
 ·intro h i k hi hk e
  rcases h i hi k hk with q | q
  ·exact absurd e q
  ·exact q
 ·intro h i hi k hk
  by_cases e:atI p i=atI p k
  ·exact .inr (h i k hi hk e)
  ·exact .inl e
theorem fiB_all {p q:List Int} (h:fiB p q=true) {i k:Nat} (hi:i<p.length) (hk:k<p.length) (e:atI p i=atI p k):atI q i=atI q k:=by
 rcases Nat.lt_trichotomy i k with g | g | g
 ·exact (fiB_iff.1 h k i hk g e.symm).symm
 ·rw [g]
 ·exact fiB_iff.1 h i k hi g e
theorem fiB_f {p q:List Int} {i k:Nat} (hi:i<p.length) (hk:k<p.length) (e:atI p i=atI p k) (n:atI q i≠atI q k):fiB p q=false:=by
 cases h:fiB p q
 ·rfl
 ·exact absurd (fiB_all h hi hk e) n
theorem isPt_8 {p:List Int} (h:isPt p=true):p.length≤8:=(isPt_V h).2
theorem fin_i [HA K] {p q:List Int} (h1:p.length≤1099511627776) (h2:q.length≤1099511627776):K 443 [LI p,LI q] [.b (fiF p q)]:=by
 have k1:=pt_i (K:=K) (p:=p) h1
 have k2:=pt_i (K:=K) (p:=q) h2
 refine body_by (f:=ir_impl_IsFiner) rfl ?_; simp only [ir_impl_IsFiner,zn,zs,zq,zi,zg,zp]
 simp (disch:=first|omega|simp only[vl];omega) only [vcd]
 cases hp:isPt p
 ·rw [hp] at k1
  refine call_by (k1) rfl ?_
  simp (disch:=first|omega|simp only[vl];omega) only [vcd]
  simp [fiF,hp]
 ·rw [hp] at k1
  have h8:=isPt_8 hp
  refine call_by (k1) rfl ?_
  simp (disch:=first|omega|simp only[vl];omega) only [vcd]
  cases hq:isPt q
  ·rw [hq] at k2
   refine call_by (k2) rfl ?_
   simp (disch:=first|omega|simp only[vl];omega) only [vcd]
   simp [fiF,hp,hq]
  ·rw [hq] at k2
   have h9:=isPt_8 hq
   refine call_by (k2) rfl ?_
   simp (disch:=first|omega|simp only[vl];omega) only [vcd]
   by_cases hl:p.length=q.length
   ·have e0:fiF p q=fiB p q:=by simp [fiF,hp,hq,hl]
    rw [e0]
    simp (disch:=first|omega|simp only[vl];omega) only [vcd]
    refine loop_ix (fun i=>∀ a b:Nat,a<i→b<p.length→atI p a=atI p b→atI q a=atI q b) (fun i=>[LI p,LI q,.u,.u,.u,.u,.n p.length,.n i,.u,.u,.u,.u,.u]) p.length (by omega) rfl (fun i hi hA=>?_) (fun hA=>?_)
    ·simp (disch:=first|omega|simp only[vl];omega) only [vcd]
     refine loop_ix (fun k=>∀ b:Nat,b<k→atI p i=atI p b→atI q i=atI q b) (fun k=>[LI p,LI q,.u,.n i,.u,.u,.n p.length,.n i,.u,.n p.length,.n k,.u,.u]) p.length (by omega) rfl (fun k hk hB=>?_) (fun hB=>?_)
     ·by_cases e1:atI p i=atI p k
      ·by_cases e2:atI q i=atI q k
       ·simp (disch:=first|omega|simp only[vl];omega) only [vcd]
        intro b hb
        rcases qlg b k with g | g
        ·exact hB b g
        ·obtain rfl:b=k:=by omega
         exact fun _=>e2
       ·simp (disch:=first|omega|simp only[vl];omega) only [vcd]
        rw [fiB_f hi hk e1 e2]
      ·simp (disch:=first|omega|simp only[vl];omega) only [vcd]
       intro b hb
       rcases qlg b k with g | g
       ·exact hB b g
       ·obtain rfl:b=k:=by omega
        exact fun e=>absurd e e1
     ·simp (disch:=first|omega|simp only[vl];omega) only [vcd]
      intro a b ha hb
      rcases qlg a i with g | g
      ·exact hA a b g hb
      ·obtain rfl:a=i:=by omega
       exact hB b hb
    ·simp (disch:=first|omega|simp only[vl];omega) only [vcd]
     rw [fiB_iff.2 fun i k hi hk=>hA i k hi (by omega)]
   ·simp (disch:=first|omega|simp only[vl];omega) only [vcd]
    simp [fiF,hl]
theorem fin_s [HA K] {p q:List Int} (h1:p.length≤1099511627776) (h2:q.length≤1099511627776):K 453 [LI p,LI q] [.b (fiF p q)]:=by
 have k1:=pt_s (K:=K) (p:=p) h1
 have k2:=pt_s (K:=K) (p:=q) h2
 refine body_by (f:=ir_spec_IsFiner) rfl ?_; simp only [ir_spec_IsFiner,zn,zs,zq,zi,zg,zp]
 simp (disch:=first|omega|simp only[vl];omega) only [vcd]
 cases hp:isPt p
 ·rw [hp] at k1
  refine call_by (k1) rfl ?_
  simp (disch:=first|omega|simp only[vl];omega) only [vcd]
  simp [fiF,hp]
 ·rw [hp] at k1
  have h8:=isPt_8 hp
  refine call_by (k1) rfl ?_
  simp (disch:=first|omega|simp only[vl];omega) only [vcd]
  cases hq:isPt q
  ·rw [hq] at k2
   refine call_by (k2) rfl ?_
   simp (disch:=first|omega|simp only[vl];omega) only [vcd]
   simp [fiF,hp,hq]
  ·rw [hq] at k2
   have h9:=isPt_8 hq
   refine call_by (k2) rfl ?_
   simp (disch:=first|omega|simp only[vl];omega) only [vcd]
   by_cases hl:p.length=q.length
   ·have e0:fiF p q=fiB p q:=by simp [fiF,hp,hq,hl]
    rw [e0]
    simp (disch:=first|omega|simp only[vl];omega) only [vcd]
    refine loop_ix (fun i=>∀ a b:Nat,a<i→b<a→atI p a=atI p b→atI q a=atI q b) (fun i=>[LI p,LI q,.u,.n i,.u,.u,.u,.u,.u]) p.length (by omega) rfl (fun i hi hA=>?_) (fun hA=>?_)
    ·simp (disch:=first|omega|simp only[vl];omega) only [vcd]
     refine loop_ix (fun k=>∀ b:Nat,b<k→atI p i=atI p b→atI q i=atI q b) (fun k=>[LI p,LI q,.u,.n i,.n k,.u,.u,.u,.u]) i (by omega) rfl (fun k hk hB=>?_) (fun hB=>?_)
     ·by_cases e1:atI p i=atI p k
      ·by_cases e2:atI q i=atI q k
       ·simp (disch:=first|omega|simp only[vl];omega) only [vcd]
        intro b hb
        rcases qlg b k with g | g
        ·exact hB b g
        ·obtain rfl:b=k:=by omega
         exact fun _=>e2
       ·simp (disch:=first|omega|simp only[vl];omega) only [vcd]
        rw [fiB_f hi (by omega) e1 e2]
      ·simp (disch:=first|omega|simp only[vl];omega) only [vcd]
       intro b hb
       rcases qlg b k with g | g
       ·exact hB b g
       ·obtain rfl:b=k:=by omega
        exact fun e=>absurd e e1
     ·simp (disch:=first|omega|simp only[vl];omega) only [vcd]
      intro a b ha hb
      rcases qlg a i with g | g
      ·exact hA a b g hb
      ·obtain rfl:a=i:=by omega
       exact hB b hb
    ·simp (disch:=first|omega|simp only[vl];omega) only [vcd]
     rw [fiB_iff.2 fun i k hi hk=>hA i k hi hk]
   ·simp (disch:=first|omega|simp only[vl];omega) only [vcd]
    simp [fiF,hl]
def meL (c:Int) (p q:List Int) (n:Nat):List Int:=(List.range n).map fun (i:Nat)=>c*atI p i+atI q i
theorem meL_s {c:Int} {p q:List Int} {n:Nat}:meL c p q (n+1)=meL c p q n++[c*atI p n+atI q n]:=by simp [meL,List.range_succ]
theorem meL_len {c:Int} {p q:List Int} {n:Nat}:(meL c p q n).length=n:=by simp [meL]
theorem isPt_rg {p:List Int} (h:isPt p=true) {i:Nat} (hi:i<p.length):0≤atI p i∧atI p i≤8:=by
 obtain ⟨hv,h8⟩:=isPt_V h
 have h1:=inR_iff.1 (hv i hi)
 have h2:=nxF_bd (p:=p) (i:=i) fun j hj=>hv j (by omega)
 omega
theorem LI_nilK:D.l []=LI []:=rfl
def meF (c:Int) (p q:List Int):List Int:=if isPt p=true∧isPt q=true∧p.length=q.length then rnL (meL c p q p.length) p.length else []
def meK (p q:List Int):Bool:=isPt p&&(isPt q&&decide (p.length=q.length))
theorem fm_i [HA K] {p q:List Int} (h1:p.length≤1099511627776) (h2:q.length≤1099511627776):K 441 [LI p,LI q] [LI (meF 100 p q),.b (meK p q)]:=by
 have k1:=pt_i (K:=K) (p:=p) h1
 have k2:=pt_i (K:=K) (p:=q) h2
 refine body_by (f:=ir_impl_FinerMeet) rfl ?_; simp only [ir_impl_FinerMeet,zn,zs,zq,zi,zg,zp]
 simp (disch:=first|omega|simp only[vl];omega) only [vcd]
 cases hp:isPt p
 ·rw [hp] at k1
  refine call_by (k1) rfl ?_
  simp (disch:=first|omega|simp only[vl];omega) only [vcd]
  simp [meF,meK,hp]; rfl
 ·rw [hp] at k1
  have h8:=isPt_8 hp
  refine call_by (k1) rfl ?_
  simp (disch:=first|omega|simp only[vl];omega) only [vcd]
  cases hq:isPt q
  ·rw [hq] at k2
   refine call_by (k2) rfl ?_
   simp (disch:=first|omega|simp only[vl];omega) only [vcd]
   simp [meF,meK,hp,hq]; rfl
  ·rw [hq] at k2
   have h9:=isPt_8 hq
   refine call_by (k2) rfl ?_
   simp (disch:=first|omega|simp only[vl];omega) only [vcd]
   by_cases hl:p.length=q.length
   ·simp (disch:=first|omega|simp only[vl];omega) only [vcd]
    rw [LI_nilK]
    refine loop_ix (fun _=>True) (fun i=>[LI p,LI q,.u,.u,LI (meL 100 p q i),.u,.u,.n p.length,.n i,.u]) p.length trivial rfl (fun i hi _=>?_) (fun _=>?_)
    ·have g1:=isPt_rg hp hi
     have g2:=isPt_rg hq (i:=i) (by omega)
     have g3:=meL_len (c:=100) (p:=p) (q:=q) (n:=i)
     simp (disch:=first|omega|simp only[vl];omega) only [vcd]
     rw [meL_s]
    ·have g3:=meL_len (c:=100) (p:=p) (q:=q) (n:=p.length)
     simp (disch:=first|omega|simp only[vl];omega) only [vcd]
     refine call_by (rn_i (K:=K) (l:=meL 100 p q p.length) (by omega)) rfl ?_
     simp (disch:=first|omega|simp only[vl];omega) only [vcd]
     rw [g3]
     simp [meF,meK,hp,hq,hl]
   ·simp (disch:=first|omega|simp only[vl];omega) only [vcd]
    simp [meF,meK,hl]; rfl
theorem fm_s [HA K] {p q:List Int} (h1:p.length≤1099511627776) (h2:q.length≤1099511627776):K 442 [LI p,LI q] [LI (meF 9 p q),.b (meK p q)]:=by
 have k1:=pt_s (K:=K) (p:=p) h1
 have k2:=pt_s (K:=K) (p:=q) h2
 refine body_by (f:=ir_spec_FinerMeet) rfl ?_; simp only [ir_spec_FinerMeet,zn,zs,zq,zi,zg,zp]
 simp (disch:=first|omega|simp only[vl];omega) only [vcd]
 cases hp:isPt p
 ·rw [hp] at k1
  refine call_by (k1) rfl ?_
  simp (disch:=first|omega|simp only[vl];omega) only [vcd]
  simp [meF,meK,hp]; rfl
 ·rw [hp] at k1
  have h8:=isPt_8 hp
  refine call_by (k1) rfl ?_
  simp (disch:=first|omega|simp only[vl];omega) only [vcd]
  cases hq:isPt q
  ·rw [hq] at k2
   refine call_by (k2) rfl ?_
   simp (disch:=first|omega|simp only[vl];omega) only [vcd]
   simp [meF,meK,hp,hq]; rfl
  ·rw [hq] at k2
   have h9:=isPt_8 hq
   refine call_by (k2) rfl ?_
   simp (disch:=first|omega|simp only[vl];omega) only [vcd]
   by_cases hl:p.length=q.length
   ·simp (disch:=first|omega|simp only[vl];omega) only [vcd]
    rw [LI_nilK]
    refine loop_ix (fun _=>True) (fun i=>[LI p,LI q,.u,.u,LI (meL 9 p q i),.n i,.u,.u]) p.length trivial rfl (fun i hi _=>?_) (fun _=>?_)
    ·have g1:=isPt_rg hp hi
     have g2:=isPt_rg hq (i:=i) (by omega)
     have g3:=meL_len (c:=9) (p:=p) (q:=q) (n:=i)
     simp (disch:=first|omega|simp only[vl];omega) only [vcd]
     rw [meL_s,Int.mul_comm 9]
    ·have g3:=meL_len (c:=9) (p:=p) (q:=q) (n:=p.length)
     simp (disch:=first|omega|simp only[vl];omega) only [vcd]
     refine call_by (rn_s (K:=K) (l:=meL 9 p q p.length) (by omega)) rfl ?_
     simp (disch:=first|omega|simp only[vl];omega) only [vcd]
     rw [g3]
     simp [meF,meK,hp,hq,hl]
   ·simp (disch:=first|omega|simp only[vl];omega) only [vcd]
    simp [meF,meK,hl]; rfl
def rkP (p:List Int):Int:=if isPt p=true then (p.length:Int)-(blF p p.length).length else -1
theorem blF_le {p:List Int} (h:isPt p=true):(blF p p.length).length≤p.length:=by
 obtain ⟨hv,h8⟩:=isPt_V h
 have h1:=blF_len hv
 have h2:=nxF_bd hv
 omega
theorem rkp_i [HA K] {p:List Int} (h1:p.length≤1099511627776):K 437 [LI p] [.n (rkP p)]:=by
 have k1:=pt_i (K:=K) (p:=p) h1
 have k2:=blk_i (K:=K) (p:=p) h1
 refine body_by (f:=ir_impl_RankOfPartition) rfl ?_; simp only [ir_impl_RankOfPartition,zn,zs,zq,zi,zg,zp]
 simp (disch:=first|omega|simp only[vl];omega) only [vcd]
 cases hp:isPt p
 ·rw [hp] at k1
  refine call_by (k1) rfl ?_
  simp (disch:=first|omega|simp only[vl];omega) only [vcd]
  simp [rkP,hp]
 ·rw [hp] at k1 k2
  have h8:=isPt_8 hp
  have hb:=blF_le hp
  refine call_by (k1) rfl ?_
  simp (disch:=first|omega|simp only[vl];omega) only [vcd]
  simp only [if_true] at k2
  refine call_by (k2) rfl ?_
  simp (disch:=first|omega|simp only[vl];omega) only [vcd]
  simp [rkP,hp]
theorem rkp_s [HA K] {p:List Int} (h1:p.length≤1099511627776):K 454 [LI p] [.n (rkP p)]:=by
 have k1:=pt_s (K:=K) (p:=p) h1
 have k2:=blk_s (K:=K) (p:=p) h1
 refine body_by (f:=ir_spec_RankOfPartition) rfl ?_; simp only [ir_spec_RankOfPartition,zn,zs,zq,zi,zg,zp]
 simp (disch:=first|omega|simp only[vl];omega) only [vcd]
 cases hp:isPt p
 ·rw [hp] at k1
  refine call_by (k1) rfl ?_
  simp (disch:=first|omega|simp only[vl];omega) only [vcd]
  simp [rkP,hp]
 ·rw [hp] at k1 k2
  have h8:=isPt_8 hp
  have hb:=blF_le hp
  refine call_by (k1) rfl ?_
  simp (disch:=first|omega|simp only[vl];omega) only [vcd]
  simp only [if_true] at k2
  refine call_by (k2) rfl ?_
  simp (disch:=first|omega|simp only[vl];omega) only [vcd]
  simp [rkP,hp]
