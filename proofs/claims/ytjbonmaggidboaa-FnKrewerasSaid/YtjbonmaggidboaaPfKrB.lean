/-
 The complement of Kreweras: the matching of a partition, its turn, the blocks that it joins.
-/
import Derived.Test.YtjbonmaggidboaaPfKrA
set_option linter.unusedSimpArgs false
set_option linter.unusedVariables false
namespace Go.Cat
variable {K:Nat→List D→List D→Prop}
theorem blF_mem {p:List Int}:∀ {i:Nat} {r:List Int},r∈blF p i→∀ x∈r,0≤x∧x<i
 | 0,r,h=>by simp [blF] at h
 | i+1,r,h=>by
  have ho:∀ r∈(if atI p i=(blF p i).length then blF p i++[[]] else blF p i),∀ x∈r,0≤x∧x<i:=by
   intro r hr
   split at hr
   ·rcases qma.1 hr with q | q
    ·exact blF_mem q
    ·simp at q; subst q; simp
   ·exact blF_mem hr
  simp only [blF,seL] at h
  rcases List.mem_or_eq_of_mem_set h with q | q
  ·intro x hx; have:=ho _ q x hx; omega
  ·subst q
   have:∀ x∈atL (if atI p i=(blF p i).length then blF p i++[[]] else blF p i) (atI p i),0≤x∧x<i:=by
    simp only [atL]
    rcases qlg (atI p i).toNat (if atI p i=(blF p i).length then blF p i++[[]] else blF p i).length with q | q
    ·rw [qgd,qge q]
     exact ho _ (List.getElem_mem q)
    ·rw [qgd,qgn q]; simp
   intro x hx
   rcases qma.1 hx with g | g
   ·have:=this x g; omega
   ·simp at g; omega
theorem memK_at {r:List Int} {a b:Int} (h:∀ x∈r,a≤x∧x<b) {j:Int} (h0:0≤j) (hj:j<r.length):a≤atI r j∧atI r j<b:=by
 have hj':j.toNat<r.length:=by omega
 simp only [atI,qgd,qge hj',Option.getD_some]
 exact h _ (List.getElem_mem hj')
def moR (r:List Int) (k:Nat) (m:List Int):List Int:=
 seI (seI m (2*atI r k+1) (2*atI r (((k:Int)+1) % r.length))) (2*atI r (((k:Int)+1) % r.length)) (2*atI r k+1)
def moW (r:List Int) (m:List Int):List Int:=iter (moR r) r.length m
def moF (p:List Int):List Int:=iter (fun b=>moW (atL (blF p p.length) b)) (blF p p.length).length (rep (2*p.length) 0)
theorem moR_len {r:List Int} {k:Nat} {m:List Int}:(moR r k m).length=m.length:=by simp [moR,seI]
theorem moI_len {r:List Int} {m:List Int}:∀ k,(iter (moR r) k m).length=m.length
 | 0=>rfl
 | k+1=>by rw [iter,moR_len,moI_len k]
theorem moF_len {p:List Int}:(moF p).length=2*p.length:=by
 unfold moF
 exact iter_inv (fun (l:List Int)=>l.length=2*p.length) (by simp [rep]; omega) (fun i s h=>by rw [moW,moI_len,h]) _
theorem blF_at {p:List Int} {b:Nat} (hb:b<(blF p p.length).length):∀ x∈atL (blF p p.length) b,0≤x∧x<p.length:=blF_mem (atL_in (i:=b) hb)
theorem blF_at2 {p:List Int} {b:Nat} (hb:b<(blF p p.length).length):(atL (blF p p.length) b).length≤p.length:=blF_row (atL_in (i:=b) hb)
theorem mop_i [HA K] {p:List Int} (h1:p.length≤1099511627776):K 473 [LI p] [LI (if ncF p=true then moF p else []),.b (ncF p)]:=by
 have k1:=nc_i (K:=K) (p:=p) h1
 have k2:=blk_i (K:=K) (p:=p) h1
 refine body_by (f:=ir_impl_MatchingOfPartition) rfl ?_; simp only [ir_impl_MatchingOfPartition,zn,zs,zq,zi,zg,zp]
 simp (disch:=first|omega|simp only[vl];omega) only [vcd]
 cases hp:ncF p
 ·rw [hp] at k1
  refine call_by (k1) rfl ?_
  simp (disch:=first|omega|simp only[vl];omega) only [vcd]
  rfl
 ·rw [hp] at k1
  have hq:isPt p=true:=by simp only [ncF,qba] at hp; exact hp.1
  have h8:=isPt_8 hq
  have hb:=blF_le hq
  rw [hq] at k2
  simp only [if_true] at k2
  refine call_by (k1) rfl ?_
  simp (disch:=first|omega|simp only[vl];omega) only [vcd]
  refine call_by (k2) rfl ?_
  simp (disch:=first|omega|simp only[vl];omega) only [vcd]
  refine loop_fold (fun b=>moW (atL (blF p p.length) b)) (fun _ s=>s.length=2*p.length) (fun b s=>[.u,.u,.u,LI s,.u,.u,.u,.u,.u,LL (blF p p.length),.n (blF p p.length).length,.n b,.u,.u,.u,.u,.u]) (blF p p.length).length (rep (2*p.length) 0) (by simp [rep]; omega) (by simp) (fun b s hb h=>by rw [moW,moI_len,h]) (fun b s hb hP hs=>?_) (fun s hs hP=>?_)
  ·have g1:=blF_at hb
   have g2:=blF_at2 hb
   simp (disch:=first|omega|simp only[vl];omega) only [vcd]
   obtain ⟨r,hr⟩:∃ r,r=atL (blF p p.length) b:=⟨_,rfl⟩
   rw [← hr] at g1 g2
   rw [← hr]
   refine loop_fold (moR r) (fun _ s=>s.length=2*p.length) (fun k s=>[.u,.u,.u,LI s,LI r,.u,.u,.u,.u,LL (blF p p.length),.n (blF p p.length).length,.n b,.u,LI r,.n r.length,.n k,.u]) r.length s hP rfl (fun k s hk h=>by rw [moR_len,h]) (fun k s hk hP hs=>?_) (fun s hs hP=>?_)
   ·have q0:=emod_rg (a:=(k:Int)+1) (n:=r.length) (by omega)
    have q1:=memK_at g1 (j:=(k:Int)) (by omega) (by omega)
    have q2:=memK_at g1 q0.1 q0.2
    simp (disch:=first|omega|simp only[vl];omega) only [vcd]
    rfl
   ·simp (disch:=first|omega|simp only[vl];omega) only [vcd]
    rw [hs]; rfl
  ·simp (disch:=first|omega|simp only[vl];omega) only [vcd]
   rw [hs]; rfl
theorem mop_s [HA K] {p:List Int} (h1:p.length≤1099511627776):K 476 [LI p] [LI (if ncF p=true then moF p else []),.b (ncF p)]:=by
 have k1:=nc_s (K:=K) (p:=p) h1
 have k2:=blk_s (K:=K) (p:=p) h1
 refine body_by (f:=ir_spec_MatchingOfPartition) rfl ?_; simp only [ir_spec_MatchingOfPartition,zn,zs,zq,zi,zg,zp]
 simp (disch:=first|omega|simp only[vl];omega) only [vcd]
 cases hp:ncF p
 ·rw [hp] at k1
  refine call_by (k1) rfl ?_
  simp (disch:=first|omega|simp only[vl];omega) only [vcd]
  rfl
 ·rw [hp] at k1
  have hq:isPt p=true:=by simp only [ncF,qba] at hp; exact hp.1
  have h8:=isPt_8 hq
  have hb:=blF_le hq
  rw [hq] at k2
  simp only [if_true] at k2
  refine call_by (k1) rfl ?_
  simp (disch:=first|omega|simp only[vl];omega) only [vcd]
  refine call_by (k2) rfl ?_
  simp (disch:=first|omega|simp only[vl];omega) only [vcd]
  refine loop_fold (fun b=>moW (atL (blF p p.length) b)) (fun _ s=>s.length=2*p.length) (fun b s=>[.u,.u,.u,LI s,LL (blF p p.length),.n b,.u,.u,.u,.u,.u,.u]) (blF p p.length).length (rep (2*p.length) 0) (by simp [rep]; omega) (by simp) (fun b s hb h=>by rw [moW,moI_len,h]) (fun b s hb hP hs=>?_) (fun s hs hP=>?_)
  ·have g1:=blF_at hb
   have g2:=blF_at2 hb
   simp (disch:=first|omega|simp only[vl];omega) only [vcd]
   obtain ⟨r,hr⟩:∃ r,r=atL (blF p p.length) b:=⟨_,rfl⟩
   rw [← hr] at g1 g2
   rw [← hr]
   refine loop_fold (moR r) (fun _ s=>s.length=2*p.length) (fun k s=>[.u,.u,.u,LI s,LL (blF p p.length),.n b,.n k,.u,.u,.u,.u,.u]) r.length s hP rfl (fun k s hk h=>by rw [moR_len,h]) (fun k s hk hP hs=>?_) (fun s hs hP=>?_)
   ·have q0:=emod_rg (a:=(k:Int)+1) (n:=r.length) (by omega)
    have q1:=memK_at g1 (j:=(k:Int)) (by omega) (by omega)
    have q2:=memK_at g1 q0.1 q0.2
    simp (disch:=first|omega|simp only[vl];omega) only [vcd,← hr]
    rfl
   ·simp (disch:=first|omega|simp only[vl];omega) only [vcd,← hr]
    rw [hs]; rfl
  ·simp (disch:=first|omega|simp only[vl];omega) only [vcd]
   rw [hs]; rfl
def cmW (t:List Int) (i:Int):Nat→List Int→Int→Option (List Int)
 | 0,_,_=>none
 | f+1,b,k=>if atI b k<0 then cmW t i f (seI b k i) (atI t (2*k+1) / 2) else some b
def cm0 (n:Nat):List Int:=iter (fun i s=>seI s i (-1)) n (rep n 0)
def cmA (t:List Int) (n:Nat):Nat→Option (List Int)
 | 0=>some (cm0 n)
 | i+1=>(cmA t n i).bind fun b=>cmW t i (n+1) b i
def cmT (p:List Int):List Int:=if p.length=0 then [] else tmT (moF p) 1
def cmR (p:List Int):Option (List Int):=(cmA (cmT p) p.length p.length).map fun b=>rnL b p.length
theorem cmA_dn {t:List Int} {n:Nat} {z:List Int}:∀ {d i:Nat},cmA t n (i+d)=some z→∃ s,cmA t n i=some s
 | 0,i,h=>⟨z,h⟩
 | d+1,i,h=>by
  have h:(cmA t n (i+d)).bind (fun b=>cmW t ((i+d:Nat):Int) (n+1) b ((i+d:Nat):Int))=some z:=h
  rw [qbs] at h
  obtain ⟨s,h1,_⟩:=h
  exact cmA_dn h1
theorem cmA_s {t:List Int} {n i:Nat} {s z:List Int} (h:cmA t n (i+1)=some z) (hs:cmA t n i=some s):cmW t i (n+1) s i=some z:=by
 have h:(cmA t n i).bind (fun b=>cmW t (i:Int) (n+1) b (i:Int))=some z:=h
 rw [hs] at h
 exact h
theorem tmT_rg {m:List Int} {k:Nat} (hl:0<m.length):∀ x∈tmT m k,0≤x∧x<m.length:=by
 unfold tmT
 refine iter_inv (fun (l:List Int)=>∀ x∈l,0≤x∧x<(m.length:Int)) ?_ (fun i s h=>?_) _
 ·intro x hx
  simp only [rep,List.mem_replicate] at hx
  omega
 ·intro x hx
  have q:=emod_rg (a:=atI m i-k+m.length) (n:=m.length) (by omega)
  simp only [seI] at hx
  rcases List.mem_or_eq_of_mem_set hx with g | g
  ·exact h x g
  ·rw [g]; exact q
theorem cmp_i0 [HA K] {p:List Int} (h1:p.length≤1099511627776) (hp:ncF p=false):K 433 [LI p] [LI [],.b false]:=by
 have k1:=mop_i (K:=K) (p:=p) h1
 rw [hp] at k1
 refine body_by (f:=ir_impl_Complement) rfl ?_; simp only [ir_impl_Complement,zn,zs,zq,zi,zg,zp]
 simp (disch:=first|omega|simp only[vl];omega) only [vcd]
 refine call_by (k1) rfl ?_
 simp (disch:=first|omega|simp only[vl];omega) only [vcd]
 rfl
theorem cmp_s0 [HA K] {p:List Int} (h1:p.length≤1099511627776) (hp:ncF p=false):K 434 [LI p] [LI [],.b false]:=by
 have k1:=mop_s (K:=K) (p:=p) h1
 rw [hp] at k1
 refine body_by (f:=ir_spec_Complement) rfl ?_; simp only [ir_spec_Complement,zn,zs,zq,zi,zg,zp]
 simp (disch:=first|omega|simp only[vl];omega) only [vcd]
 refine call_by (k1) rfl ?_
 simp (disch:=first|omega|simp only[vl];omega) only [vcd]
 rfl
theorem cmp_i [HA K] {p d:List Int} (hp:ncF p=true) (hm:matF (moF p)=true) (hd:cmR p=some d):K 433 [LI p] [LI d,.b true]:=by
 have hq:isPt p=true:=by simp only [ncF,qba] at hp; exact hp.1
 have h8:=isPt_8 hq
 have k1:=mop_i (K:=K) (p:=p) (by omega)
 have hml:=moF_len (p:=p)
 have hmi:=inL_of hm
 rw [hp] at k1
 simp only [if_true] at k1
 obtain ⟨z,hz,hzd⟩:=qms.1 hd
 refine body_by (f:=ir_impl_Complement) rfl ?_; simp only [ir_impl_Complement,zn,zs,zq,zi,zg,zp]
 simp (disch:=first|omega|simp only[vl];omega) only [vcd]
 refine call_by (k1) rfl ?_
 simp (disch:=first|omega|simp only[vl];omega) only [vcd]
 by_cases h0:p.length=0
 ·have hp0:p=[]:=List.length_eq_zero_iff.1 h0
  subst hp0
  have hm0:moF []=[]:=List.length_eq_zero_iff.1 (by simpa using hml)
  have hd0:d=[]:=by
   rw [← hzd]; exact List.length_eq_zero_iff.1 (rnL_len 0)
  simp (disch:=first|omega|simp only[vl];omega) only [vcd,hm0]
  refine loop_ix (fun _=>True) (fun _=>[.u,.u,.u,.u,.u,LI [],LI [],.u,.u,.u,.u,.u,.n 0,.n 0,.u,.u,.u,.u,.u]) 0 trivial rfl (fun i hi _=>absurd hi (by omega)) (fun _=>?_)
  simp (disch:=first|omega|simp only[vl];omega) only [vcd]
  refine loop_ix (fun _=>True) (fun _=>[.u,.u,.u,.u,.u,LI [],LI [],.u,.u,.u,.u,.u,.u,.u,.u,.n 0,.n 0,.u,.u]) 0 trivial rfl (fun i hi _=>absurd hi (by omega)) (fun _=>?_)
  simp (disch:=first|omega|simp only[vl];omega) only [vcd]
  refine call_by (rn_i (K:=K) (l:=[]) (by simp)) rfl ?_
  simp (disch:=first|omega|simp only[vl];omega) only [vcd]
  rw [hd0]; rfl
 ·have ht:cmT p=tmT (moF p) 1:=by simp [cmT,h0]
  rw [ht] at hz
  have htl:(tmT (moF p) 1).length=2*p.length:=by rw [tmT_len,hml]
  have htr:=tmT_rg (m:=moF p) (k:=1) (by omega)
  simp (disch:=first|omega|simp only[vl];omega) only [vcd]
  refine call_by (tum_i (K:=K) (m:=moF p) (k:=1) hm (by omega) (by omega) hmi) rfl ?_
  obtain ⟨t,hte⟩:∃ t,t=tmT (moF p) 1:=⟨_,rfl⟩
  rw [← hte] at hz htl htr
  rw [← hte]
  simp (disch:=first|omega|simp only[vl];omega) only [vcd]
  refine loop_fold (fun i s=>seI s i (-1)) (fun _ s=>s.length=p.length) (fun i s=>[.u,.u,.u,.u,.u,LI t,LI s,.u,.u,.u,.u,.u,.n p.length,.n i,.u,.u,.u,.u,.u]) p.length (rep p.length 0) (by simp [rep]) (by simp) (fun i s hi h=>by simp [seI,h]) (fun i s hi hP hs=>?_) (fun s hs hP=>?_)
  ·simp (disch:=first|omega|simp only[vl];omega) only [vcd]
  ·simp (disch:=first|omega|simp only[vl];omega) only [vcd]
   have hs:s=cm0 p.length:=hs
   refine loop_up (fun i s=>cmA t p.length i=some s∧s.length=p.length) (fun i s=>[.u,.u,.u,.u,.u,LI t,LI s,.u,.u,.u,.u,.u,.u,.u,.u,.n p.length,.n i,.u,.u]) p.length s ⟨by rw [hs]; rfl,hP⟩ (by simp [hP]) (fun i s hi hC=>?_) (fun s hC=>?_)
   ·obtain ⟨c1,c2⟩:=hC
    obtain ⟨s',hs'⟩:∃ s',cmA t p.length (i+1)=some s':=by
     obtain ⟨e,he⟩:∃ e,p.length=i+1+e:=⟨p.length-(i+1),by omega⟩
     have hz:=hz
     rw [he] at hz
     have:=cmA_dn hz
     rw [← he] at this
     exact this
    have hw:=cmA_s hs' c1
    simp (disch:=first|omega|simp only[vl];omega) only [vcd]
    refine loop_wh (fun (x:Nat×List Int×Int)=>cmW t i x.1 x.2.1 x.2.2=some s'∧(0≤x.2.2∧x.2.2<p.length)∧x.2.1.length=p.length) (fun x=>[.u,.u,.u,.u,.u,LI t,LI x.2.1,.u,.n i,.n x.2.2,.u,.u,.u,.u,.u,.n p.length,.n i,.u,.u]) (fun x=>x.1) (p.length+1,s,(i:Int)) ⟨hw,by dsimp only; omega,c2⟩ rfl ?_
    rintro ⟨f,b,k⟩ ⟨w1,w2,w3⟩
    dsimp only at w1 w2 w3
    cases f with
    | zero=>simp [cmW] at w1
    | succ f=>
     simp only [cmW] at w1
     by_cases hk:atI b k<0
     ·rw [if_pos hk] at w1
      have q:=memK_at htr (j:=2*k+1) (by omega) (by omega)
      simp (disch:=first|omega|simp only[vl];omega) only [vcd]
      refine ⟨(f,seI b k i,atI t (2*k+1) / 2),?_,⟨w1,?_,?_⟩,rfl⟩
      ·show f<f+1; omega
      ·show 0≤atI t (2*k+1) / 2∧atI t (2*k+1) / 2<p.length
       omega
      ·show (seI b k i).length=p.length
       simp [seI,w3]
     ·rw [if_neg hk] at w1
      cases w1
      simp (disch:=first|omega|simp only[vl];omega) only [vcd]
      exact ⟨s',⟨hs',w3⟩,rfl⟩
   ·obtain ⟨c1,c2⟩:=hC
    rw [hz] at c1
    cases c1
    simp (disch:=first|omega|simp only[vl];omega) only [vcd]
    refine call_by (rn_i (K:=K) (l:=z) (by omega)) rfl ?_
    simp (disch:=first|omega|simp only[vl];omega) only [vcd]
    rw [c2,hzd]
theorem cmp_s [HA K] {p d:List Int} (hp:ncF p=true) (hm:matF (moF p)=true) (hd:cmR p=some d):K 434 [LI p] [LI d,.b true]:=by
 have hq:isPt p=true:=by simp only [ncF,qba] at hp; exact hp.1
 have h8:=isPt_8 hq
 have k1:=mop_s (K:=K) (p:=p) (by omega)
 have hml:=moF_len (p:=p)
 have hmi:=inL_of hm
 rw [hp] at k1
 simp only [if_true] at k1
 obtain ⟨z,hz,hzd⟩:=qms.1 hd
 refine body_by (f:=ir_spec_Complement) rfl ?_; simp only [ir_spec_Complement,zn,zs,zq,zi,zg,zp]
 simp (disch:=first|omega|simp only[vl];omega) only [vcd]
 refine call_by (k1) rfl ?_
 simp (disch:=first|omega|simp only[vl];omega) only [vcd]
 by_cases h0:p.length=0
 ·have hp0:p=[]:=List.length_eq_zero_iff.1 h0
  subst hp0
  have hd0:d=[]:=by
   rw [← hzd]; exact List.length_eq_zero_iff.1 (rnL_len 0)
  simp (disch:=first|omega|simp only[vl];omega) only [vcd]
  rw [hd0]; rfl
 ·have ht:cmT p=tmT (moF p) 1:=by simp [cmT,h0]
  rw [ht] at hz
  have htl:(tmT (moF p) 1).length=2*p.length:=by rw [tmT_len,hml]
  have htr:=tmT_rg (m:=moF p) (k:=1) (by omega)
  simp (disch:=first|omega|simp only[vl];omega) only [vcd]
  refine call_by (tum_s (K:=K) (m:=moF p) (k:=1) hm (by omega) (by omega) hmi) rfl ?_
  obtain ⟨t,hte⟩:∃ t,t=tmT (moF p) 1:=⟨_,rfl⟩
  rw [← hte] at hz htl htr
  rw [← hte]
  simp (disch:=first|omega|simp only[vl];omega) only [vcd]
  refine loop_fold (fun i s=>seI s i (-1)) (fun _ s=>s.length=p.length) (fun i s=>[LI p,.u,.u,.u,.u,LI t,LI s,.n i,.u,.u,.u,.u,.u,.u,.u,.u]) p.length (rep p.length 0) (by simp [rep]) (by simp) (fun i s hi h=>by simp [seI,h]) (fun i s hi hP hs=>?_) (fun s hs hP=>?_)
  ·simp (disch:=first|omega|simp only[vl];omega) only [vcd]
  ·simp (disch:=first|omega|simp only[vl];omega) only [vcd]
   have hs:s=cm0 p.length:=hs
   refine loop_up (fun i s=>cmA t p.length i=some s∧s.length=p.length) (fun i s=>[LI p,.u,.u,.u,.u,LI t,LI s,.u,.n i,.n i,.u,.u,.u,.u,.u,.u]) p.length s ⟨by rw [hs]; rfl,hP⟩ (by simp) (fun i s hi hC=>?_) (fun s hC=>?_)
   ·obtain ⟨c1,c2⟩:=hC
    obtain ⟨s',hs'⟩:∃ s',cmA t p.length (i+1)=some s':=by
     obtain ⟨e,he⟩:∃ e,p.length=i+1+e:=⟨p.length-(i+1),by omega⟩
     have hz:=hz
     rw [he] at hz
     have:=cmA_dn hz
     rw [← he] at this
     exact this
    have hw:=cmA_s hs' c1
    simp (disch:=first|omega|simp only[vl];omega) only [vcd]
    refine loop_wh (fun (x:Nat×List Int×Int)=>cmW t i x.1 x.2.1 x.2.2=some s'∧(0≤x.2.2∧x.2.2<p.length)∧x.2.1.length=p.length) (fun x=>[LI p,.u,.u,.u,.u,LI t,LI x.2.1,.u,.n i,.n i,.n x.2.2,.u,.u,.u,.u,.u]) (fun x=>x.1) (p.length+1,s,(i:Int)) ⟨hw,by dsimp only; omega,c2⟩ rfl ?_
    rintro ⟨f,b,k⟩ ⟨w1,w2,w3⟩
    dsimp only at w1 w2 w3
    cases f with
    | zero=>simp [cmW] at w1
    | succ f=>
     simp only [cmW] at w1
     by_cases hk:atI b k<0
     ·rw [if_pos hk] at w1
      have q:=memK_at htr (j:=2*k+1) (by omega) (by omega)
      simp (disch:=first|omega|simp only[vl];omega) only [vcd]
      refine ⟨(f,seI b k i,atI t (2*k+1) / 2),?_,⟨w1,?_,?_⟩,rfl⟩
      ·show f<f+1; omega
      ·show 0≤atI t (2*k+1) / 2∧atI t (2*k+1) / 2<p.length
       omega
      ·show (seI b k i).length=p.length
       simp [seI,w3]
     ·rw [if_neg hk] at w1
      cases w1
      simp (disch:=first|omega|simp only[vl];omega) only [vcd]
      exact ⟨s',⟨hs',w3⟩,rfl⟩
   ·obtain ⟨c1,c2⟩:=hC
    rw [hz] at c1
    cases c1
    simp (disch:=first|omega|simp only[vl];omega) only [vcd]
    refine call_by (rn_s (K:=K) (l:=z) (by omega)) rfl ?_
    simp (disch:=first|omega|simp only[vl];omega) only [vcd]
    rw [c2,hzd]
