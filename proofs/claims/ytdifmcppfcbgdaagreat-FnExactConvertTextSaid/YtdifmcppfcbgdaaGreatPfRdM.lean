/-
 Matchings read back: PathOfMatching and l32Matching of the reference, for any list and text.
-/
import Derived.Test.YtdifmcppfcbgdaaGreatPfMatP
import Derived.Test.YtdifmcppfcbgdaaGreatPfRdN
import Derived.Test.YtdifmcppfcbgdaaGreatPfRdQ
set_option linter.unusedSimpArgs false
set_option linter.unusedVariables false
namespace Go.Cat
variable {K:Nat→List D→List D→Prop}
def pmT (m:List Int):Nat→List Nat
 | 0=>[]
 | i+1=>pmT m i++[if (i:Int)<atI m i then 117 else 100]
theorem pmT_len {m:List Int}:∀ i,(pmT m i).length=i
 | 0=>rfl
 | i+1=>by simp [pmT,pmT_len i]
def pomR (m:List Int):List Nat:=if ncmF m=true then pmT m m.length else []
theorem pom_s [HA K] {m:List Int} (h:m.length≤1099511627776):K 581 [LI m] [.s (pomR m),.b (ncmF m)]:=by
 have k1:=ncm_s (K:=K) (m:=m) h
 refine body_by (f:=ir_spec_PathOfMatching) rfl ?_; simp only [ir_spec_PathOfMatching,zn,zs,zq,zi,zg,zp]
 simp (disch:=first|omega|simp only[vl];omega) only [vcd]
 by_cases hn:ncmF m=true
 ·have h16:m.length≤16:=by
   simp only [ncmF,qba] at hn
   exact (matF_t hn.1).1
  rw [hn] at k1 ⊢
  rw [pomR,if_pos hn]
  refine loop_ix (fun _=>True) (fun i=>[LI m,.u,.u,.s (pmT m i),.n i,.u,.u]) m.length trivial rfl (fun i hi _=>?_) (fun _=>?_)
  ·have hl:=pmT_len (m:=m) i
   rw [pmT]
   by_cases hc:(i:Int)<atI m i
   ·rw [if_pos hc]
    simp (disch:=first|omega|simp only[vl];omega) only [vcd]
    refine call_by (k1) rfl ?_
    simp (disch:=first|omega|simp only[vl];omega) only [vcd]
   ·rw [if_neg hc]
    simp (disch:=first|omega|simp only[vl];omega) only [vcd]
    refine call_by (k1) rfl ?_
    simp (disch:=first|omega|simp only[vl];omega) only [vcd]
  ·simp (disch:=first|omega|simp only[vl];omega) only [vcd]
   refine call_by (k1) rfl ?_
   simp (disch:=first|omega|simp only[vl];omega) only [vcd]
 ·have hn:ncmF m=false:=by simpa using hn
  rw [hn] at k1 ⊢
  have e:pomR m=[]:=by simp [pomR,hn]
  rw [e]
  refine loop_ix (fun _=>True) (fun _=>[LI m,.u,.u,.s [],.n 0,.u,.u]) 0 trivial rfl (fun i hi _=>absurd hi (by omega)) (fun _=>?_)
  by_cases h0:m.length=0
  ·simp (disch:=first|omega|simp only[vl];omega) only [vcd]
   refine call_by (k1) rfl ?_
   simp (disch:=first|omega|simp only[vl];omega) only [vcd]
  ·simp (disch:=first|omega|simp only[vl];omega) only [vcd]
   refine call_by (k1) rfl ?_
   simp (disch:=first|omega|simp only[vl];omega) only [vcd]
   refine call_by (k1) rfl ?_
   simp (disch:=first|omega|simp only[vl];omega) only [vcd]
def mtP2 (p:List Nat):Bool:=numO (cutF 45 p)&&decide ((numR (cutF 45 p)).length=2)
def mtRow (p:List Nat):List Int:=numR (cutF 45 p)
def mtX (n:Int):List (List Int)→List Int→Option (List Int)
 | [],m=>some m
 | r::t,m=>if inR 0 (n-1) (atI r 0)=true∧inR 0 (n-1) (atI r 1)=true then mtX n t (seI (seI m (atI r 0) (atI r 1)) (atI r 1) (atI r 0)) else none
def mtS (s:List Nat):Option (List Int):=
 if s=[110,111,110,101] then some [] else
 if (cutF 32 s).all mtP2=true then mtX (2*(cutF 32 s).length:Nat) ((cutF 32 s).map mtRow) (List.replicate (2*(cutF 32 s).length) 0) else none
def mtSO (s:List Nat):Bool:=(mtS s).isSome
def mtSR (s:List Nat):List Int:=(mtS s).getD []
theorem mtX_step {n:Int} {rs:List (List Int)} {m:List Int} {i:Nat} (h:i<rs.length):mtX n (rs.drop i) m=if inR 0 (n-1) (atI (atL rs i) 0)=true∧inR 0 (n-1) (atI (atL rs i) 1)=true then mtX n (rs.drop (i+1)) (seI (seI m (atI (atL rs i) 0) (atI (atL rs i) 1)) (atI (atL rs i) 1) (atI (atL rs i) 0)) else none:=by
 have:rs.drop i=atL rs i::rs.drop (i+1):=by
  rw [List.drop_eq_getElem_cons h]; simp [atL,h]
 rw [this]; rfl
theorem mtAll_no {o t:List (List Nat)} {p:List Nat} (h:¬ mtP2 p=true):(o++p::t).all mtP2=false:=by simp [h]
theorem mts_s [HA K] {s:List Nat} (h:s.length≤1000000):K 580 [.s s] [LI (mtSR s),.b (mtSO s)]:=by
 by_cases hn:s=[110,111,110,101]
 ·subst hn
  refine body_by (f:=ir_spec_l32Matching) rfl ?_; simp only [ir_spec_l32Matching,zn,zs,zq,zi,zg,zp]
  simp (disch:=first|omega|simp only[vl];omega) only [vcd]
  rfl
 ·have hbn:(s == [110,111,110,101])=false:=beq_eq_false_iff_ne.2 hn
  refine body_by (f:=ir_spec_l32Matching) rfl ?_; simp only [ir_spec_l32Matching,zn,zs,zq,zi,zg,zp]
  simp (disch:=first|omega|simp only[vl];omega) only [vcd,hbn,LL_nilP]
  refine loop_up (fun i (x:List (List Nat)×List Nat)=>x.1.length≤i∧x.2.length≤i∧x.1.all mtP2=true∧(i≤s.length→cutF 32 s=x.1++cutA 32 x.2 (s.drop i))∧(s.length<i→cutF 32 s=x.1)) (fun i x=>[.s s,.u,.u,LL (x.1.map mtRow),.s x.2,.n i,.u,.u,.u,.u,.u,.u,.u,.u,.u,.u,.u]) (s.length+1) ([],[]) ⟨by simp,by simp,by simp,by simp [cutF],by simp⟩ rfl (fun i x hi hP=>?_) (fun x hP=>?_)
  ·obtain ⟨o,p⟩:=x
   obtain ⟨h1,h2,h3,h4,_⟩:=hP
   simp only at h1 h2 h3 h4
   have h4:=h4 (by omega)
   have kp:=nums_s (K:=K) (s:=p) (b:=45) (by omega)
   by_cases hs:i<s.length
   ·rw [cutA_step hs] at h4
    by_cases hc:atB s i=32
    ·rw [if_pos hc] at h4
     simp (disch:=first|omega|simp only[vl];omega) only [vcd,hc]
     refine call_by (kp) rfl ?_
     by_cases hp:numO (cutF 45 p)=true
     ·by_cases hp2:(numR (cutF 45 p)).length=2
      ·have hpp:mtP2 p=true:=by simp [mtP2,hp,hp2]
       simp (disch:=first|omega|simp only[vl];omega) only [vcd,hp,LL_appP,ll_1]
       exact ⟨(o++[p],[]),⟨by simp; omega,by simp,by simp [h3,hpp],fun _=>by simp [h4],fun q=>absurd q (by omega)⟩,by simp [mtRow]⟩
      ·have hpp:¬ mtP2 p=true:=by simp [mtP2,hp,hp2]
       simp (disch:=first|omega|simp only[vl];omega) only [vcd,hp]
       have eN:mtS s=none:=by rw [mtS,if_neg hn,h4,mtAll_no hpp]; rfl
       simp only [mtSR,mtSO,eN]
       rfl
     ·have hpp:¬ mtP2 p=true:=by simp [mtP2,hp]
      simp (disch:=first|omega|simp only[vl];omega) only [vcd,hp]
      have eN:mtS s=none:=by rw [mtS,if_neg hn,h4,mtAll_no hpp]; rfl
      simp only [mtSR,mtSO,eN]
      rfl
    ·rw [if_neg hc] at h4
     simp (disch:=first|omega|simp only[vl];omega) only [vcd,hc]
     rw [sub_oneN hs]
     exact ⟨(o,p++[atB s i]),⟨by simp; omega,by simp; omega,h3,fun _=>h4,fun q=>absurd q (by omega)⟩,rfl⟩
   ·have e1:s.drop i=[]:=List.drop_eq_nil_of_le (by omega)
    rw [e1] at h4
    have h4:cutF 32 s=o++[p]:=h4
    simp (disch:=first|omega|simp only[vl];omega) only [vcd]
    refine call_by (kp) rfl ?_
    by_cases hp:numO (cutF 45 p)=true
    ·by_cases hp2:(numR (cutF 45 p)).length=2
     ·have hpp:mtP2 p=true:=by simp [mtP2,hp,hp2]
      simp (disch:=first|omega|simp only[vl];omega) only [vcd,hp,LL_appP,ll_1]
      exact ⟨(o++[p],[]),⟨by simp; omega,by simp,by simp [h3,hpp],fun q=>absurd q (by omega),fun _=>h4⟩,by simp [mtRow]⟩
     ·have hpp:¬ mtP2 p=true:=by simp [mtP2,hp,hp2]
      simp (disch:=first|omega|simp only[vl];omega) only [vcd,hp]
      have eN:mtS s=none:=by rw [mtS,if_neg hn,h4,mtAll_no hpp]; rfl
      simp only [mtSR,mtSO,eN]
      rfl
    ·have hpp:¬ mtP2 p=true:=by simp [mtP2,hp]
     simp (disch:=first|omega|simp only[vl];omega) only [vcd,hp]
     have eN:mtS s=none:=by rw [mtS,if_neg hn,h4,mtAll_no hpp]; rfl
     simp only [mtSR,mtSO,eN]
     rfl
  ·obtain ⟨o,p⟩:=x
   obtain ⟨h1,h2,h3,h4,h5⟩:=hP
   simp only at h1 h2 h3 h5
   have h5:=h5 (by omega)
   simp (disch:=first|omega|simp only[vl];omega) only [vcd]
   have hall:∀ r∈o.map mtRow,r.length=2:=by
    intro r hr
    obtain ⟨x,hx,rfl⟩:=List.mem_map.1 hr
    have:=qat.1 h3 x hx
    simp only [mtP2,qba,qde] at this
    exact this.2
   have eS:mtS s=mtX (2*(o.map mtRow).length:Nat) (o.map mtRow) (List.replicate (2*(o.map mtRow).length) 0):=by
    rw [mtS,if_neg hn,h5,if_pos h3,List.length_map]
   have hrl:(o.map mtRow).length=o.length:=List.length_map ..
   have hol:(o.map mtRow).length≤1000001:=by omega
   generalize o.map mtRow=R at hall eS hol
   obtain ⟨n,hn2⟩:∃ n:Nat,n=2*R.length:=⟨_,rfl⟩
   have e2:2*(R.length:Int)=(n:Int):=by omega
   rw [← hn2] at eS
   rw [e2]
   refine loop_up (fun i (m:List Int)=>m.length=n∧mtS s=mtX n (R.drop i) m) (fun i m=>[.u,.u,.u,LL R,.u,.u,.u,.u,.n n,LI m,.n i,.u,.u,.u,.u,.u,.u]) R.length (List.replicate n 0) ⟨by simp,by simpa using eS⟩ rfl (fun i m hi hP=>?_) (fun m hP=>?_)
   ·obtain ⟨g1,g2⟩:=hP
    rw [mtX_step hi] at g2
    obtain ⟨r,hr⟩:∃ r,r=atL R i:=⟨_,rfl⟩
    have hr2:r.length=2:=by rw [hr]; exact hall _ (atL_in hi)
    rw [← hr] at g2
    have k0:=l1In_ok (K:=K) (x:=atI r 0) (a:=0) (b:=(n:Int)-1)
    have k1:=l1In_ok (K:=K) (x:=atI r 1) (a:=0) (b:=(n:Int)-1)
    cases q0:inR 0 ((n:Int)-1) (atI r 0)
    ·rw [q0,if_neg (by simp)] at g2
     rw [q0] at k0
     simp (disch:=first|omega|simp only[vl];omega) only [vcd,← hr]
     refine call_by (k0) rfl ?_
     simp (disch:=first|omega|simp only[vl];omega) only [vcd]
     simp only [mtSR,mtSO,g2]
     rfl
    ·rw [q0] at k0
     cases q1:inR 0 ((n:Int)-1) (atI r 1)
     ·rw [q0,q1,if_neg (by simp)] at g2
      rw [q1] at k1
      simp (disch:=first|omega|simp only[vl];omega) only [vcd,← hr]
      refine call_by (k0) rfl ?_
      simp (disch:=first|omega|simp only[vl];omega) only [vcd,← hr]
      refine call_by (k1) rfl ?_
      simp (disch:=first|omega|simp only[vl];omega) only [vcd]
      simp only [mtSR,mtSO,g2]
      rfl
     ·rw [q0,q1,if_pos ⟨rfl,rfl⟩] at g2
      rw [q1] at k1
      have b0:=inR_iff.1 q0
      have b1:=inR_iff.1 q1
      obtain ⟨x,hx⟩:=qoz b0.1
      have hx:atI r 0=(x:Int):=hx
      obtain ⟨y,hy⟩:=qoz b1.1
      have hy:atI r 1=(y:Int):=hy
      rw [hx,hy] at g2
      rw [hx] at k0 b0
      rw [hy] at k1 b1
      have l1:(seI m x y).length=m.length:=seI_lenQ
      simp (disch:=first|omega|simp only[vl];omega) only [vcd,← hr,hx,hy]
      refine call_by (k0) rfl ?_
      simp (disch:=first|omega|simp only[vl];omega) only [vcd,← hr,hx,hy]
      refine call_by (k1) rfl ?_
      simp (disch:=first|omega|simp only[vl];omega) only [vcd,← hr,hx,hy]
      exact ⟨seI (seI m x y) y x,⟨by rw [seI_lenQ,seI_lenQ,g1],g2⟩,rfl⟩
   ·obtain ⟨g1,g2⟩:=hP
    rw [List.drop_length] at g2
    simp (disch:=first|omega|simp only[vl];omega) only [vcd]
    simp [mtSR,mtSO,g2,mtX]
end Go.Cat
