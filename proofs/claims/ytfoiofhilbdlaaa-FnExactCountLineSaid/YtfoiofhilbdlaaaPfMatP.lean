/-
 The partners of a path's letters, as both sides find them.
-/
import Derived.Test.YtfoiofhilbdlaaaPfMat
import Derived.Test.YtfoiofhilbdlaaaPfAp
import Derived.Test.YtfoiofhilbdlaaaPfSort
import Derived.Test.YtfoiofhilbdlaaaIrHas
set_option linter.unusedSimpArgs false
set_option linter.unusedVariables false
namespace Go.Cat
variable {K:Nat→List D→List D→Prop}
def cI (l:List Nat):List Int:=l.map fun (j:Nat)=>(j:Int)
theorem cI_cons {j:Nat} {l:List Nat}:(cI (j::l)).reverse=(cI l).reverse++[(j:Int)]:=by simp [cI]
theorem cI_len {l:List Nat}:((cI l).reverse).length=l.length:=by simp [cI]
theorem cI_l {l:List Nat}:(cI l).length=l.length:=by simp [cI]
theorem Hh_le {w:List Nat} {i:Nat}:Hh w i≤i:=by
 have:=cnt_le (w:=w.take i) (c:=117)
 simp only [Hh]
 simp only [List.length_take] at this
 omega
def PS (w:List Nat) (i:Nat) (out:List Int) (st:List Nat):Prop:=
 SO w st i∧out.length=w.length∧∀ a:Nat,a<i→a∉st→∃ b:Nat,atI out a=b∧(PR w a b∨PR w b a)
theorem PS_up {w:List Nat} {i:Nat} {out:List Int} {st:List Nat} (h:PS w i out st) (hi:i<w.length) (hu:atB w i=117):PS w (i+1) out (i::st):=by
 obtain ⟨h1,h2,h3⟩:=h
 refine ⟨SO_up h1 hi hu,h2,fun a ha hn=>?_⟩
 have e:a≠i:=fun e=>hn (by rw [e]; exact List.mem_cons_self ..)
 exact h3 a (by omega) fun q=>hn (qmc _ q)
theorem PS_dn {w:List Nat} {i j:Nat} {out:List Int} {st:List Nat} (h:PS w i out (j::st)) (hi:i<w.length) (hd:atB w i=100):PS w (i+1) (seI (seI out i j) j i) st:=by
 obtain ⟨h1,h2,h3⟩:=h
 obtain ⟨q1,q2⟩:=SO_dn h1 hi hd
 have hj:=q1.1
 refine ⟨q2,by rw [seI_len,seI_len,h2],fun a ha hn=>?_⟩
 rw [atI_set (by rw [seI_len]; omega),atI_set (by omega)]
 by_cases e1:j=a
 ·subst e1
  rw [if_pos rfl]
  exact ⟨i,rfl,.inl q1⟩
 ·rw [if_neg e1]
  by_cases e2:i=a
  ·subst e2
   rw [if_pos rfl]
   exact ⟨j,rfl,.inr q1⟩
  ·rw [if_neg e2]
   exact h3 a (by omega) fun q=>by
    rcases qmn.1 q with q | q
    ·exact e1 q.symm
    ·exact hn q
theorem part_i [HA K] {w:List Nat} (hw:dyck w=true):∃ rs,(∃ m,rs=[LI m]∧PP w m)∧K 373 [.s w] rs:=by
 have hd:=DY_of hw
 have hl:=hd.l
 refine body_ex (f:=ir_impl_partners) rfl ?_; simp only [ir_impl_partners,zn,zs,zq,zi,zg,zp]
 simp (disch:=first|omega|simp only[vl];omega) only [vcd]
 refine loop_up (fun i (x:List Int×List Nat)=>PS w i x.1 x.2) (fun i x=>[.s w,.u,LI x.1,LI (cI x.2).reverse,.n i,.u,.u,.u]) w.length (rep w.length 0,[]) ⟨by simp [SO,Hh_0],by simp [rep],by simp⟩ rfl (fun i x hi hP=>?_) (fun x hP=>?_)
 ·obtain ⟨out,st⟩:=x
  simp only at hP
  have hs:=SO_len hP.1
  have hlen:=cI_len (l:=st)
  have hlen2:=cI_l (l:=st)
  have hle:=Hh_le (w:=w) (i:=i)
  have hout:=hP.2.1
  rcases hd.ud i hi with hu | hu
  ·simp (disch:=first|omega|simp only[vl];omega) only [vcd,hu]
   exact ⟨(out,i::st),PS_up hP hi hu,by rw [cI_cons]⟩
  ·have e:=Hh_dn hi hu
   have e0:=hd.h0 (i+1) (by omega)
   cases st with
   | nil=>simp only [qln] at hs; omega
   | cons j t=>
    have hj:=hP.1.1
    have hl2:((cI t).reverse).length=t.length:=cI_len
    have e1:atI ((cI t).reverse++[(j:Int)]) t.length=j:=by rw [← hl2]; exact at_last
    have e2:sub ((cI t).reverse++[(j:Int)]) 0 t.length=(cI t).reverse:=by rw [← hl2]; exact sub_init
    have e3:((((cI t).reverse++[(j:Int)]).length:Nat):Int)=(t.length:Int)+1:=by simp [hl2]
    have hl3:=cI_l (l:=t)
    simp only [qlc] at hs
    simp only [cI_cons]
    simp (disch:=first|omega|simp only[vl];omega) only [vcd,hu,e3,e1,e2,qas]
    exact ⟨(seI (seI out i j) j i,t),PS_dn hP hi hu,rfl⟩
 ·obtain ⟨out,st⟩:=x
  simp only at hP
  simp (disch:=first|omega|simp only[vl];omega) only [vcd]
  refine ⟨_,rfl,hP.2.1,fun a ha=>?_⟩
  obtain ⟨h1,h2,h3⟩:=hP
  refine h3 a ha fun q=>?_
  have:=SO_len h1
  rw [hd.he] at this
  have:st=[]:=qez (by omega)
  subst this
  cases q
theorem l4u [HA K] {w:List Nat} {i k:Nat} (hd:DY w) (h:PR w i k):K 370 [.s w,.n i] [.n k]:=by
 have hl:=hd.l
 have hi:i<w.length:=by have:=h.1; have:=h.2.1; omega
 have hu:atB w i=117:=by
  rcases hd.ud i hi with q | q
  ·exact q
  ·have:=Hh_dn hi q
   have:=h.2.2.2 (i+1) (by omega) (by have:=h.1; omega)
   omega
 refine body_by (f:=ir_spec_l4Partner) rfl ?_; simp only [ir_spec_l4Partner,zn,zs,zq,zi,zg,zp]
 simp (disch:=omega) only [vcd,hu]
 refine loop_wh (fun (x:Nat)=>i≤x∧x≤k) (fun x=>[.s w,.n i,.u,.n (Hh w x-Hh w i),.n x,.u,.u,.u,.u,.u,.u,.u,.u]) (fun x=>k-x) i ⟨by omega,by have:=h.1; omega⟩ (by simp) ?_
 intro x hx
 have hk:=h.2.1
 have b0:=hd.h0 x (by omega)
 have b1:=hd.h0 i (by omega)
 have b2:Hh w x≤x∧Hh w i≤i:=⟨Hh_le,Hh_le⟩
 have key:Hh w (x+1)-Hh w i=0↔x=k:=by
  constructor
  ·intro q
   by_cases e:x=k
   ·exact e
   ·have:=h.2.2.2 (x+1) (by omega) (by omega); omega
  ·rintro rfl
   have:=h.2.2.1; omega
 rcases hd.ud x (by omega) with q | q
 ·have e:=Hh_up (i:=x) (by omega) q
  by_cases hxk:x=k
  ·have:=key.2 hxk
   subst hxk
   simp (disch:=omega) only [vcd,q]
  ·have:¬ (Hh w x-Hh w i+1=0):=fun z=>hxk (key.1 (by omega))
   simp (disch:=omega) only [vcd,q]
   exact ⟨x+1,by omega,by omega,by simp; omega⟩
 ·have e:=Hh_dn (i:=x) (by omega) q
  by_cases hxk:x=k
  ·have:=key.2 hxk
   subst hxk
   simp (disch:=omega) only [vcd,q]
  ·have:¬ (Hh w x-Hh w i-1=0):=fun z=>hxk (key.1 (by omega))
   simp (disch:=omega) only [vcd,q]
   exact ⟨x+1,by omega,by omega,by simp; omega⟩
theorem l4d [HA K] {w:List Nat} {i k:Nat} (hd:DY w) (h:PR w k i):K 370 [.s w,.n i] [.n k]:=by
 have hl:=hd.l
 have hi:i<w.length:=h.2.1
 have hki:=h.1
 have hu:atB w i=100:=by
  rcases hd.ud i hi with q | q
  ·have:=Hh_up hi q
   have:=h.2.2.2 i (by omega) (by omega)
   have:=h.2.2.1
   omega
  ·exact q
 refine body_by (f:=ir_spec_l4Partner) rfl ?_; simp only [ir_spec_l4Partner,zn,zs,zq,zi,zg,zp]
 simp (disch:=omega) only [vcd,hu]
 refine loop_wh (fun (x:Nat)=>k≤x∧x≤i) (fun x=>[.s w,.u,.u,.n (Hh w (x+1)-Hh w k),.u,.n x,.u,.u,.u,.u,.u,.u,.u]) (fun x=>x) i ⟨by omega,by omega⟩ (by rw [h.2.2.1]; simp) ?_
 intro x hx
 have b0:=hd.h0 (x+1) (by omega)
 have b1:=hd.h0 k (by omega)
 have b2:Hh w (x+1)≤((x+1:Nat):Int)∧Hh w k≤k:=⟨Hh_le,Hh_le⟩
 have key:Hh w x-Hh w k=0↔x=k:=by
  constructor
  ·intro q
   by_cases e:x=k
   ·exact e
   ·have:=h.2.2.2 x (by omega) (by omega); omega
  ·rintro rfl; omega
 rcases hd.ud x (by omega) with q | q
 ·have e:=Hh_up (i:=x) (by omega) q
  by_cases hxk:x=k
  ·have:=key.2 hxk
   subst hxk
   simp (disch:=omega) only [vcd,q]
  ·have:¬ (Hh w (x+1)-Hh w k-1=0):=fun z=>hxk (key.1 (by omega))
   simp (disch:=omega) only [vcd,q]
   refine ⟨x-1,by omega,by omega,?_⟩
   rw [show x-1+1=x by omega,show ((x-1:Nat):Int)=(x:Int)-1 by omega,show Hh w (x+1)-Hh w k-1=Hh w x-Hh w k by omega]
 ·have e:=Hh_dn (i:=x) (by omega) q
  by_cases hxk:x=k
  ·have:=key.2 hxk
   subst hxk
   simp (disch:=omega) only [vcd,q]
  ·have:¬ (Hh w (x+1)-Hh w k+1=0):=fun z=>hxk (key.1 (by omega))
   simp (disch:=omega) only [vcd,q]
   refine ⟨x-1,by omega,by omega,?_⟩
   rw [show x-1+1=x by omega,show ((x-1:Nat):Int)=(x:Int)-1 by omega,show Hh w (x+1)-Hh w k+1=Hh w x-Hh w k by omega]
theorem l4_ok [HA K] {w:List Nat} {m:List Int} {i:Nat} (hd:DY w) (h:PP w m) (hi:i<w.length):K 370 [.s w,.n i] [.n (atI m i)]:=by
 obtain ⟨b,e,q⟩:=h.2 i hi
 rw [e]
 rcases q with q | q
 ·exact l4u (K:=K) hd q
 ·exact l4d (K:=K) hd q
theorem LI_nilP:D.l []=LI []:=rfl
theorem take_snoc {m:List Int} {i:Nat} (h:i<m.length):m.take (i+1)=m.take i++[atI m i]:=by
 rw [qta h]; simp [atI,h]
theorem mto_s [HA K] {w:List Nat} {m:List Int} (hw:dyck w=true) (h:PP w m):K 356 [.s w] [LI m,.b true]:=by
 have hd:=DY_of hw
 have hl:=hd.l
 have hm:=h.1
 refine body_by (f:=ir_spec_MatchingOf) rfl ?_; simp only [ir_spec_MatchingOf,zn,zs,zq,zi,zg,zp]
 simp (disch:=first|omega|simp only[vl];omega) only [vcd]
 rw [LI_nilP]
 refine loop_ix (fun _=>True) (fun i=>[.s w,.u,.u,LI (m.take i),.n i,.u]) w.length trivial (by simp) (fun i hi _=>?_) (fun _=>?_)
 ·have ht:(m.take i).length=i:=by simp; omega
  simp (disch:=first|omega|simp only[vl];omega) only [vcd]
  repeat (first | (refine call_by (dyck_s (K:=K) (w:=w) (by omega)) rfl ?_; try simp (disch:=first|omega|simp only[vl];omega) only [vcd,hw]))
  refine call_by (l4_ok (K:=K) hd h hi) rfl ?_
  simp (disch:=first|omega|simp only[vl];omega) only [vcd]
  rw [take_snoc (by omega)]
 ·simp (disch:=first|omega|simp only[vl];omega) only [vcd]
  repeat (first | (refine call_by (dyck_s (K:=K) (w:=w) (by omega)) rfl ?_; try simp (disch:=first|omega|simp only[vl];omega) only [vcd,hw]))
  rw [List.take_of_length_le (by omega)]
def fls (s:List Bool):Nat:=s.countP fun b=>!b
theorem seT_nat {s:List Bool} {i:Nat} {b:Bool}:seT s i b=s.set i b:=by simp [seT]
theorem fls_set:∀ {s:List Bool} {i:Nat},i<s.length→s.getD i false=false→fls (s.set i true)+1=fls s
 | [],i,h,_=>by simp at h
 | b::s,0,_,h=>by simp only [List.getD_cons_zero] at h; subst h; simp [fls]
 | b::s,i+1,h,hb=>by
  have:=fls_set (s:=s) (i:=i) (by simpa using h) (by simpa using hb)
  simp only [fls,List.set_cons_succ,List.countP_cons] at this ⊢
  omega
theorem fls_set_le:∀ {s:List Bool} {i:Nat},fls (s.set i true)≤fls s
 | [],i=>by simp [fls]
 | b::s,0=>by simp [fls,List.countP_cons]
 | b::s,i+1=>by
  have:=fls_set_le (s:=s) (i:=i)
  simp only [fls,List.set_cons_succ,List.countP_cons] at this ⊢
  omega
def cyW (a b:List Int):Nat→List Bool→Int→List Bool
 | 0,s,_=>s
 | f+1,s,at'=>if atT s at'=true then s else cyW a b f (seT (seT s at' true) (atI a at') true) (atI b (atI a at'))
theorem cyW_len {a b:List Int}:∀ {f:Nat} {s:List Bool} {x:Int},(cyW a b f s x).length=s.length
 | 0,_,_=>rfl
 | f+1,s,x=>by
  unfold cyW
  split
  ·rfl
  ·rw [cyW_len,seT_len,seT_len]
def cyO (a b:List Int):Nat→List Bool×Nat
 | 0=>(rep a.length false,0)
 | i+1=>if atT (cyO a b i).1 i=true then cyO a b i else (cyW a b (a.length+1) (cyO a b i).1 i,(cyO a b i).2+1)
theorem cyO_len {a b:List Int}:∀ i,(cyO a b i).1.length=a.length∧(cyO a b i).2≤i
 | 0=>by simp [cyO,rep]
 | i+1=>by
  have:=cyO_len (a:=a) (b:=b) i
  unfold cyO
  split
  ·omega
  ·simp only [cyW_len]; omega
def cyN (a b:List Int):Nat:=(cyO a b a.length).2
def inL (m:List Int):Prop:=∀ j:Nat,j<m.length→0≤atI m j∧atI m j<m.length
theorem inL_of {m:List Int} (h:matF m=true):inL m:=fun j hj=>by
 have:=inR_iff.1 ((matF_t h).2 j hj).1
 omega
theorem inL_at {m:List Int} (h:inL m) {x:Int} (hx:0≤x∧x<m.length):0≤atI m x∧atI m x<m.length:=by
 obtain ⟨n,rfl⟩:=qoz hx.1
 exact h n (by omega)
theorem atT_nat {s:List Bool} {n:Nat}:atT s (n:Int)=s.getD n false:=by simp [atT]
theorem cyc_step {a:List Int} {f:Nat} {s:List Bool} {x:Int} (hs:s.length=a.length) (hx:0≤x∧x<a.length) (ha:inL a) (hf:fls s<f+1) (hn:atT s x=false):
  fls (seT (seT s x true) (atI a x) true)<f:=by
 obtain ⟨n,rfl⟩:=qoz hx.1
 have h2:=ha n (by omega)
 obtain ⟨k,hk⟩:=qoz h2.1
 rw [hk,seT_nat,seT_nat]
 rw [atT_nat] at hn
 have e1:=fls_set (s:=s) (i:=n) (by omega) hn
 have e2:=fls_set_le (s:=s.set n true) (i:=k)
 omega
theorem cyc_i [HA K] {a b:List Int} (hl:a.length≤16) (hab:b.length=a.length) (ha:inL a) (hb:inL b):K 360 [LI a,LI b] [.n (cyN a b)]:=by
 refine body_by (f:=ir_impl_cycles) rfl ?_; simp only [ir_impl_cycles,zn,zs,zq,zi,zg,zp]
 simp (disch:=first|omega|simp only[vl];omega) only [vcd]
 refine loop_ix (fun _=>True) (fun i=>[LI a,LI b,.u,LT (cyO a b i).1,.n (cyO a b i).2,.u,.u,.n a.length,.n i,.u,.u,.u]) a.length trivial rfl (fun i hi _=>?_) (fun _=>?_)
 ·have hlen:=cyO_len (a:=a) (b:=b) i
  obtain ⟨s,hs⟩:∃ s,s=(cyO a b i).1:=⟨_,rfl⟩
  obtain ⟨c,hc⟩:∃ c,c=(cyO a b i).2:=⟨_,rfl⟩
  rw [← hs,← hc] at hlen
  have he:cyO a b (i+1)=if atT s i=true then (s,c) else (cyW a b (a.length+1) s i,c+1):=by
   rw [hs,hc]; rfl
  rw [he,← hs,← hc]
  obtain ⟨hl1,hl2⟩:=hlen
  obtain ⟨R,hR⟩:∃ R,R=cyW a b (a.length+1) s i:=⟨_,rfl⟩
  rw [← hR]
  cases ht:atT s i
  ·simp only [qft,if_false]
   simp (disch:=first|omega|simp only[vl];omega) only [vcd,ht]
   refine loop_wh (fun (x:Nat×List Bool×Int)=>x.2.1.length=a.length∧(0≤x.2.2∧x.2.2<a.length)∧fls x.2.1<x.1∧cyW a b x.1 x.2.1 x.2.2=R) (fun x=>[LI a,LI b,.u,LT x.2.1,.n ((c:Int)+1),.u,.n x.2.2,.n a.length,.n i,.u,.u,.u]) (fun x=>x.1) (a.length+1,s,i) ⟨hl1,by simp; omega,by have:=List.countP_le_length (p:=fun b=>!b) (l:=s); simp only [fls]; omega,hR.symm⟩ rfl ?_
   rintro ⟨f,t,x⟩ ⟨g1,g2,g3,g4⟩
   simp only at g1 g2 g3 g4 ⊢
   have hin:=inL_at ha g2
   have hin2:=inL_at hb (x:=atI a x) (by omega)
   cases f with
   | zero=>omega
   | succ f=>
    simp only [cyW] at g4
    cases hx:atT t x
    ·rw [hx] at g4
     simp only [qft,if_false] at g4
     simp (disch:=first|omega|simp only[vl];omega) only [vcd,hx]
     exact ⟨(f,seT (seT t x true) (atI a x) true,atI b (atI a x)),by show f<f+1; omega,⟨by rw [seT_len,seT_len,g1],by rw [← hab]; exact hin2,cyc_step g1 g2 ha g3 hx,g4⟩,rfl⟩
    ·rw [hx] at g4
     simp only [if_true] at g4
     simp (disch:=first|omega|simp only[vl];omega) only [vcd,hx]
     rw [← g4]
  ·simp only [if_true]
   simp (disch:=first|omega|simp only[vl];omega) only [vcd,ht]
 ·simp (disch:=first|omega|simp only[vl];omega) only [vcd]
  rfl
theorem loops_s [HA K] {a b:List Int} (ha:ncmF a=true) (hb:ncmF b=true) (hab:b.length=a.length):K 371 [LI a,LI b] [.n (cyN a b)]:=by
 have ha1:matF a=true:=by simp [ncmF] at ha; exact ha.1
 have hb1:matF b=true:=by simp [ncmF] at hb; exact hb.1
 have hl:=(matF_t ha1).1
 have hia:=inL_of ha1
 have hib:=inL_of hb1
 refine body_by (f:=ir_spec_LoopsOf) rfl ?_; simp only [ir_spec_LoopsOf,zn,zs,zq,zi,zg,zp]
 simp (disch:=first|omega|simp only[vl];omega) only [vcd]
 repeat (first | (refine call_by (ncm_s (K:=K) (m:=a) (by omega)) rfl ?_; try simp (disch:=first|omega|simp only[vl];omega) only [vcd,ha,hb]) | (refine call_by (ncm_s (K:=K) (m:=b) (by omega)) rfl ?_; try simp (disch:=first|omega|simp only[vl];omega) only [vcd,ha,hb]))
 refine loop_ix (fun _=>True) (fun i=>[LI a,LI b,.u,LT (cyO a b i).1,.n (cyO a b i).2,.n i,.u,.u,.u,.u,.u]) a.length trivial rfl (fun i hi _=>?_) (fun _=>?_)
 ·have hlen:=cyO_len (a:=a) (b:=b) i
  obtain ⟨s,hs⟩:∃ s,s=(cyO a b i).1:=⟨_,rfl⟩
  obtain ⟨c,hc⟩:∃ c,c=(cyO a b i).2:=⟨_,rfl⟩
  rw [← hs,← hc] at hlen
  have he:cyO a b (i+1)=if atT s i=true then (s,c) else (cyW a b (a.length+1) s i,c+1):=by
   rw [hs,hc]; rfl
  rw [he,← hs,← hc]
  obtain ⟨hl1,hl2⟩:=hlen
  obtain ⟨R,hR⟩:∃ R,R=cyW a b (a.length+1) s i:=⟨_,rfl⟩
  rw [← hR]
  cases ht:atT s i
  ·simp only [qft,if_false]
   simp (disch:=first|omega|simp only[vl];omega) only [vcd,ht]
   refine loop_wh (fun (x:Nat×List Bool×Int)=>x.2.1.length=a.length∧(0≤x.2.2∧x.2.2<a.length)∧fls x.2.1<x.1∧cyW a b x.1 x.2.1 x.2.2=R) (fun x=>[LI a,LI b,.u,LT x.2.1,.n ((c:Int)+1),.n i,.n x.2.2,.u,.u,.u,.u]) (fun x=>x.1) (a.length+1,s,i) ⟨hl1,by simp; omega,by have:=List.countP_le_length (p:=fun b=>!b) (l:=s); simp only [fls]; omega,hR.symm⟩ rfl ?_
   rintro ⟨f,t,x⟩ ⟨g1,g2,g3,g4⟩
   simp only at g1 g2 g3 g4 ⊢
   have hin:=inL_at hia g2
   have hin2:=inL_at hib (x:=atI a x) (by omega)
   cases f with
   | zero=>omega
   | succ f=>
    simp only [cyW] at g4
    cases hx:atT t x
    ·rw [hx] at g4
     simp only [qft,if_false] at g4
     simp (disch:=first|omega|simp only[vl];omega) only [vcd,hx]
     exact ⟨(f,seT (seT t x true) (atI a x) true,atI b (atI a x)),by show f<f+1; omega,⟨by rw [seT_len,seT_len,g1],by rw [← hab]; exact hin2,cyc_step g1 g2 hia g3 hx,g4⟩,rfl⟩
    ·rw [hx] at g4
     simp only [if_true] at g4
     simp (disch:=first|omega|simp only[vl];omega) only [vcd,hx]
     rw [← g4]
  ·simp only [if_true]
   simp (disch:=first|omega|simp only[vl];omega) only [vcd,ht]
 ·simp (disch:=first|omega|simp only[vl];omega) only [vcd]
  rfl
inductive PPs:List (List Nat)→List (List Int)→Prop
 | nil:PPs [] []
 | snoc {ws ms w m}:PPs ws ms→PP w m→PPs (ws++[w]) (ms++[m])
theorem PPs_len {ws ms} (h:PPs ws ms):ms.length=ws.length:=by
 induction h with
 | nil=>rfl
 | snoc _ _ ih=>simp [ih]
theorem PPs_at {ws ms} (h:PPs ws ms):∀ i:Nat,i<ws.length→PP (atS ws i) (atL ms i):=by
 induction h with
 | nil=>intro i hi; simp at hi
 | @snoc ws ms w m h h2 ih=>
  intro i hi
  have hl:=PPs_len h
  rcases qlg i ws.length with q | q
  ·have:=ih i q
   simpa [atS,atL,qgd,qgl q,qgl (show i<ms.length by omega)] using this
  ·have e:i=ws.length:=by simp at hi; omega
   subst e
   have e1:atS (ws++[w]) ws.length=w:=by simp [atS,qgd]
   have e2:atL (ms++[m]) ws.length=m:=by rw [← hl]; simp [atL,qgd]
   rw [e1,e2]
   exact h2
theorem LL_nilP:D.l []=LL []:=rfl
theorem atS_mem {ws:List (List Nat)} {i:Nat} (h:i<ws.length):atS ws i∈ws:=by simp [atS,h]
theorem take_snocS {ws:List (List Nat)} {i:Nat} (h:i<ws.length):ws.take (i+1)=ws.take i++[atS ws i]:=by
 rw [qta h]; simp [atS,h]
theorem LL_appP {a b:List (List Int)} (h:a.length+b.length≤1099511627776):appD false (LL a) (LL b)=some (LL (a++b)):=LL_app ⟨h,rfl⟩
theorem mats_i [HA K] {n:Nat} (h:n<7):∃ rs,(∃ ms,rs=[LL ms]∧PPs (pathsR n) ms)∧K 359 [.n n] rs:=by
 have hlen:=apl h
 refine body_ex (f:=ir_impl_matchings) rfl ?_; simp only [ir_impl_matchings,zn,zs,zq,zi,zg,zp]
 simp (disch:=first|omega|simp only[vl];omega) only [vcd]
 refine call_by (ap_i (K:=K) h) rfl ?_
 simp (disch:=first|omega|simp only[vl];omega) only [vcd]
 rw [LL_nilP]
 refine loop_up (fun i (ms:List (List Int))=>PPs ((pathsR n).take i) ms) (fun i ms=>[.u,.u,LL ms,.u,LS (pathsR n),.n (pathsR n).length,.n i,.u]) (pathsR n).length [] (by simpa using PPs.nil) rfl (fun i ms hi hP=>?_) (fun ms hP=>?_)
 ·have hm:=PPs_len hP
  have ht:((pathsR n).take i).length=i:=by simp; omega
  obtain ⟨_,⟨m,rfl,hpp⟩,k1⟩:=part_i (K:=K) (w:=atS (pathsR n) i) (apd h (atS_mem hi)).1
  simp (disch:=first|omega|simp only[vl];omega) only [vcd]
  refine call_by (k1) rfl ?_
  simp (disch:=first|omega|simp only[vl];omega) only [vcd,LL_appP]
  refine ⟨ms++[m],?_,rfl⟩
  rw [take_snocS hi]
  exact PPs.snoc hP hpp
 ·rw [List.take_length] at hP
  simp (disch:=first|omega|simp only[vl];omega) only [vcd]
  exact ⟨ms,rfl,hP⟩
end Go.Cat
