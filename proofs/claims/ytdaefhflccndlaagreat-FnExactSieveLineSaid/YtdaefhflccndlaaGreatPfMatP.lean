/-
 The partners of a path's letters, as both sides find them.
-/
import Derived.Test.YtdaefhflccndlaaGreatPfMat
import Derived.Test.YtdaefhflccndlaaGreatPfAp
import Derived.Test.YtdaefhflccndlaaGreatPfH
import Derived.Test.YtdaefhflccndlaaGreatIrHas
set_option linter.unusedSimpArgs false
set_option linter.unusedVariables false
namespace Go.Cat
variable {K:Nat→List D→List D→Prop}
def cI (l:List Nat):List Int:=l.map fun (j:Nat)=>(j:Int)
theorem cI_cons {j:Nat} {l:List Nat}:(cI (j::l)).reverse=(cI l).reverse++[(j:Int)]:=by simp [cI]
theorem cI_len {l:List Nat}:((cI l).reverse).length=l.length:=by simp [cI]
theorem cI_l {l:List Nat}:(cI l).length=l.length:=by simp [cI]
theorem Hh_le {w:List Nat} {i:Nat}:Hh w i≤i:=by
 have:=cnt_le (w:=w.take i) (c:=117)
 simp only [Hh]
 simp only [List.length_take] at this
 omega
def PS (w:List Nat) (i:Nat) (out:List Int) (st:List Nat):Prop:=
 SO w st i∧out.length=w.length∧∀ a:Nat,a<i→a∉st→∃ b:Nat,atI out a=b∧(PR w a b∨PR w b a)
theorem PS_up {w:List Nat} {i:Nat} {out:List Int} {st:List Nat} (h:PS w i out st) (hi:i<w.length) (hu:atB w i=117):PS w (i+1) out (i::st):=by
 obtain ⟨h1,h2,h3⟩:=h
 refine ⟨SO_up h1 hi hu,h2,fun a ha hn=>?_⟩
 have e:a≠i:=fun e=>hn (by rw [e]; exact List.mem_cons_self ..)
 exact h3 a (by omega) fun q=>hn (qmc _ q)
theorem PS_dn {w:List Nat} {i j:Nat} {out:List Int} {st:List Nat} (h:PS w i out (j::st)) (hi:i<w.length) (hd:atB w i=100):PS w (i+1) (seI (seI out i j) j i) st:=by
 obtain ⟨h1,h2,h3⟩:=h
 obtain ⟨q1,q2⟩:=SO_dn h1 hi hd
 have hj:=q1.1
 refine ⟨q2,by rw [seI_len,seI_len,h2],fun a ha hn=>?_⟩
 rw [atI_set (by rw [seI_len]; omega),atI_set (by omega)]
 by_cases e1:j=a
 ·subst e1
  rw [if_pos rfl]
  exact ⟨i,rfl,.inl q1⟩
 ·rw [if_neg e1]
  by_cases e2:i=a
  ·subst e2
   rw [if_pos rfl]
   exact ⟨j,rfl,.inr q1⟩
  ·rw [if_neg e2]
   exact h3 a (by omega) fun q=>by
    rcases qmn.1 q with q | q
    ·exact e1 q.symm
    ·exact hn q
theorem part_i [HA K] {w:List Nat} (hw:dyck w=true):∃ rs,(∃ m,rs=[LI m]∧PP w m)∧K 373 [.s w] rs:=by
 have hd:=DY_of hw
 have hl:=hd.l
 refine body_ex (f:=ir_impl_partners) rfl ?_; simp only [ir_impl_partners,zn,zs,zq,zi,zg,zp]
 simp (disch:=first|omega|simp only[vl];omega) only [vcd]
 refine loop_up (fun i (x:List Int×List Nat)=>PS w i x.1 x.2) (fun i x=>[.s w,.u,LI x.1,LI (cI x.2).reverse,.n i,.u,.u,.u]) w.length (rep w.length 0,[]) ⟨by simp [SO,Hh_0],by simp [rep],by simp⟩ rfl (fun i x hi hP=>?_) (fun x hP=>?_)
 ·obtain ⟨out,st⟩:=x
  simp only at hP
  have hs:=SO_len hP.1
  have hlen:=cI_len (l:=st)
  have hlen2:=cI_l (l:=st)
  have hle:=Hh_le (w:=w) (i:=i)
  have hout:=hP.2.1
  rcases hd.ud i hi with hu | hu
  ·simp (disch:=first|omega|simp only[vl];omega) only [vcd,hu]
   exact ⟨(out,i::st),PS_up hP hi hu,by rw [cI_cons]⟩
  ·have e:=Hh_dn hi hu
   have e0:=hd.h0 (i+1) (by omega)
   cases st with
   | nil=>simp only [qln] at hs; omega
   | cons j t=>
    have hj:=hP.1.1
    have hl2:((cI t).reverse).length=t.length:=cI_len
    have e1:atI ((cI t).reverse++[(j:Int)]) t.length=j:=by rw [← hl2]; exact at_last
    have e2:sub ((cI t).reverse++[(j:Int)]) 0 t.length=(cI t).reverse:=by rw [← hl2]; exact sub_init
    have e3:((((cI t).reverse++[(j:Int)]).length:Nat):Int)=(t.length:Int)+1:=by simp [hl2]
    have hl3:=cI_l (l:=t)
    simp only [qlc] at hs
    simp only [cI_cons]
    simp (disch:=first|omega|simp only[vl];omega) only [vcd,hu,e3,e1,e2,qas]
    exact ⟨(seI (seI out i j) j i,t),PS_dn hP hi hu,rfl⟩
 ·obtain ⟨out,st⟩:=x
  simp only at hP
  simp (disch:=first|omega|simp only[vl];omega) only [vcd]
  refine ⟨_,rfl,hP.2.1,fun a ha=>?_⟩
  obtain ⟨h1,h2,h3⟩:=hP
  refine h3 a ha fun q=>?_
  have:=SO_len h1
  rw [hd.he] at this
  have:st=[]:=qez (by omega)
  subst this
  cases q
theorem l4u [HA K] {w:List Nat} {i k:Nat} (hd:DY w) (h:PR w i k):K 370 [.s w,.n i] [.n k]:=by
 have hl:=hd.l
 have hi:i<w.length:=by have:=h.1; have:=h.2.1; omega
 have hu:atB w i=117:=by
  rcases hd.ud i hi with q | q
  ·exact q
  ·have:=Hh_dn hi q
   have:=h.2.2.2 (i+1) (by omega) (by have:=h.1; omega)
   omega
 refine body_by (f:=ir_spec_l4Partner) rfl ?_; simp only [ir_spec_l4Partner,zn,zs,zq,zi,zg,zp]
 simp (disch:=omega) only [vcd,hu]
 refine loop_wh (fun (x:Nat)=>i≤x∧x≤k) (fun x=>[.s w,.n i,.u,.n (Hh w x-Hh w i),.n x,.u,.u,.u,.u,.u,.u,.u,.u]) (fun x=>k-x) i ⟨by omega,by have:=h.1; omega⟩ (by simp) ?_
 intro x hx
 have hk:=h.2.1
 have b0:=hd.h0 x (by omega)
 have b1:=hd.h0 i (by omega)
 have b2:Hh w x≤x∧Hh w i≤i:=⟨Hh_le,Hh_le⟩
 have key:Hh w (x+1)-Hh w i=0↔x=k:=by
  constructor
  ·intro q
   by_cases e:x=k
   ·exact e
   ·have:=h.2.2.2 (x+1) (by omega) (by omega); omega
  ·rintro rfl
   have:=h.2.2.1; omega
 rcases hd.ud x (by omega) with q | q
 ·have e:=Hh_up (i:=x) (by omega) q
  by_cases hxk:x=k
  ·have:=key.2 hxk
   subst hxk
   simp (disch:=omega) only [vcd,q]
  ·have:¬ (Hh w x-Hh w i+1=0):=fun z=>hxk (key.1 (by omega))
   simp (disch:=omega) only [vcd,q]
   exact ⟨x+1,by omega,by omega,by simp; omega⟩
 ·have e:=Hh_dn (i:=x) (by omega) q
  by_cases hxk:x=k
  ·have:=key.2 hxk
   subst hxk
   simp (disch:=omega) only [vcd,q]
  ·have:¬ (Hh w x-Hh w i-1=0):=fun z=>hxk (key.1 (by omega))
   simp (disch:=omega) only [vcd,q]
   exact ⟨x+1,by omega,by omega,by simp; omega⟩
theorem l4d [HA K] {w:List Nat} {i k:Nat} (hd:DY w) (h:PR w k i):K 370 [.s w,.n i] [.n k]:=by
 have hl:=hd.l
 have hi:i<w.length:=h.2.1
 have hki:=h.1
 have hu:atB w i=100:=by
  rcases hd.ud i hi with q | q
  ·have:=Hh_up hi q
   have:=h.2.2.2 i (by omega) (by omega)
   have:=h.2.2.1
   omega
  ·exact q
 refine body_by (f:=ir_spec_l4Partner) rfl ?_; simp only [ir_spec_l4Partner,zn,zs,zq,zi,zg,zp]
 simp (disch:=omega) only [vcd,hu]
 refine loop_wh (fun (x:Nat)=>k≤x∧x≤i) (fun x=>[.s w,.u,.u,.n (Hh w (x+1)-Hh w k),.u,.n x,.u,.u,.u,.u,.u,.u,.u]) (fun x=>x) i ⟨by omega,by omega⟩ (by rw [h.2.2.1]; simp) ?_
 intro x hx
 have b0:=hd.h0 (x+1) (by omega)
 have b1:=hd.h0 k (by omega)
 have b2:Hh w (x+1)≤((x+1:Nat):Int)∧Hh w k≤k:=⟨Hh_le,Hh_le⟩
 have key:Hh w x-Hh w k=0↔x=k:=by
  constructor
  ·intro q
   by_cases e:x=k
   ·exact e
   ·have:=h.2.2.2 x (by omega) (by omega); omega
  ·rintro rfl; omega
 rcases hd.ud x (by omega) with q | q
 ·have e:=Hh_up (i:=x) (by omega) q
  by_cases hxk:x=k
  ·have:=key.2 hxk
   subst hxk
   simp (disch:=omega) only [vcd,q]
  ·have:¬ (Hh w (x+1)-Hh w k-1=0):=fun z=>hxk (key.1 (by omega))
   simp (disch:=omega) only [vcd,q]
   refine ⟨x-1,by omega,by omega,?_⟩
   rw [show x-1+1=x by omega,show ((x-1:Nat):Int)=(x:Int)-1 by omega,show Hh w (x+1)-Hh w k-1=Hh w x-Hh w k by omega]
 ·have e:=Hh_dn (i:=x) (by omega) q
  by_cases hxk:x=k
  ·have:=key.2 hxk
   subst hxk
   simp (disch:=omega) only [vcd,q]
  ·have:¬ (Hh w (x+1)-Hh w k+1=0):=fun z=>hxk (key.1 (by omega))
   simp (disch:=omega) only [vcd,q]
   refine ⟨x-1,by omega,by omega,?_⟩
   rw [show x-1+1=x by omega,show ((x-1:Nat):Int)=(x:Int)-1 by omega,show Hh w (x+1)-Hh w k+1=Hh w x-Hh w k by omega]
theorem l4_ok [HA K] {w:List Nat} {m:List Int} {i:Nat} (hd:DY w) (h:PP w m) (hi:i<w.length):K 370 [.s w,.n i] [.n (atI m i)]:=by
 obtain ⟨b,e,q⟩:=h.2 i hi
 rw [e]
 rcases q with q | q
 ·exact l4u (K:=K) hd q
 ·exact l4d (K:=K) hd q
theorem LI_nilP:D.l []=LI []:=rfl
theorem take_snoc {m:List Int} {i:Nat} (h:i<m.length):m.take (i+1)=m.take i++[atI m i]:=by
 rw [qta h]; simp [atI,h]
theorem mto_s [HA K] {w:List Nat} {m:List Int} (hw:dyck w=true) (h:PP w m):K 356 [.s w] [LI m,.b true]:=by
 have hd:=DY_of hw
 have hl:=hd.l
 have hm:=h.1
 refine body_by (f:=ir_spec_MatchingOf) rfl ?_; simp only [ir_spec_MatchingOf,zn,zs,zq,zi,zg,zp]
 simp (disch:=first|omega|simp only[vl];omega) only [vcd]
 rw [LI_nilP]
 refine loop_ix (fun _=>True) (fun i=>[.s w,.u,.u,LI (m.take i),.n i,.u]) w.length trivial (by simp) (fun i hi _=>?_) (fun _=>?_)
 ·have ht:(m.take i).length=i:=by simp; omega
  simp (disch:=first|omega|simp only[vl];omega) only [vcd]
  repeat (first | (refine call_by (dyck_s (K:=K) (w:=w) (by omega)) rfl ?_; try simp (disch:=first|omega|simp only[vl];omega) only [vcd,hw]))
  refine call_by (l4_ok (K:=K) hd h hi) rfl ?_
  simp (disch:=first|omega|simp only[vl];omega) only [vcd]
  rw [take_snoc (by omega)]
 ·simp (disch:=first|omega|simp only[vl];omega) only [vcd]
  repeat (first | (refine call_by (dyck_s (K:=K) (w:=w) (by omega)) rfl ?_; try simp (disch:=first|omega|simp only[vl];omega) only [vcd,hw]))
  rw [List.take_of_length_le (by omega)]
theorem take_snocS {ws:List (List Nat)} {i:Nat} (h:i<ws.length):ws.take (i+1)=ws.take i++[atS ws i]:=by
 rw [qta h]; simp [atS,h]
end Go.Cat
