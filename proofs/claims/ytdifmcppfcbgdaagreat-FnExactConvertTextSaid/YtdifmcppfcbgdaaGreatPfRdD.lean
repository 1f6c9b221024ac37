/-
 Diagonals read back: l32Diagonals of the reference, for any text.
-/
import Derived.Test.YtdifmcppfcbgdaaGreatPfRdG
set_option linter.unusedSimpArgs false
set_option linter.unusedVariables false
namespace Go.Cat
variable {K:Nat→List D→List D→Prop}
def coF (s:List Nat):Nat:=(s.takeWhile fun c=>decide (c≠58)).length
theorem coF_le {s:List Nat}:coF s≤s.length:=by
 have:=(List.takeWhile_sublist (l:=s) (p:=fun c=>decide (c≠58))).length_le
 exact this
theorem coF_lt:∀ {s:List Nat} {j:Nat},j<coF s→atB s j≠58
 | [],j,h=>by simp [coF] at h
 | c::t,j,h=>by
  by_cases hc:c=58
  ·simp [coF,hc] at h
  ·cases j with
   | zero=>simpa [atB] using hc
   | succ j=>
    have h:j<coF t:=by simp [coF,hc] at h ⊢; exact h
    have:=coF_lt h
    simpa [atB] using this
theorem coF_at:∀ {s:List Nat},coF s<s.length→atB s (coF s)=58
 | [],h=>by simp at h
 | c::t,h=>by
  by_cases hc:c=58
  ·simp [coF,hc,atB]
  ·have e:coF (c::t)=coF t+1:=by simp [coF,hc]
   rw [e] at h ⊢
   have:=coF_at (s:=t) (by simpa using h)
   simpa [atB] using this
def dgG (r:List Nat) (k:Nat):List Int:=[(atB r (3*(k:Int)):Int)-48,(atB r (3*(k:Int)+1):Int)-48]
def dgRows (r:List Nat):List (List Int):=if r=[110,111,110,101] then [] else (List.range ((r.length+1) / 3)).map (dgG r)
def dgT (s:List Nat):Option (List Nat):=
 if pOK (s.take (coF s))=true∧coF s+2≤s.length∧triF (pR (s.take (coF s))) (dgRows (s.drop (coF s+2)))=true
 then some (btT (pR (s.take (coF s))) (dgRows (s.drop (coF s+2)))).p else none
def dgTO (s:List Nat):Bool:=(dgT s).isSome
def dgTR (s:List Nat):List Nat:=(dgT s).getD []
theorem dgRows_len {r:List Nat}:(dgRows r).length≤r.length:=by
 unfold dgRows
 split
 ·simp
 ·rw [List.length_map,List.length_range]; omega
theorem atB_lt {s:List Nat} (h:∀ c∈s,c<256) {i:Int}:atB s i<256:=by
 unfold atB
 rcases qlg i.toNat s.length with q | q
 ·rw [qgd,qge q]; exact h _ (List.getElem_mem q)
 ·rw [qgd,qgn q]; simp
theorem dgRows_rw {r:List Nat} (h:∀ c∈r,c<256):∀ x∈dgRows r,rw3 x:=by
 intro x hx
 unfold dgRows at hx
 split at hx
 ·cases hx
 ·obtain ⟨k,_,rfl⟩:=List.mem_map.1 hx
  have h0:=atB_lt h (i:=3*(k:Int))
  have h1:=atB_lt h (i:=3*(k:Int)+1)
  refine ⟨rfl,?_,?_⟩
  ·show -1000≤(atB r (3*(k:Int)):Int)-48∧(atB r (3*(k:Int)):Int)-48≤1000
   omega
  ·show -1000≤(atB r (3*(k:Int)+1):Int)-48∧(atB r (3*(k:Int)+1):Int)-48≤1000
   omega
theorem isB_nil:isB []=false:=by
 cases h:isB []
 ·rfl
 ·obtain ⟨x,h1,_⟩:=isB_t h
  have:=BT.tl x
  rw [← h1] at this; simp at this
theorem pR_bd {s:List Nat}:-999999999≤pR s∧pR s≤999999999:=by
 unfold pR
 split
 ·rename_i h
  simp only [pOK,qba,qde] at h
  exact h.1
 ·omega
theorem LL_nilD:D.l []=LL []:=rfl
theorem bop_s [HA K] {n:Int} {d:List (List Int)}:K 577 [.s (if triF n d=true then (btT n d).t else [])] [.s (if triF n d=true then (btT n d).p else []),.b (triF n d)]:=by
 cases h:triF n d
 ·simpa using pbin_s0 (K:=K) isB_nil
 ·simpa using pbin_s (K:=K) (btT_n h)
theorem dia_s [HA K] {s:List Nat} (h:s.length≤1000) (h8:∀ c∈s,c<256):K 582 [.s s] [.s (dgTR s),.b (dgTO s)]:=by
 have hc:=coF_le (s:=s)
 have kp:=pint_s (K:=K) (s:=s.take (coF s)) (by simp; omega)
 have esub:sub s 0 (coF s:Int)=s.take (coF s):=by simp [sub]
 refine body_by (f:=ir_spec_l32Diagonals) rfl ?_; simp only [ir_spec_l32Diagonals,zn,zs,zq,zi,zg,zp]
 simp (disch:=omega) only [vcd]
 refine loop_ix (fun _=>True) (fun i=>[.s s,.u,.u,.n i,.u,.u,.u,.u,.u,.u,.u,.u,.u,.u,.u,.u]) (coF s) trivial rfl (fun i hi _=>?_) (fun _=>?_)
 ·have hne:=coF_lt hi
  simp (disch:=omega) only [vcd,hne]
 ·by_cases hlt:coF s<s.length
  ·have hat:=coF_at hlt
   simp (disch:=omega) only [vcd,hat]
   rw [esub]
   refine call_by (kp) rfl ?_
   by_cases hok:pOK (s.take (coF s))=true
   ·by_cases h2:coF s+2≤s.length
    ·have hrl:(s.drop (coF s+2)).length=s.length-(coF s+2):=by simp
     have er:sub s ((coF s:Int)+2) (s.length:Int)=s.drop (coF s+2):=by
      have e:((coF s:Int)+2).toNat=coF s+2:=by omega
      simp [sub,e]
     have hr8:∀ c∈s.drop (coF s+2),c<256:=fun c hc=>h8 c (List.mem_of_mem_drop hc)
     have hnb:=pR_bd (s:=s.take (coF s))
     generalize hn:pR (s.take (coF s))=n at hnb
     generalize hR:s.drop (coF s+2)=r at hrl er hr8
     have hdl:=dgRows_len (r:=r)
     have hrows:=dgRows_rw hr8
     have kt:=bot_s (K:=K) (n:=n) (d:=dgRows r) (by omega) (by omega) hrows
     have fin:∀ b,triF n (dgRows r)=b→dgT s=if b=true then some (btT n (dgRows r)).p else none:=by
      intro b hb
      simp only [dgT,hn,hR,hok,h2,hb]
      simp
     simp (disch:=omega) only [vcd,hok,LL_nilD]
     rw [er]
     by_cases hN:r=[110,111,110,101]
     ·have ed:dgRows r=[]:=if_pos hN
      have hbn:(r == [110,111,110,101])=true:=by simpa using hN
      refine loop_ix (fun _=>True) (fun _=>[.u,.u,.u,.u,.n n,.u,LL [],.s r,.n 0,.u,.u,.u,.u,.u,.u,.u]) 0 trivial rfl (fun i hi _=>absurd hi (by omega)) (fun _=>?_)
      rw [ed] at kt fin
      have hr4:r.length=4:=by rw [hN]; rfl
      have kb:=bop_s (K:=K) (n:=n) (d:=[])
      simp (disch:=omega) only [vcd,hbn]
      refine call_by (kt) rfl ?_
      simp (disch:=omega) only [vcd]
      refine call_by (kb) rfl ?_
      cases hb:triF n []
      ·simp (disch:=omega) only [vcd]
       simp only [dgTR,dgTO,fin false hb]
       rfl
      ·simp (disch:=omega) only [vcd]
       simp only [dgTR,dgTO,fin true hb]
       rfl
     ·have ed:dgRows r=(List.range ((r.length+1) / 3)).map (dgG r):=if_neg hN
      have hbn:(r == [110,111,110,101])=false:=beq_eq_false_iff_ne.2 hN
      refine loop_ix (fun _=>True) (fun k=>[.u,.u,.u,.u,.n n,.u,LL ((List.range k).map (dgG r)),.s r,.n (3*(k:Int)),.u,.u,.u,.u,.u,.u,.u]) ((r.length+1) / 3) trivial rfl (fun k hk _=>?_) (fun _=>?_)
      ·have hkl:((List.range k).map (dgG r)).length=k:=by simp
       have b0:=atB_lt hr8 (i:=3*(k:Int))
       have b1:=atB_lt hr8 (i:=3*(k:Int)+1)
       have e3:3*((k+1:Nat):Int)=3*(k:Int)+3:=by omega
       rw [List.range_succ,List.map_append,e3]
       have ea:appD false (LL (List.map (dgG r) (List.range k))) (LL [[(atB r (3*(k:Int)):Int)-48,(atB r (3*(k:Int)+1):Int)-48]])=some (LL (List.map (dgG r) (List.range k)++[dgG r k])):=LL_appP (by rw [hkl]; simp; omega)
       simp (disch:=omega) only [vcd,hbn,ea]
       try rfl
      ·rw [← ed]
       by_cases hrr:3*(((r.length+1) / 3:Nat):Int)+1<r.length
       ·omega
       ·have kb:=bop_s (K:=K) (n:=n) (d:=dgRows r)
        simp (disch:=omega) only [vcd,hbn]
        refine call_by (kt) rfl ?_
        simp (disch:=omega) only [vcd]
        refine call_by (kb) rfl ?_
        cases hb:triF n (dgRows r)
        ·simp (disch:=omega) only [vcd]
         simp only [dgTR,dgTO,fin false hb]
         rfl
        ·simp (disch:=omega) only [vcd]
         simp only [dgTR,dgTO,fin true hb]
         rfl
    ·have eN:dgT s=none:=by simp [dgT,h2]
     simp (disch:=omega) only [vcd,hok]
     simp only [dgTR,dgTO,eN]
     rfl
   ·have eN:dgT s=none:=by simp [dgT,hok]
    simp (disch:=omega) only [vcd,hok]
    simp only [dgTR,dgTO,eN]
    rfl
  ·have eN:dgT s=none:=by
    have:¬ coF s+2≤s.length:=by omega
    simp [dgT,this]
   simp (disch:=omega) only [vcd]
   rw [esub]
   refine call_by (kp) rfl ?_
   by_cases hok:pOK (s.take (coF s))=true
   ·simp (disch:=omega) only [vcd,hok]
    simp only [dgTR,dgTO,eN]
    rfl
   ·simp (disch:=omega) only [vcd,hok]
    simp only [dgTR,dgTO,eN]
    rfl
end Go.Cat
