/-
 Triangulations of trees, both sides.
-/
import Derived.Test.YtdaefhflccndlaaGreatPfTri
set_option linter.unusedSimpArgs false
set_option linter.unusedVariables false
namespace Go.Cat
variable {K:Nat→List D→List D→Prop}
theorem no_s [HA K] {x:BT} (h:x.n≤8):K 162 [.s x.t] [.n x.n]:=by
 have hl:=BT.tl x
 refine body_by (f:=ir_spec_NodesOf) rfl ?_; simp only [ir_spec_NodesOf,zn,zs,zq,zi,zg,zp]
 simp (disch:=omega) only [vcd]
 refine call_by (isb_s (K:=K) (s:=x.t)) rfl ?_
 simp (disch:=omega) only [vcd,isB_yes h]
 exact Dn (by omega)
def tgF (x:BT):List (List Int):=srfF (dgI x 0 ((x.n:Int)+1))
theorem trg_i [HA K] {x:BT} (h:x.n≤8):K 536 [.s x.t] [LL (tgF x),.b true]:=by
 have hl:=dgI_len2 (x:=x) (l:=0) (r:=(x.n:Int)+1)
 refine body_by (f:=ir_impl_TriangulationOf) rfl ?_; simp only [ir_impl_TriangulationOf,zn,zs,zq,zi,zg,zp]
 simp (disch:=omega) only [vcd]
 refine call_by (pt_yes (K:=K) h) rfl ?_
 simp (disch:=omega) only [vcd,BT.known_d]
 refine call_by (nodes_ok (K:=K) x (by omega)) rfl ?_
 simp (disch:=omega) only [vcd,LL_nil]
 have kt:=tri_i (K:=K) (x:=x) (l:=0) (r:=(x.n:Int)+1) (c:=[]) (s:=[]) (by omega) (by omega) (by omega) (by omega) (by simp; omega) (by simp; omega)
 rw [List.nil_append,List.nil_append] at kt
 refine call_by (kt) rfl ?_
 simp (disch:=omega) only [vcd]
 refine call_by (sortf_ok (K:=K) (d:=dgI x 0 ((x.n:Int)+1)) (by omega) dgI_row) rfl ?_
 simp (disch:=omega) only [vcd]
 rfl
theorem bef_s [HA K] {x y:List Int} (hx:row2 x) (hy:row2 y):K 374 [LI x,LI y] [.b (ltR x y)]:=by
 have lx:x.length=2:=hx
 have ly:y.length=2:=hy
 refine body_by (f:=ir_spec_l7Before) rfl ?_; simp only [ir_spec_l7Before,zn,zs,zq,zi,zg,zp]
 simp (disch:=omega) only [vcd]
 by_cases h1:atI x 0<atI y 0
 ·simp (disch:=omega) only [vcd]
  simp [ltR,h1]
 ·by_cases h2:atI x 0=atI y 0
  ·simp (disch:=omega) only [vcd,h2]
   simp [ltR,h2]
  ·simp (disch:=omega) only [vcd]
   simp [ltR,h1,h2]
theorem atL_memT {b:List (List Int)} {i:Nat} (h:i<b.length):atL b i∈b:=by simp [atL,h]
theorem takeL {l:List (List Int)} {k:Nat} (h:k<l.length):l.take (k+1)=l.take k++[atL l k]:=by
 rw [qta h]; simp [atL,h]
theorem dropLL {l:List (List Int)} {k:Nat} (h:k<l.length):l.drop k=atL l k::l.drop (k+1):=by
 rw [List.drop_eq_getElem_cons h]; simp [atL,h]
theorem sub_tkL {l:List (List Int)} {k:Nat}:sub l 0 k=l.take k:=by simp [sub]
theorem sub_drL {l:List (List Int)} {k:Nat}:sub l k l.length=l.drop k:=by simp [sub]
theorem LL_toT {rs:List (List Int)} {j:Int} (h:0≤j∧j≤rs.length):subD (LL rs) none (some (.n j))=some (LL (sub rs 0 j)):=sub_map LI bound_none (bound_some (by omega)) (by omega) (by omega)
theorem put_s [HA K] {l:List (List Int)} {x:List Int} (hl:l.length≤100000) (hr:∀ z∈l,row2 z) (hx:row2 x):K 362 [LL l,LI x] [LL (insV x l.reverse).reverse]:=by
 refine body_by (f:=ir_spec_l7Put) rfl ?_; simp only [ir_spec_l7Put,zn,zs,zq,zi,zg,zp]
 simp (disch:=first|omega|simp only[vl];omega) only [vcd]
 refine loop_wh (fun (k:Nat)=>k≤l.length∧(insV x (l.take k).reverse).reverse++l.drop k=(insV x l.reverse).reverse) (fun k=>[LL l,LI x,.u,.n k,.u]) (fun k=>k) l.length ⟨Nat.le_refl _,by rw [List.take_length,List.drop_length,List.append_nil]⟩ rfl ?_
 intro k hk
 obtain ⟨h1,h2⟩:=hk
 cases k with
 | zero=>
  have e:sub l 0 (0:Int)=[]:=by simp [sub]
  have e2:sub l 0 (l.length:Int)=l:=by simp [sub]
  rw [List.take_zero,List.drop_zero] at h2
  simp (disch:=first|omega|simp only[vl];omega) only [vcd,LL_nil,ll_1,LL_appT,LL_toT,e,e2]
  rw [← h2]
  simp [insV]
 | succ k=>
  have hlt:k<l.length:=by omega
  have hz:=hr _ (atL_memT hlt)
  have kb:=bef_s (K:=K) hx hz
  have et:=takeL hlt
  rw [et,List.reverse_append,List.reverse_singleton,List.singleton_append] at h2
  simp (disch:=first|omega|simp only[vl];omega) only [vcd,qas]
  refine call_by (kb) rfl ?_
  cases hc:ltR x (atL l k)
  ·rw [insV,hc] at h2
   have e1:sub l 0 ((k:Int)+1)=l.take (k+1):=by rw [show (k:Int)+1=((k+1:Nat):Int) by omega,sub_tkL]
   have e2:sub l ((k:Int)+1) (l.length:Nat)=l.drop (k+1):=by rw [show (k:Int)+1=((k+1:Nat):Int) by omega,sub_drL]
   have e3:(l.take (k+1)).length=k+1:=by simp; omega
   have e4:(l.drop (k+1)).length≤l.length:=by simp
   simp (disch:=first|omega|simp only[vl];omega) only [vcd,qas,LL_nil,ll_1,LL_appT,LL_toT,e1,e2]
   rw [← h2,et]
   simp
  ·rw [insV,if_pos hc,List.reverse_cons,qaa,List.singleton_append,← dropLL hlt] at h2
   simp (disch:=first|omega|simp only[vl];omega) only [vcd,qas]
   exact ⟨k,by omega,⟨by omega,h2⟩,rfl⟩
def dgS (N:Int):BT→Int→Int→List (List Int)
 | .lf,_,_=>[]
 | .nd a b,l,r=>(if 1<r-l∧¬ (l=0∧r=N-1) then [[l,r]] else [])++(dgS N a l (l+1+a.n)++dgS N b (l+1+a.n) r)
theorem dgS_row {N:Int}:∀ {x:BT} {l r:Int},∀ z∈dgS N x l r,row2 z
 | .lf,_,_,z,h=>by simp [dgS] at h
 | .nd a b,l,r,z,h=>by
  simp only [dgS,qma] at h
  rcases h with h | h | h
  ·split at h
   ·simp at h; subst h; rfl
   ·cases h
  ·exact dgS_row z h
  ·exact dgS_row z h
theorem dgS_len {N:Int}:∀ {x:BT} {l r:Int},(dgS N x l r).length≤x.n
 | .lf,_,_=>by simp [dgS]
 | .nd a b,l,r=>by
  have h1:=dgS_len (N:=N) (x:=a) (l:=l) (r:=l+1+a.n)
  have h2:=dgS_len (N:=N) (x:=b) (l:=l+1+a.n) (r:=r)
  simp only [dgS,qla,BT.n]
  have:(if 1<r-l∧¬ (l=0∧r=N-1) then [[l,r]] else []).length≤1:=by split <;> simp
  omega
theorem dgS_perm {N:Int}:∀ {x:BT} {l r:Int},r=l+x.n+1→¬ (l=0∧r=N-1)→0≤l→r≤N-1→(dgS N x l r).Perm ((if x.isLf=true then [] else [[l,r]])++dgI x l r)
 | .lf,l,r,_,_,_,_=>by simp [dgS,dgI,BT.isLf]
 | .nd a b,l,r,e,hn,h0,hN=>by
  simp only [BT.n] at e
  have pa:=dgS_perm (N:=N) (x:=a) (l:=l) (r:=l+a.n+1) rfl (by omega) h0 (by omega)
  have pb:=dgS_perm (N:=N) (x:=b) (l:=l+a.n+1) (r:=r) (by omega) (by omega) (by omega) hN
  have em:l+1+(a.n:Int)=l+a.n+1:=by omega
  rw [show (BT.nd a b).isLf=false from rfl]
  simp only [dgS,dgI,em,qft,if_false]
  rw [if_pos ⟨by omega,hn⟩]
  refine List.Perm.append_left _ ?_
  refine (pa.append pb).trans ?_
  generalize (if a.isLf=true then [] else [[l,l+(a.n:Int)+1]])=A
  generalize (if b.isLf=true then [] else [[l+(a.n:Int)+1,r]])=B
  generalize dgI a l (l+a.n+1)=IA
  generalize dgI b (l+a.n+1) r=IB
  rw [qaa]
  refine List.Perm.append_left A ?_
  rw [← qaa,← qaa]
  exact List.Perm.append_right IB List.perm_append_comm
theorem dgS_top {x:BT}:(dgS ((x.n:Int)+2) x 0 ((x.n:Int)+1)).Perm (dgI x 0 ((x.n:Int)+1)):=by
 cases x with
 | lf=>simp [dgS,dgI]
 | nd a b=>
  have pa:=dgS_perm (N:=((BT.nd a b).n:Int)+2) (x:=a) (l:=0) (r:=0+(a.n:Int)+1) rfl (by simp only [BT.n]; omega) (by omega) (by simp only [BT.n]; omega)
  have pb:=dgS_perm (N:=((BT.nd a b).n:Int)+2) (x:=b) (l:=0+(a.n:Int)+1) (r:=((BT.nd a b).n:Int)+1) (by simp only [BT.n]; omega) (by omega) (by omega) (by omega)
  have em:(0:Int)+1+(a.n:Int)=0+a.n+1:=by omega
  rw [dgS,dgI,if_neg (by omega),List.nil_append,em]
  refine (pa.append pb).trans ?_
  generalize (if a.isLf=true then [] else [[(0:Int),0+(a.n:Int)+1]])=A
  generalize (if b.isLf=true then [] else [[0+(a.n:Int)+1,((BT.nd a b).n:Int)+1]])=B
  generalize dgI a 0 (0+a.n+1)=IA
  generalize dgI b (0+a.n+1) (((BT.nd a b).n:Int)+1)=IB
  rw [qaa]
  refine List.Perm.append_left A ?_
  rw [← qaa,← qaa]
  exact List.Perm.append_right IB List.perm_append_comm
theorem t_len {a b:BT}:(BT.nd a b).t.length=a.t.length+b.t.length+2:=by simp [BT.t]; omega
theorem t_a {a b:BT}:sub (BT.nd a b).t 1 (1+(a.t.length:Int))=a.t:=by
 have e:(1+(a.t.length:Int)).toNat=a.t.length+1:=by omega
 show (List.take (1+(a.t.length:Int)).toNat (BT.nd a b).t).drop (1:Int).toNat=_
 rw [e]
 simp [BT.t]
theorem t_b {a b:BT} {j:Int} (hj:j=(BT.nd a b).t.length-1):sub (BT.nd a b).t (1+(a.t.length:Int)) j=b.t:=by
 have e:(1+(a.t.length:Int)).toNat=(40::a.t).length:=by simp; omega
 have hl:=t_len (a:=a) (b:=b)
 have e2:j.toNat=(40::a.t++b.t).length:=by simp; omega
 have e3:(BT.nd a b).t=(40::a.t++b.t)++[41]:=by simp [BT.t]
 show (List.take j.toNat (BT.nd a b).t).drop (1+(a.t.length:Int)).toNat=_
 rw [e,e2,e3,List.take_left,List.drop_left]
theorem le_1 [HA K] {a b:BT} (h:(BT.nd a b).n≤1000000):K 188 [.s (BT.nd a b).t,.n 1] [.n (1+a.t.length)]:=by
 have hl:=BT.tl (.nd a b)
 exact le_yes (K:=K) (s:=(BT.nd a b).t) (by omega) a 1 (b.t++[41]) (by simp [BT.t])
theorem nd_ne {a b:BT}:((BT.nd a b).t == [46])=false:=by simp [BT.t]
theorem cutd_s [HA K]:∀ {x:BT} {l r N:Int} {d:List (List Int)},x.n≤8→0≤l→l+x.n≤1000→0≤r→r≤1000→0≤N→N≤1000→d.length+x.n≤100000→(∀ z∈d,row2 z)→
  K 540 [.s x.t,.n l,.n r,LL d,.n N] [LL ((dgS N x l r).foldl (fun t x=>insV x t) d.reverse).reverse]
 | .lf,l,r,N,d,_,_,_,_,_,_,_,_,_=>by
  refine body_by (f:=ir_spec_l7Cut) rfl ?_; simp only [ir_spec_l7Cut,zn,zs,zq,zi,zg,zp]
  simp only [BT.t,dgS,List.foldl_nil,List.reverse_reverse]
  simp (disch:=omega) only [vcd]
 | .nd a b,l,r,N,d,h,h0,h1,h2,h3,h4,h5,h6,hr=>by
  have h':=h
  simp only [BT.n] at h h1 h6
  have hl:=t_len (a:=a) (b:=b)
  have ta:=BT.tl a
  have tb:=BT.tl b
  have ea:=t_a (a:=a) (b:=b)
  have eb:=t_b (a:=a) (b:=b) (j:=(BT.nd a b).t.length-1) rfl
  have kn:=no_s (K:=K) (x:=a) (by omega)
  have ke:=le_1 (K:=K) (a:=a) (b:=b) (by simp only [BT.n]; omega)
  have la:=dgS_len (N:=N) (x:=a) (l:=l) (r:=l+1+a.n)
  have ra:=dgS_row (N:=N) (x:=a) (l:=l) (r:=l+1+a.n)
  have e0:=nd_ne (a:=a) (b:=b)
  obtain ⟨d1,hd1⟩:∃ d1,d1=(if 1<r-l∧¬ (l=0∧r=N-1) then (insV [l,r] d.reverse).reverse else d):=⟨_,rfl⟩
  have hd1l:d1.length≤d.length+1:=by rw [hd1]; split <;> simp [insV_len]
  have hd1r:∀ z∈d1,row2 z:=by
   intro z hz
   rw [hd1] at hz
   split at hz
   ·rw [List.mem_reverse,insV_mem,List.mem_reverse] at hz
    rcases hz with hz | hz
    ·rw [hz]; rfl
    ·exact hr z hz
   ·exact hr z hz
  have hfin:(dgS N (.nd a b) l r).foldl (fun t x=>insV x t) d.reverse=(dgS N b (l+1+a.n) r).foldl (fun t x=>insV x t) ((dgS N a l (l+1+a.n)).foldl (fun t x=>insV x t) d1.reverse):=by
   rw [dgS,List.foldl_append,List.foldl_append,hd1]
   congr 2
   split
   ·rw [List.reverse_reverse]; rfl
   ·rfl
  rw [hfin]
  obtain ⟨d2,hd2⟩:∃ d2,d2=((dgS N a l (l+1+a.n)).foldl (fun t x=>insV x t) d1.reverse).reverse:=⟨_,rfl⟩
  have hd2l:d2.length=d1.length+(dgS N a l (l+1+a.n)).length:=by rw [hd2,List.length_reverse,fold_len,List.length_reverse]
  have hd2r:∀ z∈d2,row2 z:=by
   intro z hz
   rw [hd2,List.mem_reverse,fold_mem,List.mem_reverse] at hz
   rcases hz with hz | hz
   ·exact ra z hz
   ·exact hd1r z hz
  have ka:=cutd_s (x:=a) (l:=l) (r:=l+1+a.n) (N:=N) (d:=d1) (by omega) h0 (by omega) (by omega) (by omega) h4 h5 (by omega) hd1r
  have kb:=cutd_s (x:=b) (l:=l+1+a.n) (r:=r) (N:=N) (d:=d2) (by omega) (by omega) (by omega) h2 h3 h4 h5 (by omega) hd2r
  rw [← hd2] at ka
  have hd2':(dgS N a l (l+1+a.n)).foldl (fun t x=>insV x t) d1.reverse=d2.reverse:=by rw [hd2,List.reverse_reverse]
  rw [hd2']
  generalize hw:(BT.nd a b).t=w at hl ea eb ke e0
  refine body_by (f:=ir_spec_l7Cut) rfl ?_; simp only [ir_spec_l7Cut,zn,zs,zq,zi,zg,zp]
  by_cases hc:1<r-l∧¬ (l=0∧r=N-1)
  ·rw [if_pos hc] at hd1
   have kp:=put_s (K:=K) (l:=d) (x:=[l,r]) (by omega) hr rfl
   rw [← hd1] at kp
   obtain ⟨c1,c2⟩:=hc
   by_cases c3:l=0
   ·have c4:¬ r=N-1:=fun q=>c2 ⟨c3,q⟩
    simp (disch:=omega) only [vcd,e0,li_2]
    refine call_by (kp) rfl ?_
    simp (disch:=omega) only [vcd]
    refine call_by (ke) rfl ?_
    simp (disch:=omega) only [vcd,ea]
    refine call_by (kn) rfl ?_
    simp (disch:=omega) only [vcd,ea]
    refine call_by (ka) rfl ?_
    simp (disch:=omega) only [vcd,eb]
    refine call_by (kb) rfl ?_
    simp (disch:=omega) only [vcd]
   ·simp (disch:=omega) only [vcd,e0,li_2]
    refine call_by (kp) rfl ?_
    simp (disch:=omega) only [vcd]
    refine call_by (ke) rfl ?_
    simp (disch:=omega) only [vcd,ea]
    refine call_by (kn) rfl ?_
    simp (disch:=omega) only [vcd,ea]
    refine call_by (ka) rfl ?_
    simp (disch:=omega) only [vcd,eb]
    refine call_by (kb) rfl ?_
    simp (disch:=omega) only [vcd]
  ·rw [if_neg hc] at hd1
   subst hd1
   by_cases c1:1<r-l
   ·have c3:l=0:=by
     refine Classical.byContradiction fun q=>hc ⟨c1,fun q2=>q q2.1⟩
    have c4:r=N-1:=by
     refine Classical.byContradiction fun q=>hc ⟨c1,fun q2=>q q2.2⟩
    simp (disch:=omega) only [vcd,e0]
    refine call_by (ke) rfl ?_
    simp (disch:=omega) only [vcd,ea]
    refine call_by (kn) rfl ?_
    simp (disch:=omega) only [vcd,ea]
    refine call_by (ka) rfl ?_
    simp (disch:=omega) only [vcd,eb]
    refine call_by (kb) rfl ?_
    simp (disch:=omega) only [vcd]
   ·simp (disch:=omega) only [vcd,e0]
    refine call_by (ke) rfl ?_
    simp (disch:=omega) only [vcd,ea]
    refine call_by (kn) rfl ?_
    simp (disch:=omega) only [vcd,ea]
    refine call_by (ka) rfl ?_
    simp (disch:=omega) only [vcd,eb]
    refine call_by (kb) rfl ?_
    simp (disch:=omega) only [vcd]
theorem trg_s [HA K] {x:BT} (h:x.n≤8):K 531 [.s x.t] [LL (tgF x),.b true]:=by
 have kc:=cutd_s (K:=K) (x:=x) (l:=0) (r:=(x.n:Int)+1) (N:=(x.n:Int)+2) (d:=[]) h (by omega) (by omega) (by omega) (by omega) (by omega) (by omega) (by simp; omega) (by simp)
 have e:((dgS ((x.n:Int)+2) x 0 ((x.n:Int)+1)).foldl (fun t x=>insV x t) ([]:List (List Int)).reverse).reverse=tgF x:=by
  have:=srtF_perm (dgS_top (x:=x)) dgS_row
  rw [tgF,← this]; rfl
 rw [e] at kc
 refine body_by (f:=ir_spec_TriangulationOf) rfl ?_; simp only [ir_spec_TriangulationOf,zn,zs,zq,zi,zg,zp]
 simp (disch:=omega) only [vcd]
 refine call_by (isb_s (K:=K) (s:=x.t)) rfl ?_
 simp (disch:=omega) only [vcd,isB_yes h]
 refine call_by (no_s (K:=K) h) rfl ?_
 have e2:(x.n:Int)+2-1=(x.n:Int)+1:=by omega
 simp (disch:=omega) only [vcd,LL_nil,e2]
 refine call_by (kc) rfl ?_
 simp (disch:=omega) only [vcd]
end Go.Cat
