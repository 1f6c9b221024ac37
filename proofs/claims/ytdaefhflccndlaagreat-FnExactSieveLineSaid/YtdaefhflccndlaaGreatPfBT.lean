/-
 Binary trees and paths.
-/
import Derived.Test.YtdaefhflccndlaaGreatPfTree
import Derived.Test.YtdaefhflccndlaaGreatPfStat
import Derived.Test.YtdaefhflccndlaaGreatIrHas
set_option linter.unusedSimpArgs false
set_option linter.unusedVariables false
namespace Go.Cat
variable {K:Nat→List D→List D→Prop}
def BT.p:BT→List Nat
 | .lf=>[]
 | .nd l r=>117::(l.p++100::r.p)
theorem BT.pl:∀ x:BT,x.p.length=2*x.n
 | .lf=>rfl
 | .nd l r=>by
  have:=BT.pl l
  have:=BT.pl r
  simp only [BT.p,BT.n,qlc,qla]; omega
theorem walk_p:∀ (x:BT) (r:List Nat) (h:Int),0≤h→walkH (x.p++r) h=walkH r h
 | .lf,r,h,_=>rfl
 | .nd a b,r,h,h0=>by
  simp only [BT.p,List.cons_append,qaa]
  rw [walkH,if_pos rfl,walk_p a _ _ (by omega),walkH,if_neg (by omega),if_pos rfl,if_neg (by omega),walk_p b _ _ (by omega)]
  congr 1; omega
theorem walk_p0 (x:BT):walkH x.p 0=some 0:=by
 have:=walk_p x [] 0 (by omega)
 rw [List.append_nil] at this
 rw [this]; rfl
theorem dyck_p {x:BT} (h:x.n≤8):dyck x.p=true:=by
 have:=BT.pl x
 simp only [dyck,walk_p0,qba,qde]
 exact ⟨trivial,by omega⟩
theorem ex_down:∀ (n:Nat) (w:List Nat) (k:Int),w.length≤n→0≤k→walkH w (k+1)=some 0→∃ (x:BT) (b:List Nat),w=x.p++100::b∧walkH b k=some 0
 | _,[],k,_,hk,h=>by simp [walkH] at h; omega
 | 0,c::w,k,hl,_,_=>by simp at hl
 | n+1,c::w,k,hl,hk,h=>by
  simp only [qlc] at hl
  simp only [walkH] at h
  by_cases hu:c=117
  ·rw [if_pos hu] at h
   obtain ⟨l,b1,e1,h1⟩:=ex_down n w (k+1) (by omega) (by omega) h
   have hb:b1.length≤n:=by
    have:=congrArg List.length e1
    simp only [qla,qlc] at this
    omega
   obtain ⟨r,b2,e2,h2⟩:=ex_down n b1 k hb hk h1
   refine ⟨.nd l r,b2,?_,h2⟩
   rw [hu,e1,e2]
   simp [BT.p]
  ·rw [if_neg hu] at h
   by_cases hd:c=100
   ·rw [if_pos hd,if_neg (by omega)] at h
    refine ⟨.lf,w,by simp [BT.p,hd],?_⟩
    rw [← h]; congr 1; omega
   ·rw [if_neg hd] at h; cases h
theorem ex_tree:∀ (n:Nat) (w:List Nat),w.length≤n→walkH w 0=some 0→∃ x:BT,w=x.p
 | _,[],_,_=>⟨.lf,rfl⟩
 | 0,c::w,hl,_=>by simp at hl
 | n+1,c::w,hl,h=>by
  simp only [qlc] at hl
  simp only [walkH] at h
  by_cases hu:c=117
  ·rw [if_pos hu] at h
   obtain ⟨l,b,e1,h1⟩:=ex_down n w 0 (by omega) (by omega) h
   have hb:b.length≤n:=by
    have:=congrArg List.length e1
    simp only [qla,qlc] at this
    omega
   obtain ⟨r,e2⟩:=ex_tree n b hb h1
   exact ⟨.nd l r,by rw [hu,e1,e2]; rfl⟩
  ·rw [if_neg hu] at h
   by_cases hd:c=100
   ·rw [if_pos hd,if_pos (by omega)] at h; cases h
   ·rw [if_neg hd] at h; cases h
theorem ex_p {w:List Nat} (hd:dyck w=true):∃ x:BT,w=x.p∧x.n≤8:=by
 simp only [dyck,qba,qde] at hd
 obtain ⟨x,e⟩:=ex_tree w.length w (Nat.le_refl _) hd.1
 have:=BT.pl x
 exact ⟨x,e,by rw [← e] at this; omega⟩
theorem BT.ppre:∀ {x y:BT} {a b:List Nat},x.p++100::a=y.p++100::b→x=y∧a=b
 | .lf,.lf,a,b,h=>by simpa [BT.p] using h
 | .lf,.nd _ _,a,b,h=>by simp [BT.p] at h
 | .nd _ _,.lf,a,b,h=>by simp [BT.p] at h
 | .nd l r,.nd l' r',a,b,h=>by
  simp only [BT.p,List.cons_append,qaa,List.cons.injEq,true_and] at h
  obtain ⟨h1,h2⟩:=BT.ppre h
  obtain ⟨h3,h4⟩:=BT.ppre h2
  subst h1; subst h3
  exact ⟨rfl,h4⟩
theorem BT.pinj {x y:BT} (h:x.p=y.p):x=y:=(BT.ppre (a:=[]) (b:=[]) (by rw [h])).1
open Classical in
noncomputable def btF (w:List Nat):BT:=if h:∃ x:BT,w=x.p then h.choose else .lf
theorem btF_p {x:BT}:btF x.p=x:=by
 have h:∃ y:BT,x.p=y.p:=⟨x,rfl⟩
 simp only [btF,dif_pos h]
 exact (BT.pinj h.choose_spec).symm
theorem hp_0 {x:BT} {i:Nat} (h:i≤2*x.n):0≤Hh x.p i:=by
 have h1:=(walkH_iff x.p 0 0 (Int.le_refl _)).1 (walk_p0 x)
 have:=h1.2.1 i (by rw [BT.pl]; exact h)
 omega
theorem hp_l {x:BT}:Hh x.p (2*x.n)=0:=by
 have h1:=(walkH_iff x.p 0 0 (Int.le_refl _)).1 (walk_p0 x)
 have:=h1.2.2
 rw [BT.pl] at this
 omega
theorem hp_in {l r:BT} {i:Nat} (h:i≤2*l.n):Hh (BT.nd l r).p (i+1)=1+Hh l.p i:=by
 simp only [BT.p]
 rw [Hh_cons,Hh_app1 (by rw [BT.pl]; exact h)]
 simp
theorem hp_e {l r:BT}:Hh (BT.nd l r).p (2*l.n+2)=0:=by
 simp only [BT.p]
 rw [Hh_cons,show 2*l.n+1=l.p.length+1 by rw [BT.pl],Hh_app2,BT.pl,hp_l,Hh_cons,Hh_0]
 simp
theorem hp_pos {l r:BT} {i:Nat} (h0:1≤i) (h:i≤2*l.n+1):0<Hh (BT.nd l r).p i:=by
 obtain ⟨j,rfl⟩:∃ j,i=j+1:=⟨i-1,by omega⟩
 rw [hp_in (by omega)]
 have:=hp_0 (x:=l) (i:=j) (by omega)
 omega
theorem hp_a {l r:BT}:sub (BT.nd l r).p 1 ((2*l.n+2:Nat)-1:Int)=l.p:=by
 have e:(((2*l.n+2:Nat):Int)-1).toNat=l.p.length+1:=by rw [BT.pl]; omega
 show (List.take (((2*l.n+2:Nat):Int)-1).toNat (BT.nd l r).p).drop (1:Int).toNat=_
 rw [e]
 simp [BT.p]
theorem hp_b {l r:BT} {j:Int} (hj:j=2*(l.n+r.n+1)):sub (BT.nd l r).p ((2*l.n+2:Nat):Int) j=r.p:=by
 have e:(2*l.n+2)=l.p.length+1+1:=by rw [BT.pl]
 have e1:(BT.nd l r).p=(117::l.p++[100])++r.p:=by simp [BT.p]
 have e2:(117::l.p++[100]).length=2*l.n+2:=by simp [BT.pl]
 have e3:j.toNat=(BT.nd l r).p.length:=by rw [BT.pl,BT.n]; omega
 simp only [sub,e3,List.take_length,qtn]
 rw [e1,← e2,List.drop_left]
theorem fr_i [HA K] {l r:BT} (h:(BT.nd l r).n≤8):K 519 [.s (BT.nd l r).p] [.s l.p,.s r.p,.b true]:=by
 have hd:=dyck_p h
 have hl:=BT.pl (.nd l r)
 simp only [BT.n] at h hl
 have hlen:=hL_len (w:=(BT.nd l r).p)
 have e0:((BT.nd l r).p == [])=false:=by simp [BT.p]
 have ea:=hp_a (l:=l) (r:=r)
 have eb:=hp_b (l:=l) (r:=r) (j:=((BT.nd l r).p.length:Nat)) (by omega)
 generalize hw:(BT.nd l r).p=w at hd hl hlen e0 ea eb ⊢
 refine body_by (f:=ir_impl_FirstReturn) rfl ?_; simp only [ir_impl_FirstReturn,zn,zs,zq,zi,zg,zp]
 simp (disch:=omega) only [vcd]
 repeat (first | (refine call_by (dyck_i (K:=K) (w:=w) (by omega)) rfl ?_; try simp (disch:=omega) only [vcd,hd,e0]))
 refine call_by (ho_i (K:=K) hd) rfl ?_
 simp (disch:=omega) only [vcd]
 refine loop_wh (fun (i:Nat)=>1≤i∧i≤2*l.n+2) (fun i=>[.s w,.u,.u,.u,LI (hL w),.n i,.u,.u]) (fun i=>2*l.n+2-i) 1 (by omega) rfl ?_
 intro i hi
 have e:=hL_at (w:=w) (i:=i) (by omega)
 by_cases q:i=2*l.n+2
 ·have e1:Hh w i=0:=by rw [← hw,q]; exact hp_e
  rw [e1] at e
  simp (disch:=omega) only [vcd,e]
  subst q
  rw [ea,eb]
 ·have e1:0<Hh w i:=by rw [← hw]; exact hp_pos hi.1 (by omega)
  simp (disch:=omega) only [vcd,e]
  exact ⟨i+1,by omega,by omega,by simp⟩
theorem fr_i0 [HA K]:K 519 [.s []] [.s [],.s [],.b false]:=by
 refine body_by (f:=ir_impl_FirstReturn) rfl ?_; simp only [ir_impl_FirstReturn,zn,zs,zq,zi,zg,zp]
 simp (disch:=omega) only [vcd]
 repeat (first | (refine call_by (dyck_i (K:=K) (w:=[]) (by simp)) rfl ?_; try simp (disch:=omega) only [vcd,show dyck []=true from rfl]))
theorem top_i [HA K]:∀ {x:BT},x.n≤8→K 514 [.s x.p] [x.d]
 | .lf,_=>by
  refine body_by (f:=ir_impl_treeOfPath) rfl ?_; simp only [ir_impl_treeOfPath,zn,zs,zq,zi,zg,zp]
  simp only [BT.p]
  simp (disch:=omega) only [vcd]
  refine call_by (fr_i0 (K:=K)) rfl ?_
  simp (disch:=omega) only [vcd]
  rfl
 | .nd l r,h=>by
  have h':=h
  simp only [BT.n] at h'
  have k1:=top_i (x:=l) (by omega)
  have k2:=top_i (x:=r) (by omega)
  refine body_by (f:=ir_impl_treeOfPath) rfl ?_; simp only [ir_impl_treeOfPath,zn,zs,zq,zi,zg,zp]
  simp (disch:=omega) only [vcd]
  refine call_by (fr_i (K:=K) h) rfl ?_
  simp (disch:=omega) only [vcd]
  refine call_by (k1) rfl ?_
  simp (disch:=omega) only [vcd]
  refine call_by (k2) rfl ?_
  simp (disch:=omega) only [vcd,BT.one_d]
  rfl
theorem text_ok [HA K]:∀ {x:BT},x.n≤100000→K 196 [x.d] [.s x.t]
 | .lf,_=>by
  refine body_by (f:=ir_impl_tree_text) rfl ?_; simp only [ir_impl_tree_text,zn,zs,zq,zi,zg,zp]
  simp only [BT.d,BT.t]
  simp (disch:=first|omega|simp only[vl];omega) only [vcd]
 | .nd l r,h=>by
  have h':=h
  simp only [BT.n] at h'
  have k1:=text_ok (x:=l) (by omega)
  have k2:=text_ok (x:=r) (by omega)
  have t1:=BT.tl l
  have t2:=BT.tl r
  refine body_by (f:=ir_impl_tree_text) rfl ?_; simp only [ir_impl_tree_text,zn,zs,zq,zi,zg,zp]
  simp only [BT.d,BT.t]
  simp (disch:=first|omega|simp only[vl];omega) only [vcd,BT.known_d,b_ft]
  refine call_by (k1) rfl ?_
  simp (disch:=first|omega|simp only[vl];omega) only [vcd,BT.known_d]
  refine call_by (k2) rfl ?_
  simp (disch:=first|omega|simp only[vl];omega) only [vcd]
  simp
theorem cut_s [HA K] {l r:BT} (h:(BT.nd l r).n≤8):K 518 [.s (BT.nd l r).p] [.n (2*l.n+1:Nat)]:=by
 have hd:=dyck_p h
 have hD:=DY_of hd
 have hl:=BT.pl (.nd l r)
 simp only [BT.n] at h hl
 have h1:∀ i:Nat,1≤i→i≤2*l.n+1→0<Hh (BT.nd l r).p i:=fun i q1 q2=>hp_pos q1 q2
 have h2:=hp_e (l:=l) (r:=r)
 generalize hw:(BT.nd l r).p=w at hd hD hl h1 h2 ⊢
 have h2:Hh w (2*l.n+1+1)=0:=h2
 have hcl:2*l.n+1<w.length:=by omega
 generalize 2*l.n+1=c at h1 h2 hcl ⊢
 refine body_by (f:=ir_spec_l2Cut) rfl ?_; simp only [ir_spec_l2Cut,zn,zs,zq,zi,zg,zp]
 simp (disch:=omega) only [vcd]
 refine loop_wh (fun (i:Nat)=>i≤c) (fun i=>[.s w,.u,.n (Hh w i),.n i,.u,.u,.u]) (fun i=>c+1-i) 0 (by omega) (by simp [Hh_0]) ?_
 intro i hi
 have hb:=Hh_bd (w:=w) (i:=i)
 have hs:i<w.length:=by omega
 by_cases q:i=c
 ·subst q
  rcases hD.ud _ hs with hu | hu
  ·rw [Hh_up hs hu] at h2
   have:=h1 i
   by_cases q0:i=0
   ·subst q0; rw [Hh_0] at h2; omega
   ·have:=h1 i (by omega) (by omega); omega
  ·rw [Hh_dn hs hu] at h2
   simp (disch:=omega) only [vcd,hu]
 ·have e1:=h1 (i+1) (by omega) (by omega)
  rcases hD.ud _ hs with hu | hu
  ·rw [Hh_up hs hu] at e1
   have e2:=Hh_up hs hu
   simp (disch:=omega) only [vcd,hu]
   exact ⟨i+1,by omega,by omega,by rw [e2]; simp⟩
  ·rw [Hh_dn hs hu] at e1
   have e2:=Hh_dn hs hu
   simp (disch:=omega) only [vcd,hu]
   exact ⟨i+1,by omega,by omega,by rw [e2]; simp⟩
theorem l6b_ok [HA K]:∀ {x:BT},x.n≤8→K 513 [.s x.p] [.s x.t]
 | .lf,_=>by
  refine body_by (f:=ir_spec_l6Binary) rfl ?_; simp only [ir_spec_l6Binary,zn,zs,zq,zi,zg,zp]
  simp only [BT.p,BT.t]
  simp (disch:=first|omega|simp only[vl];omega) only [vcd]
 | .nd l r,h=>by
  have h':=h
  simp only [BT.n] at h'
  have k1:=l6b_ok (x:=l) (by omega)
  have k2:=l6b_ok (x:=r) (by omega)
  have t1:=BT.tl l
  have t2:=BT.tl r
  have hl:=BT.pl (.nd l r)
  simp only [BT.n] at hl
  have kc:=cut_s (K:=K) h
  have e0:((BT.nd l r).p == [])=false:=by simp [BT.p]
  have ea:=hp_a (l:=l) (r:=r)
  have ea2:sub (BT.nd l r).p 1 ((2*l.n+1:Nat):Int)=l.p:=by rw [← ea]; congr 1; omega
  have eb:=hp_b (l:=l) (r:=r) (j:=((BT.nd l r).p.length:Nat)) (by omega)
  have eb2:sub (BT.nd l r).p (((2*l.n+1:Nat):Int)+1) ((BT.nd l r).p.length:Nat)=r.p:=by rw [← eb]; congr 1
  generalize hw:(BT.nd l r).p=w at kc hl e0 ea2 eb2 ⊢
  have hcl:2*l.n+1<w.length:=by omega
  have hcl2:w.length≤16:=by omega
  have hc1:1≤2*l.n+1:=by omega
  generalize 2*l.n+1=c at kc ea2 eb2 hcl hc1
  refine body_by (f:=ir_spec_l6Binary) rfl ?_; simp only [ir_spec_l6Binary,zn,zs,zq,zi,zg,zp]
  simp (disch:=first|omega|simp only[vl];omega) only [vcd,e0]
  refine call_by (kc) rfl ?_
  simp (disch:=first|omega|simp only[vl];omega) only [vcd]
  rw [ea2]
  refine call_by (k1) rfl ?_
  simp (disch:=first|omega|simp only[vl];omega) only [vcd]
  rw [eb2]
  refine call_by (k2) rfl ?_
  simp (disch:=first|omega|simp only[vl];omega) only [vcd]
  simp [BT.t]
end Go.Cat
