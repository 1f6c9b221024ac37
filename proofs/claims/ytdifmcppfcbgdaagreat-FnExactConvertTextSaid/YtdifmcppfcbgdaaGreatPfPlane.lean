/-
 Plane trees: parents in preorder.
-/
import Derived.Test.YtdifmcppfcbgdaaGreatPfStat
import Derived.Test.YtdifmcppfcbgdaaGreatIrHas
import Derived.Test.YtdifmcppfcbgdaaGreatPfPerm
set_option linter.unusedSimpArgs false
set_option linter.unusedVariables false
namespace Go.Cat
variable {K:Nat→List D→List D→Prop}
def plT:List Nat→List Int→List Int→List Int
 | [],out,_=>out
 | c::w,out,st=>if c=100 then plT w out st.tail else plT w (out++[st.headD 0]) ((out.length:Int)::st)
def plF (w:List Nat):List Int:=plT w [-1] [0]
theorem plT_len:∀ {w:List Nat} {out st:List Int},out.length≤(plT w out st).length∧(plT w out st).length≤out.length+w.length
 | [],_,_=>by simp [plT]
 | c::w,out,st=>by
  unfold plT
  split
  ·have:=plT_len (w:=w) (out:=out) (st:=st.tail)
   simp only [qlc]; omega
  ·have:=plT_len (w:=w) (out:=out++[st.headD 0]) (st:=(out.length:Int)::st)
   simp only [qlc,qla,qln] at this ⊢; omega
theorem plo_i [HA K] {w:List Nat} (hd:dyck w=true):K 510 [.s w] [LI (plF w),.b true]:=by
 have hD:=DY_of hd
 have hl:=hD.l
 refine body_by (f:=ir_impl_PlaneOf) rfl ?_; simp only [ir_impl_PlaneOf,zn,zs,zq,zi,zg,zp]
 simp (disch:=first|omega|simp only[vl];omega) only [vcd]
 repeat (first | (refine call_by (dyck_i (K:=K) (w:=w) (by omega)) rfl ?_; try simp (disch:=first|omega|simp only[vl];omega) only [vcd,hd]))
 refine loop_up (fun i (x:List Int×List Int)=>plT (w.drop i) x.1 x.2=plF w∧(x.2.length:Int)=Hh w i+1∧x.1.length≤i+1∧1≤x.1.length) (fun i x=>[.s w,.u,.u,LI x.1,LI x.2.reverse,.n i,.u,.u,.u]) w.length ([-1],[0]) ⟨by simp [plF],by simp [Hh_0],by simp,by simp⟩ rfl (fun i x hi hP=>?_) (fun x hP=>?_)
 ·obtain ⟨out,st⟩:=x
  obtain ⟨g1,g2,g3,g4⟩:=hP
  simp only at g1 g2 g3 g4
  rw [dropB hi] at g1
  have hb:=Hh_bd (w:=w) (i:=i)
  have h1:=hD.h0 (i+1) (by omega)
  have h0:=hD.h0 i (by omega)
  cases st with
  | nil=>simp at g2; omega
  | cons x t=>
   have hl2:(t.reverse).length=t.length:=by simp
   have e1:atI (t.reverse++[x]) t.length=x:=by rw [← hl2]; exact at_last
   have e2:sub (t.reverse++[x]) 0 t.length=t.reverse:=by rw [← hl2]; exact sub_init
   have e3:(((t.reverse++[x]).length:Nat):Int)=(t.length:Int)+1:=by simp
   simp only [qlc] at g2
   simp only [List.reverse_cons]
   rcases hD.ud i hi with hu | hu
   ·have eh:=Hh_up hi hu
    rw [hu] at g1
    simp only [plT,List.headD_cons] at g1
    rw [if_neg (by omega)] at g1
    simp (disch:=first|omega|simp only[vl];omega) only [vcd,hu,e3,e1,qas]
    refine ⟨(out++[x],(out.length:Int)::x::t),⟨g1,by simp; omega,by simp; omega,by simp⟩,?_⟩
    simp
   ·have eh:=Hh_dn hi hu
    rw [hu] at g1
    simp only [plT,if_true,List.tail_cons] at g1
    simp (disch:=first|omega|simp only[vl];omega) only [vcd,hu,e3,e2,qas]
    exact ⟨(out,t),⟨g1,by simp only; omega,by simp only; omega,g4⟩,rfl⟩
 ·obtain ⟨out,st⟩:=x
  obtain ⟨g1,_⟩:=hP
  rw [List.drop_length] at g1
  simp only [plT] at g1
  simp (disch:=first|omega|simp only[vl];omega) only [vcd]
  rw [← g1]
def CH (out:List Int):List Int→Prop
 | []=>True
 | [x]=>0≤x∧x<out.length
 | x::y::t=>(0≤x∧x<out.length∧atI out x=y)∧CH out (y::t)
theorem atI_app {out:List Int} {x z:Int} (h:0≤x∧x<out.length):atI (out++[z]) x=atI out x:=by
 simp only [atI,qgd]
 rw [qgl (by omega)]
theorem CH_app {out:List Int} {q:Int}:∀ {st:List Int},CH out st→CH (out++[q]) st
 | [],_=>trivial
 | [x],h=>by
  simp only [CH,qla,qlc,qln] at h ⊢; omega
 | x::y::t,h=>by
  obtain ⟨⟨h1,h2,h3⟩,h4⟩:=h
  refine ⟨⟨h1,by simp; omega,?_⟩,CH_app h4⟩
  rw [atI_app ⟨h1,h2⟩,h3]
theorem CH_head {out:List Int} {x:Int} {t:List Int} (h:CH out (x::t)):0≤x∧x<out.length:=by
 cases t with
 | nil=>exact h
 | cons y t=>exact ⟨h.1.1,h.1.2.1⟩
theorem plo_s [HA K] {w:List Nat} (hd:dyck w=true):K 299 [.s w] [LI (plF w),.b true]:=by
 have hD:=DY_of hd
 have hl:=hD.l
 refine body_by (f:=ir_spec_PlaneOf) rfl ?_; simp only [ir_spec_PlaneOf,zn,zs,zq,zi,zg,zp]
 simp (disch:=first|omega|simp only[vl];omega) only [vcd]
 refine loop_up (fun i (x:List Int×Int×List Int)=>plT (w.drop i) x.1 (x.2.1::x.2.2)=plF w∧(x.2.2.length:Int)=Hh w i∧x.1.length≤i+1∧CH x.1 (x.2.1::x.2.2)) (fun i x=>[.s w,.u,.u,LI x.1,.n x.2.1,.n i,.u,.u,.u]) w.length ([-1],0,[]) ⟨by simp [plF],by simp [Hh_0],by simp,by simp [CH]⟩ rfl (fun i x hi hP=>?_) (fun x hP=>?_)
 ·obtain ⟨out,x,t⟩:=x
  obtain ⟨g1,g2,g3,g4⟩:=hP
  simp only at g1 g2 g3 g4
  rw [dropB hi] at g1
  have hx:=CH_head g4
  have hb:=Hh_bd (w:=w) (i:=i)
  have h1:=hD.h0 (i+1) (by omega)
  rcases hD.ud i hi with hu | hu
  ·have eh:=Hh_up hi hu
   rw [hu] at g1
   simp only [plT,List.headD_cons] at g1
   rw [if_neg (by omega)] at g1
   simp (disch:=first|omega|simp only[vl];omega) only [vcd]
   repeat (first | (refine call_by (dyck_s (K:=K) (w:=w) (by omega)) rfl ?_; try simp (disch:=first|omega|simp only[vl];omega) only [vcd,hd,hu]))
   refine ⟨(out++[x],(out.length:Int),x::t),⟨g1,by simp; omega,by simp; omega,?_⟩,?_⟩
   ·refine ⟨⟨by show (0:Int)≤(out.length:Int); omega,by show ((out.length:Nat):Int)<(((out++[x]).length:Nat):Int); simp; omega,?_⟩,CH_app g4⟩
    simp [atI]
   ·simp
  ·have eh:=Hh_dn hi hu
   rw [hu] at g1
   simp only [plT,if_true,List.tail_cons] at g1
   cases t with
   | nil=>simp at g2; omega
   | cons y t=>
    obtain ⟨⟨_,_,hy⟩,g5⟩:=g4
    simp only [qlc] at g2
    simp (disch:=first|omega|simp only[vl];omega) only [vcd]
    repeat (first | (refine call_by (dyck_s (K:=K) (w:=w) (by omega)) rfl ?_; try simp (disch:=first|omega|simp only[vl];omega) only [vcd,hd,hu]))
    exact ⟨(out,y,t),⟨g1,by simp only; omega,by simp only; omega,g5⟩,by rw [hy]⟩
 ·obtain ⟨out,x,t⟩:=x
  obtain ⟨g1,_⟩:=hP
  rw [List.drop_length] at g1
  simp only [plT] at g1
  simp (disch:=first|omega|simp only[vl];omega) only [vcd]
  repeat (first | (refine call_by (dyck_s (K:=K) (w:=w) (by omega)) rfl ?_; try simp (disch:=first|omega|simp only[vl];omega) only [vcd,hd]))
  rw [← g1]
def ancB (p:List Int):Nat→Int→Int→Bool
 | 0,_,_=>false
 | f+1,v,t=>if v<0 then false else if v=t then true else ancB p f (atI p v) t
def plV (p:List Int) (i:Nat):Prop:=∀ j:Nat,j<i→(j=0∧atI p 0=-1)∨(0<j∧ancB p (j+1) ((j:Int)-1) (atI p j)=true)
instance {p:List Int} {i:Nat}:Decidable (plV p i):=by unfold plV; infer_instance
def isPl (p:List Int):Bool:=inR 1 9 p.length&&decide (plV p p.length)
theorem anc_rg {p:List Int} {i:Nat} (hp:∀ j:Nat,j<i→-1≤atI p j∧atI p j<j):∀ (f:Nat) (v t:Int),v<i→ancB p f v t=true→0≤t∧t≤v
 | 0,_,_,_,h=>by simp [ancB] at h
 | f+1,v,t,hv,h=>by
  unfold ancB at h
  split at h
  ·cases h
  ·rename_i h0
   split at h
   ·omega
   ·obtain ⟨n,rfl⟩:=qoz (show 0≤v by omega)
    have h1:=hp n (by omega)
    have h1:-1≤atI p (n:Nat)∧atI p (n:Nat)<n:=h1
    have:=anc_rg hp f (atI p (n:Nat)) t (by omega) h
    have e:(Int.ofNat n)=(n:Int):=rfl
    omega
theorem plV_rg {p:List Int}:∀ {i:Nat},plV p i→∀ j:Nat,j<i→-1≤atI p j∧atI p j<j
 | 0,_,j,h=>by omega
 | i+1,hp,j,h=>by
  have ih:=plV_rg (p:=p) (i:=i) (fun j hj=>hp j (by omega))
  rcases qlg j i with q | q
  ·exact ih j q
  ·obtain rfl:j=i:=by omega
   rcases hp j (by omega) with ⟨rfl,h0⟩ | ⟨h0,h1⟩
   ·have h0':atI p ((0:Nat):Int)=-1:=h0
    omega
   ·have:=anc_rg ih (j+1) _ _ (by omega) h1
    omega
theorem ispl_i [HA K] {p:List Int} (h:p.length≤1099511627776):K 516 [LI p] [.b (isPl p)]:=by
 refine body_by (f:=ir_impl_IsPlane) rfl ?_; simp only [ir_impl_IsPlane,zn,zs,zq,zi,zg,zp]
 simp (disch:=omega) only [vcd]
 refine call_by (within_ok (K:=K)) rfl ?_
 cases hr:inR 1 9 (p.length:Int)
 ·simp (disch:=omega) only [vcd]
  simp [isPl,hr]
 ·have hb:=inR_iff.1 hr
  by_cases h0:atI p 0=-1
  ·simp (disch:=omega) only [vcd,h0]
   refine loop_up (fun i (_:Unit)=>plV p (i+1)) (fun i _=>[LI p,.u,.n ((i:Int)+1),.u,.u,.u,.u,.u]) (p.length-1) () (fun j hj=>.inl ⟨by omega,h0⟩) rfl (fun i _ hi hP=>?_) (fun _ hP=>?_)
   ·have hrg:=plV_rg hP
    obtain ⟨R,hR⟩:∃ R,R=ancB p (i+2) ((i:Int)) (atI p ((i:Int)+1)):=⟨_,rfl⟩
    simp (disch:=omega) only [vcd,qas]
    refine loop_wh (fun (x:Nat×Int)=>(-1≤x.2∧x.2≤i)∧x.2+2≤x.1∧ancB p x.1 x.2 (atI p ((i:Int)+1))=R) (fun x=>[LI p,.u,.n ((i:Int)+1),.n x.2,.u,.u,.u,.u]) (fun x=>x.1) (i+2,(i:Int)) ⟨by show -1≤(i:Int)∧(i:Int)≤i; omega,by show (i:Int)+2≤((i+2:Nat):Int); omega,hR.symm⟩ rfl ?_
    rintro ⟨f,v⟩ ⟨g1,g2,g3⟩
    simp only at g1 g2 g3 ⊢
    cases f with
    | zero=>omega
    | succ f=>
     unfold ancB at g3
     by_cases hv:v<0
     ·rw [if_pos hv] at g3
      simp (disch:=omega) only [vcd]
      rw [show isPl p=false from ?_]
      refine Bool.eq_false_iff.2 fun q=>?_
      simp only [isPl,qba,qde] at q
      rcases q.2 (i+1) (by omega) with ⟨q1,_⟩ | ⟨_,q2⟩
      ·omega
      ·rw [show ((i+1:Nat):Int)=(i:Int)+1 by omega,qas,← hR,← g3] at q2
       cases q2
     ·rw [if_neg hv] at g3
      by_cases hvt:v=atI p ((i:Int)+1)
      ·rw [if_pos hvt] at g3
       simp (disch:=omega) only [vcd,← hvt]
       refine ⟨(),all_s hP (.inr ⟨by omega,?_⟩)⟩
       rw [show ((i+1:Nat):Int)=(i:Int)+1 by omega,qas,← hR,← g3]
      ·rw [if_neg hvt] at g3
       obtain ⟨n,rfl⟩:=qoz (show 0≤v by omega)
       have h1:=hrg n (by omega)
       have h1:-1≤atI p (n:Nat)∧atI p (n:Nat)<n:=h1
       simp (disch:=omega) only [vcd]
       exact ⟨(f,atI p (n:Nat)),by show f<f+1; omega,⟨by simp only; omega,by simp only; omega,g3⟩,rfl⟩
   ·have e:p.length-1+1=p.length:=by omega
    rw [e] at hP
    simp (disch:=omega) only [vcd]
    simp [isPl,hr,hP]
  ·simp (disch:=omega) only [vcd]
   rw [show isPl p=false from ?_]
   refine Bool.eq_false_iff.2 fun q=>?_
   simp only [isPl,qba,qde] at q
   rcases q.2 0 (by omega) with ⟨_,q2⟩ | ⟨q1,_⟩
   ·exact h0 q2
   ·omega
theorem ispl_s [HA K] {p:List Int} (h:p.length≤1099511627776):K 321 [LI p] [.b (isPl p)]:=by
 have no:∀ {i:Nat},i<p.length→¬ ((i=0∧atI p 0=-1)∨(0<i∧ancB p (i+1) ((i:Int)-1) (atI p i)=true))→isPl p=false:=by
  intro i hi q
  refine Bool.eq_false_iff.2 fun q2=>?_
  simp only [isPl,qba,qde] at q2
  exact q (q2.2 i hi)
 refine body_by (f:=ir_spec_IsPlane) rfl ?_; simp only [ir_spec_IsPlane,zn,zs,zq,zi,zg,zp]
 simp (disch:=omega) only [vcd]
 refine loop_ix (fun i=>plV p i) (fun i=>[LI p,.u,.n i,.u,.u,.u,.u,.u,.u]) p.length (by simp [plV]) rfl (fun i hi hP=>?_) (fun hP=>?_)
 ·have hrg:=plV_rg hP
  by_cases hi0:i=0
  ·subst hi0
   by_cases h0:atI p 0=-1
   ·simp (disch:=omega) only [vcd,h0]
    refine loop_wh (fun (_:Unit)=>True) (fun _=>[LI p,.u,.n 0,.b true,.n (-1),.u,.u,.u,.u]) (fun _=>0) () trivial rfl (fun _ _=>?_)
    simp (disch:=omega) only [vcd]
    exact all_s hP (.inl ⟨rfl,h0⟩)
   ·rw [no hi fun q=>by rcases q with q | q; exact h0 q.2; omega]
    simp (disch:=omega) only [vcd]
  ·simp (disch:=omega) only [vcd]
   refine call_by (l1In_ok (K:=K)) rfl ?_
   cases hr:inR 0 ((i:Int)-1) (atI p i)
   ·rw [no hi fun q=>by
     rcases q with q | q
     ·exact hi0 q.1
     ·have:=anc_rg hrg (i+1) _ _ (by omega) q.2
      rw [inR_f] at hr; omega]
    simp (disch:=omega) only [vcd]
   ·have hb:=inR_iff.1 hr
    obtain ⟨R,hR⟩:∃ R,R=ancB p (i+1) ((i:Int)-1) (atI p i):=⟨_,rfl⟩
    simp (disch:=omega) only [vcd]
    refine loop_wh (fun (x:Nat×Int×Bool)=>(-1≤x.2.1∧x.2.1<i)∧x.2.1+2≤x.1∧(x.2.2 || ancB p x.1 x.2.1 (atI p i))=R) (fun x=>[LI p,.u,.n i,.b x.2.2,.n x.2.1,.u,.u,.u,.u]) (fun x=>x.1) (i+1,(i:Int)-1,false) ⟨by show -1≤(i:Int)-1∧(i:Int)-1<i; omega,by show (i:Int)-1+2≤((i+1:Nat):Int); omega,by rw [hR]; rfl⟩ rfl ?_
    rintro ⟨f,v,fine⟩ ⟨g1,g2,g3⟩
    simp only at g1 g2 g3 ⊢
    cases f with
    | zero=>omega
    | succ f=>
     unfold ancB at g3
     by_cases hv:v<0
     ·rw [if_pos hv,Bool.or_false] at g3
      subst g3
      cases fine
      ·simp (disch:=omega) only [vcd]
       rw [no hi fun q=>by
        rcases q with q | q
        ·exact hi0 q.1
        ·rw [q.2] at hR; cases hR]
      ·simp (disch:=omega) only [vcd]
       exact all_s hP (.inr ⟨by omega,hR.symm⟩)
     ·rw [if_neg hv] at g3
      obtain ⟨n,rfl⟩:=qoz (show 0≤v by omega)
      have h1:=hrg n (by omega)
      have h1:-1≤atI p (n:Nat)∧atI p (n:Nat)<n:=h1
      have key:((fine || decide (((n:Nat):Int)=atI p i)) || ancB p f (atI p (n:Nat)) (atI p i))=R:=by
       rw [← g3]
       by_cases hvt:((n:Nat):Int)=atI p i
       ·rw [if_pos hvt]; simp [hvt]
       ·rw [if_neg hvt]; simp [hvt]
      cases fine
      ·by_cases hvt:((n:Nat):Int)=atI p i
       ·simp (disch:=omega) only [vcd]
        exact ⟨(f,atI p (n:Nat),true),by show f<f+1; omega,⟨by simp only; omega,by simp only; omega,by rw [← key]; simp [hvt]⟩,rfl⟩
       ·simp (disch:=omega) only [vcd]
        exact ⟨(f,atI p (n:Nat),false),by show f<f+1; omega,⟨by simp only; omega,by simp only; omega,by rw [← key]; simp [hvt]⟩,rfl⟩
      ·simp (disch:=omega) only [vcd]
       exact ⟨(f,atI p (n:Nat),true),by show f<f+1; omega,⟨by simp only; omega,by simp only; omega,by rw [← key]; simp⟩,rfl⟩
 ·simp (disch:=omega) only [vcd]
  refine call_by (l1In_ok (K:=K)) rfl ?_
  simp (disch:=omega) only [vcd]
  simp [isPl,hP]
theorem LI_nilL:D.l []=LI []:=rfl
end Go.Cat
