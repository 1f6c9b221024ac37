/-
 The path of a permutation, inversions, drawn permutations: the walks.
-/
import Derived.Test.YtnjjceodpbhlmaaGreatPfM231
import Derived.Test.YtnjjceodpbhlmaaGreatPfDrawP
import Derived.Test.YtnjjceodpbhlmaaGreatIrHas
set_option linter.unusedSimpArgs false
set_option linter.unusedVariables false
namespace Go.Cat
variable {K:Nat→List D→List D→Prop}
set_option maxRecDepth 100000
def C8:List Int→Int→List Nat×List Int×Int
 | [],n=>([],[],n)
 | y::st,n=>if y=n then (100::(C8 st (n+1)).1,(C8 st (n+1)).2) else ([],y::st,n)
def Ce:List Int→List Int→Int→List Nat
 | [],_,_=>[]
 | x::p,st,n=>117::((C8 (x::st) n).1++Ce p (C8 (x::st) n).2.1 (C8 (x::st) n).2.2)
def CU (p:List Int):Bool:=BF p&&!(Cy p)
def CG (p:List Int):List Nat:=if CU p=true then Ce p [] 0 else []
theorem H5:D.l []=LI []:=rfl
theorem AO0 [HA K] {p:List Int} (h:p.length≤1000):K 156 [LI p] [.s (CG p),.b (CU p)]:=by
 refine AG (f:=IW) rfl ?_; simp only [IW,zu]
 simp (disch:=first|omega|simp only[vl];omega) only [AA]
 refine AE (FU (K:=K) (p:=p) (by omega)) rfl ?_
 cases hp:BF p
 ·have e:CU p=false:=by simp [CU,hp]
  simp only [CG,e]
  simp (disch:=first|omega|simp only[vl];omega) only [AA]
  rfl
 ·simp (disch:=first|omega|simp only[vl];omega) only [AA]
  refine AE (SD (K:=K) (p:=p) (by omega)) rfl ?_
  have e0:Cf p=Cy p:=by simp [Cf,hp]
  rw [e0]
  cases hc:Cy p
  ·have e:CU p=true:=by simp [CU,hp,hc]
   simp only [CG,e,if_true]
   simp (disch:=first|omega|simp only[vl];omega) only [AA,H5]
   refine CK (fun i (x:List Nat×List Int×Int)=>x.1++Ce (p.drop i) x.2.1 x.2.2=Ce p [] 0∧x.1.length+x.2.1.length=2*i∧x.2.2+x.2.1.length=i) (fun i x=>[LI p,.u,.u,.s x.1,LI x.2.1.reverse,.n x.2.2,.n i,.u,.u,.u]) p.length ([],[],0) ⟨by simp,by simp,by simp⟩ rfl (fun i x hi hP=>?_) (fun x hP=>?_)
   ·obtain ⟨w,st,n⟩:=x
    obtain ⟨g1,g2,g3⟩:=hP
    simp only at g1 g2 g3
    rw [HJ hi] at g1
    simp only [Ce] at g1
    obtain ⟨R,hR⟩:∃ R,R=C8 (AD p i::st) n:=⟨_,rfl⟩
    rw [← hR] at g1
    simp (disch:=first|omega|simp only[vl];omega) only [AA]
    refine B9 (fun (x:List Nat×List Int×Int)=>x.1++(C8 x.2.1 x.2.2).1=w++[117]++R.1∧(C8 x.2.1 x.2.2).2=R.2∧x.1.length+x.2.1.length=2*i+2∧x.2.2+x.2.1.length=i+1) (fun x=>[LI p,.u,.u,.s x.1,LI x.2.1.reverse,.n x.2.2,.n i,.u,.u,.u]) (fun x=>x.2.1.length) (w++[117],AD p i::st,n) ⟨by rw [hR],by rw [hR],by simp; omega,by simp; omega⟩ (by simp) ?_
    rintro ⟨w1,s1,n1⟩ ⟨q1,q2,q3,q4⟩
    simp only at q1 q2 q3 q4 ⊢
    cases s1 with
    | nil=>
     simp only [C8,List.append_nil] at q1 q2
     simp only [List.reverse_nil]
     simp only [Aq] at q3 q4
     simp (disch:=first|omega|simp only[vl];omega) only [AA]
     refine ⟨(w1,[],n1),⟨?_,by simp; omega,by simp; omega⟩,rfl⟩
     show w1++Ce (p.drop (i+1)) [] n1=_
     rw [← g1,← q2,q1]; simp
    | cons y t=>
     have hl:t.reverse.length=t.length:=by simp
     have e1:AD (t.reverse++[y]) t.length=y:=by rw [← hl]; exact KW
     have e2:sub (t.reverse++[y]) 0 t.length=t.reverse:=by rw [← hl]; exact KT
     have e3:(((t.reverse++[y]).length:Nat):Int)=(t.length:Int)+1:=by simp
     simp only [List.reverse_cons]
     simp only [A6] at q3 q4
     by_cases hy:y=n1
     ·subst hy
      simp only [C8,if_true] at q1 q2
      simp (disch:=first|omega|simp only[vl];omega) only [AA,e3,e1,e2,Dv]
      refine ⟨(w1++[100],t,y+1),by simp,⟨by rw [← q1]; simp,q2,by simp; omega,by simp only; omega⟩,rfl⟩
     ·simp only [C8,if_neg hy,List.append_nil] at q1 q2
      simp (disch:=first|omega|simp only[vl];omega) only [AA,e3,e1,e2,Dv]
      refine ⟨(w1,y::t,n1),⟨?_,by simp; omega,by simp; omega⟩,by simp⟩
      show w1++Ce (p.drop (i+1)) (y::t) n1=_
      rw [← g1,← q2,q1]; simp
   ·obtain ⟨w,st,n⟩:=x
    obtain ⟨g1,g2,g3⟩:=hP
    rw [List.drop_length] at g1
    simp only [Ce,List.append_nil] at g1
    simp (disch:=first|omega|simp only[vl];omega) only [AA,g1]
  ·have e:CU p=false:=by simp [CU,hp,hc]
   simp only [CG,e]
   simp (disch:=first|omega|simp only[vl];omega) only [AA]
   rfl
end Go.Cat
namespace Go.Cat
variable {K:Nat→List D→List D→Prop}
set_option maxRecDepth 100000
theorem AML [HA K] {w:List Nat} (h:w.length≤1000):∃ rs,(∃ x b,rs=[LI x,.b b]∧2*x.length≤w.length)∧K 325 [.s w] rs:=by
 refine Bg (f:=L7) rfl ?_; simp only [L7,zu]
 simp (disch:=first|omega|simp only[vl];omega) only [AA,H5]
 refine AE (Fv (K:=K) (w:=w) (by omega)) rfl ?_
 cases hd:BW w
 ·simp (disch:=first|omega|simp only[vl];omega) only [AA,H5]
  exact ⟨_,_,rfl,by simp⟩
 ·have hw:=(JO hd).1
  have hn:=NS hd
  simp (disch:=first|omega|simp only[vl];omega) only [AA,H5]
  refine CK (fun i (x:List Int×List Int×Nat×Int)=>x.1.length=w.length / 2∧(∀ y∈x.2.1,0≤y∧y<x.2.2.1)∧x.2.2.1+AB (w.drop i) 117=w.length / 2∧Az (w.drop i) x.2.1.length=some 0∧(0≤x.2.2.2∧x.2.2.2≤i)∧x.2.1.length≤i) (fun i x=>[.s w,.u,.u,LI x.1,LI x.2.1.reverse,.n x.2.2.1,.n x.2.2.2,.n i,.u,.u,.u]) w.length (rep ((w.length:Int) / 2) 0,[],0,0) ⟨by simp [rep]; omega,by simp,by simp; omega,by simpa using hw,by simp,by simp⟩ rfl (fun i x hi hP=>?_) (fun x hP=>?_)
  ·obtain ⟨o,st,n,k⟩:=x
   obtain ⟨g1,g2,g3,g4,g5,g6⟩:=hP
   simp only at g1 g2 g3 g4 g5 g6
   rw [FD hi] at g3 g4
   rw [IZ] at g3
   simp only [Az] at g4
   by_cases hc:Ap w i=117
   ·rw [if_pos hc] at g3 g4
    simp (disch:=first|omega|simp only[vl];omega) only [AA,hc]
    refine ⟨(o,n::st,n+1,k),⟨g1,?_,by simp only; omega,?_,by simp only; omega,by simp; omega⟩,by simp⟩
    ·intro y hy
     rcases A5.1 hy with rfl | hy
     ·simp only; omega
     ·have:=g2 y hy
      simp only; omega
    ·simp only [A6]
     rw [← g4]; congr 1
   ·rw [if_neg hc] at g3 g4
    by_cases hc1:Ap w i=100
    ·rw [if_pos hc1] at g4
     cases st with
     | nil=>simp at g4
     | cons y t=>
      have hy:=g2 y (List.mem_cons_self ..)
      have hl:t.reverse.length=t.length:=by simp
      have e1:AD (t.reverse++[y]) t.length=y:=by rw [← hl]; exact KW
      have e2:sub (t.reverse++[y]) 0 t.length=t.reverse:=by rw [← hl]; exact KT
      have e3:(((t.reverse++[y]).length:Nat):Int)=(t.length:Int)+1:=by simp
      simp only [List.reverse_cons]
      simp only [A6] at g4 g6
      rw [if_neg (by omega)] at g4
      simp (disch:=first|omega|simp only[vl];omega) only [AA,hc1,e3,e1,e2,Dv]
      refine ⟨(Aw o y k,t,n,k+1),⟨by simp only [Eg]; exact g1,fun z hz=>g2 z (BC _ hz),by simp only; omega,?_,by simp only; omega,by simp only; omega⟩,by simp⟩
      rw [← g4]; congr 1; simp only; omega
    ·rw [if_neg hc1] at g4
     cases g4
  ·obtain ⟨o,st,n,k⟩:=x
   obtain ⟨g1,_⟩:=hP
   simp (disch:=first|omega|simp only[vl];omega) only [AA]
   exact ⟨_,_,rfl,by simp only at g1; omega⟩
theorem ANG [HA K] {d:D} (hd:BJ d) {l:List Int} (h0:0<l.length) (hl:l.length≤1000000):∃ rs,(∃ x d',rs=[.n x,d']∧BJ d')∧K 313 [d,LI l] rs:=by
 refine Bg (f:=IP) rfl ?_; simp only [IP,zu]
 obtain ⟨_,⟨x1,d1,rfl,hx1,hd1⟩,k1⟩:=CQ (K:=K) hd (n:=l.length)
 have:=hx1.2 (by omega)
 simp (disch:=first|omega|simp only[vl];omega) only [AA]
 refine AE (k1) rfl ?_
 simp (disch:=first|omega|simp only[vl];omega) only [AA]
 exact ⟨_,_,rfl,hd1⟩
theorem Xj {zs:List Int} {x:Int} (h:0<zs.length):Aa [0] (LI zs) (.n x)=some (LI (Aw zs 0 x)):=SK (i:=0) (by omega)
theorem Uq [HA K] {d:D} (hd:BJ d):∃ rs,(∃ x d',rs=[LI x,d']∧x.length≤6∧BJ d')∧K 305 [d] rs:=by
 refine Bg (f:=LK) rfl ?_; simp only [LK,zu]
 obtain ⟨_,⟨w,d1,rfl,hw,hd1⟩,k1⟩:=AKX (K:=K) hd
 obtain ⟨_,⟨p0,b0,rfl,hp0⟩,k2⟩:=AML (K:=K) (w:=w) (by omega)
 obtain ⟨_,⟨b1,d2,rfl,hd2⟩,k3⟩:=Fw (K:=K) hd1 (n:=3)
 simp (disch:=first|omega|simp only[vl];omega) only [AA,H5]
 refine AE (k1) rfl ?_
 simp (disch:=first|omega|simp only[vl];omega) only [AA]
 refine AE (k2) rfl ?_
 simp (disch:=first|omega|simp only[vl];omega) only [AA]
 refine AE (k3) rfl ?_
 have hfin:∀ {d:D} {p:List Int},BJ d→p.length≤6→∃ (b:Bool) (d':D) (y:Int) (d'':D),BJ d'∧BJ d''∧K 307 [d,.n 12] [.b b,d']∧K 313 [d',LI [-1,0,1,9223372036854775807]] [.n y,d'']:=by
  intro d p hd hp
  obtain ⟨_,⟨b,d',rfl,hd'⟩,k⟩:=Fw (K:=K) hd (n:=12)
  obtain ⟨_,⟨y,d'',rfl,hd''⟩,k'⟩:=ANG (K:=K) hd' (l:=[-1,0,1,9223372036854775807]) (by simp) (by simp)
  exact ⟨b,d',y,d'',hd',hd'',k,k'⟩
 have hp06:p0.length≤6:=by omega
 cases b1
 ·simp (disch:=first|omega|simp only[vl];omega) only [AA]
  obtain ⟨b,e1,y,e2,h1,h2,k5,k6⟩:=hfin (p:=p0) hd2 hp06
  by_cases h0:0<(p0).length
  ·simp (disch:=first|omega|simp only[vl];omega) only [AA]
   refine AE (k5) rfl ?_
   cases b
   ·simp (disch:=first|omega|simp only[vl];omega) only [AA]
    exact ⟨_,_,rfl,hp06,h1⟩
   ·simp (disch:=first|omega|simp only[vl];omega) only [AA,Gz,Gv]
    refine AE (k6) rfl ?_
    simp (disch:=first|omega|simp only[vl];omega) only [AA,Xj]
    exact ⟨_,_,rfl,by simp only [Eg]; exact hp06,h2⟩
  ·simp (disch:=first|omega|simp only[vl];omega) only [AA]
   exact ⟨_,_,rfl,hp06,hd2⟩
 ·obtain ⟨_,⟨r0,d3,rfl,hr0,hd3⟩,k4⟩:=CQ (K:=K) hd2 (n:=7)
  have hr0:=hr0.2 (by omega)
  simp (disch:=first|omega|simp only[vl];omega) only [AA,H5]
  refine AE (k4) rfl ?_
  simp (disch:=first|omega|simp only[vl];omega) only [AA]
  refine B9 (fun (q:D×List Int×Int)=>BJ q.1∧0≤q.2.2∧(q.2.1.length:Int)+q.2.2≤6) (fun q=>[q.1,.u,LI q.2.1,.n q.2.2,.u,.u,.u,.u,.u]) (fun q=>q.2.2.toNat) (d3,[],r0) ⟨hd3,by simp; omega,by simp; omega⟩ rfl ?_
  rintro ⟨d4,p,r⟩ ⟨hd4,hr,hx⟩
  simp only at hd4 hr hx ⊢
  have hp6:p.length≤6:=by omega
  by_cases hr0:0<r
  ·obtain ⟨_,⟨k,d5,rfl,hk,hd5⟩,k7⟩:=CQ (K:=K) hd4 (n:=(p.length:Int)+1)
   have hk:=hk.2 (by omega)
   have l1:(sub p 0 k).length≤k.toNat:=by simp [sub]; omega
   have l2:(sub p k p.length).length=p.length-k.toNat:=by simp [sub]
   simp (disch:=first|omega|simp only[vl];omega) only [AA,H5]
   refine AE (k7) rfl ?_
   simp (disch:=first|omega|simp only[vl];omega) only [AA,H5]
   refine ⟨(d5,sub p 0 k++[(p.length:Int)]++sub p k p.length,r-1),by show (r-1).toNat<r.toNat; omega,⟨hd5,by simp only; omega,?_⟩,by simp⟩
   simp only [Ad,List.length_singleton]
   omega
  ·simp (disch:=first|omega|simp only[vl];omega) only [AA]
   obtain ⟨b,e1,y,e2,h1,h2,k5,k6⟩:=hfin (p:=p) hd4 hp6
   by_cases h0:0<(p).length
   ·simp (disch:=first|omega|simp only[vl];omega) only [AA]
    refine AE (k5) rfl ?_
    cases b
    ·simp (disch:=first|omega|simp only[vl];omega) only [AA]
     exact ⟨_,_,rfl,hp6,h1⟩
    ·simp (disch:=first|omega|simp only[vl];omega) only [AA,Gz,Gv]
     refine AE (k6) rfl ?_
     simp (disch:=first|omega|simp only[vl];omega) only [AA,Xj]
     exact ⟨_,_,rfl,by simp only [Eg]; exact hp6,h2⟩
   ·simp (disch:=first|omega|simp only[vl];omega) only [AA]
    exact ⟨_,_,rfl,hp6,hd4⟩
theorem AIW:∀ {p st:List Int} {n:Int},(Ce p st n).length≤2*p.length+st.length:=by
 have pop:∀ (st:List Int) (n:Int),(C8 st n).1.length+(C8 st n).2.1.length=st.length:=by
  intro st
  induction st with
  | nil=>intro n; rfl
  | cons y st ih=>
   intro n
   unfold C8
   split
   ·have:=ih (n+1); simp only [A6]; omega
   ·simp
 intro p
 induction p with
 | nil=>intro st n; simp [Ce]
 | cons x p ih=>
  intro st n
  have h1:=pop (x::st) n
  have h2:=ih (st:=(C8 (x::st) n).2.1) (n:=(C8 (x::st) n).2.2)
  simp only [Ce,A6,Ad] at h1 ⊢
  omega
theorem AJN {p:List Int}:(CG p).length≤2*p.length:=by
 unfold CG; split
 ·simpa using AIW (p:=p) (st:=[]) (n:=0)
 ·simp
end Go.Cat
namespace Go.Cat
variable {K:Nat→List D→List D→Prop}
end Go.Cat
