/-
 Ways of rotations of any two texts; distances.
-/
import Derived.Test.YtnjjceodpbhlmaaGreatPfWayK
import Derived.Test.YtnjjceodpbhlmaaGreatPfClaim
import Derived.Test.YtnjjceodpbhlmaaGreatPfMWalk
import Derived.Test.YtnjjceodpbhlmaaGreatIrHas
set_option linter.unusedSimpArgs false
set_option linter.unusedVariables false
namespace Go.Cat
variable {K:Nat→List D→List D→Prop}
theorem HU [HA K] {a b:List Nat} (h1:K 367 [.s a,.s b,.n 5] [.b false]):K 348 [.s a,.s b] [LS [],.b false]:=by
 refine AG (f:=Hx) rfl ?_; simp only [Hx,zu]
 simp (disch:=omega) only [AA]
 refine AE (h1) rfl ?_
 simp (disch:=omega) only [AA]
 rfl
theorem AFY [HA K] [Cm K 201 C7] [HA K] [CZ K] (a b:List Nat):∃ (t:List (List Nat)) (r:Bool),t.length≤43∧(r=true→0<t.length)∧K 348 [.s a,.s b] [LS t,.b r]∧K 347 [.s a,.s b] [LS t,.b r]:=by
 cases ha:BU a with
 | false=>
  refine ⟨[],false,by simp,by simp,HU ?_,?_⟩
  ·refine AG (f:=Dl) rfl ?_; simp only [Dl,zu]
   simp (disch:=omega) only [AA]
   refine AE (JS (K:=K) ha) rfl ?_
   simp (disch:=omega) only [AA]
  ·refine AG (f:=DA) rfl ?_; simp only [DA,zu]
   simp (disch:=omega) only [AA]
   refine AE (SQ (K:=K) (a:=a) (b:=b) ha) rfl ?_
   simp (disch:=omega) only [AA]
   rfl
 | true=>
  obtain ⟨x,rfl,hx⟩:=Ek ha
  cases hb:BU b with
  | false=>
   refine ⟨[],false,by simp,by simp,HU ?_,?_⟩
   ·refine AG (f:=Dl) rfl ?_; simp only [Dl,zu]
    simp (disch:=omega) only [AA]
    refine AE (G1 (K:=K) hx) rfl ?_
    by_cases h5:(x.n:Int)≤5
    ·simp (disch:=omega) only [AA]
     refine AE (JS (K:=K) hb) rfl ?_
     simp (disch:=omega) only [AA]
    ·simp (disch:=omega) only [AA]
   ·refine AG (f:=DA) rfl ?_; simp only [DA,zu]
    simp (disch:=omega) only [AA]
    refine AE (R6 (K:=K) (x:=x) (b:=b) hx hb) rfl ?_
    simp (disch:=omega) only [AA]
    rfl
  | true=>
   obtain ⟨y,rfl,hy⟩:=Ek hb
   by_cases h5:x.n≤5
   ·by_cases hn:x.n=y.n
    ·obtain ⟨N,h1,h2,h3,h4⟩:=Yw h5
     have h4':=h4 y hn.symm
     obtain ⟨k,hk,hk2,hk3⟩:=Rs (E5 (a:=x) N) h4'
     rw [h2] at hk
     have hl:=KV (S:=AO x N) (f:=k+1) (k:=k)
     refine ⟨CM (AO x N) (k+1) k,true,by omega,fun _=>by simp [CM],Uj h5 hn.symm h1 h2 h3 hk hk2 h4',AA5 h5 hn.symm h1 h2 h3 hk hk2 hk3⟩
    ·have k1:=Ja (K:=K) (x:=x) (y:=y) (m:=5) hx hy (by omega)
     rw [decide_eq_false hn,Bool.and_false] at k1
     refine ⟨[],false,by simp,by simp,HU k1,?_⟩
     have k2:=KP (K:=K) hx hy
     rw [decide_eq_false hn] at k2
     refine AG (f:=DA) rfl ?_; simp only [DA,zu]
     simp (disch:=omega) only [AA]
     refine AE (k2) rfl ?_
     simp (disch:=omega) only [AA]
     rfl
   ·have k1:=Ja (K:=K) (x:=x) (y:=y) (m:=5) hx hy (by omega)
    rw [decide_eq_false (p:=(x.n:Int)≤5) (by omega),Bool.false_and] at k1
    refine ⟨[],false,by simp,by simp,HU k1,?_⟩
    have k2:=KP (K:=K) hx hy
    refine AG (f:=DA) rfl ?_; simp only [DA,zu]
    simp (disch:=omega) only [AA]
    refine AE (k2) rfl ?_
    by_cases hn:x.n=y.n
    ·rw [decide_eq_true hn]
     simp (disch:=omega) only [AA]
     refine AE (Ef (K:=K) hx) rfl ?_
     simp (disch:=omega) only [AA]
     rfl
    ·rw [decide_eq_false hn]
     simp (disch:=omega) only [AA]
     rfl
theorem AKC [HA K] [Cm K 201 C7] [HA K] [CZ K] (a b:List Nat):∃ v:Int,-1≤v∧v≤43∧K 617 [.s a,.s b] [.n v]∧K 612 [.s a,.s b] [.n v]:=by
 obtain ⟨t,r,h1,h2,ki,ks⟩:=AFY (K:=K) a b
 cases r with
 | false=>
  refine ⟨-1,by omega,by omega,?_,?_⟩
  ·refine AG (f:=G7) rfl ?_; simp only [G7,zu]
   simp (disch:=omega) only [AA]
   refine AE (ki) rfl ?_
   simp (disch:=omega) only [AA]
  ·refine AG (f:=I5) rfl ?_; simp only [I5,zu]
   simp (disch:=omega) only [AA]
   refine AE (ks) rfl ?_
   simp (disch:=omega) only [AA]
 | true=>
  refine ⟨(t.length:Int)-1,by omega,by omega,?_,?_⟩
  ·refine AG (f:=G7) rfl ?_; simp only [G7,zu]
   simp (disch:=omega) only [AA]
   refine AE (ki) rfl ?_
   simp (disch:=omega) only [AA]
  ·refine AG (f:=I5) rfl ?_; simp only [I5,zu]
   simp (disch:=omega) only [AA]
   refine AE (ks) rfl ?_
   simp (disch:=omega) only [AA]
end Go.Cat
namespace Go.Cat
variable {K:Nat→List D→List D→Prop}
set_option maxRecDepth 100000
theorem AIV:∀ {p st:List Int} {n:Int},∀ c∈Ce p st n,c<256:=by
 have pop:∀ (st:List Int) (n:Int),∀ c∈(C8 st n).1,c<256:=by
  intro st
  induction st with
  | nil=>intro n c hc; simp [C8] at hc
  | cons y st ih=>
   intro n c hc
   unfold C8 at hc
   split at hc
   ·rcases A5.1 hc with rfl | hc
    ·omega
    ·exact ih _ c hc
   ·simp at hc
 intro p
 induction p with
 | nil=>intro st n c hc; simp [Ce] at hc
 | cons x p ih=>
  intro st n c hc
  simp only [Ce,A5,A8] at hc
  rcases hc with rfl | hc | hc
  ·omega
  ·exact pop _ _ c hc
  ·exact ih c hc
theorem AJT [HA K] {p:List Int} (h:p.length≤1048576):K 157 [LI p] [.s (CG p),.b (CU p)]:=by
 refine AG (f:=K4) rfl ?_; simp only [K4,zu]
 simp (disch:=first|omega|simp only[vl];omega) only [AA]
 refine AE (Fk (K:=K) (p:=p) (by omega)) rfl ?_
 cases hp:BF p
 ·have e:CU p=false:=by simp [CU,hp]
  simp only [CG,e]
  simp (disch:=first|omega|simp only[vl];omega) only [AA]
  rfl
 ·have h8:=(IT hp).1
  simp (disch:=first|omega|simp only[vl];omega) only [AA]
  refine AE (AHG (K:=K) (p:=p) (by omega)) rfl ?_
  have e0:Cf p=Cy p:=by simp [Cf,hp]
  rw [e0]
  cases hc:Cy p
  ·have e:CU p=true:=by simp [CU,hp,hc]
   simp only [CG,e,if_true]
   simp (disch:=first|omega|simp only[vl];omega) only [AA]
   rw [show D.l []=LB [] from rfl]
   have key:∀ (q:List D),q=q:=fun _=>rfl
   refine CK (fun i (x:List Nat×List Int×Int)=>x.1++Ce (p.drop i) (x.2.1.map fun j=>AD p j) x.2.2=Ce p [] 0∧x.1.length+x.2.1.length=2*i∧x.2.2+x.2.1.length=i∧∀ j∈x.2.1,0≤j∧j<p.length) (fun i x=>[LI p,.u,.u,LB x.1,LI x.2.1.reverse,.n x.2.2,.u,.u,.n p.length,.n i,.u,.u]) p.length ([],[],0) ⟨by simp,by simp,by simp,by simp⟩ rfl (fun i x hi hP=>?_) (fun x hP=>?_)
   ·obtain ⟨w,st,n⟩:=x
    obtain ⟨g1,g2,g3,g4⟩:=hP
    simp only at g1 g2 g3 g4
    rw [HJ hi] at g1
    simp only [Ce] at g1
    obtain ⟨R,hR⟩:∃ R,R=C8 (AD p i::st.map fun j=>AD p j) n:=⟨_,rfl⟩
    rw [← hR] at g1
    simp (disch:=first|omega|simp only[vl];omega) only [AA]
    refine B9 (fun (x:List Nat×List Int×Int)=>x.1++(C8 (x.2.1.map fun j=>AD p j) x.2.2).1=w++[117]++R.1∧(C8 (x.2.1.map fun j=>AD p j) x.2.2).2=R.2∧x.1.length+x.2.1.length=2*i+2∧x.2.2+x.2.1.length=i+1∧∀ j∈x.2.1,0≤j∧j<p.length) (fun x=>[LI p,.u,.u,LB x.1,LI x.2.1.reverse,.n x.2.2,.u,.u,.n p.length,.n i,.u,.u]) (fun x=>x.2.1.length) (w++[117],(i:Int)::st,n) ⟨by rw [hR]; rfl,by rw [hR]; rfl,by simp; omega,by simp; omega,fun j hj=>by
     rcases A5.1 hj with rfl | hj
     ·omega
     ·exact g4 j hj⟩ (by simp) ?_
    rintro ⟨w1,s1,n1⟩ ⟨q1,q2,q3,q4,q5⟩
    simp only at q1 q2 q3 q4 q5 ⊢
    cases s1 with
    | nil=>
     simp only [List.map_nil,C8,List.append_nil] at q1 q2
     simp only [List.reverse_nil]
     simp only [Aq] at q3 q4
     simp (disch:=first|omega|simp only[vl];omega) only [AA]
     refine ⟨(w1,[],n1),⟨?_,by simp; omega,by simp; omega,by simp⟩,rfl⟩
     show w1++Ce (p.drop (i+1)) [] n1=_
     rw [← g1,← q2,q1]; simp
    | cons y t=>
     have hy:=q5 y (List.mem_cons_self ..)
     have hl:t.reverse.length=t.length:=by simp
     have e1:AD (t.reverse++[y]) t.length=y:=by rw [← hl]; exact KW
     have e2:sub (t.reverse++[y]) 0 t.length=t.reverse:=by rw [← hl]; exact KT
     have e3:(((t.reverse++[y]).length:Nat):Int)=(t.length:Int)+1:=by simp
     simp only [List.reverse_cons]
     simp only [A6] at q3 q4
     by_cases hyn:AD p y=n1
     ·simp only [List.map_cons,C8,if_pos hyn] at q1 q2
      simp (disch:=first|omega|simp only[vl];omega) only [AA,e3,e1,e2,Dv]
      refine ⟨(w1++[100],t,n1+1),by simp,⟨by rw [← q1]; simp,q2,by simp; omega,by simp only; omega,fun j hj=>q5 j (BC _ hj)⟩,rfl⟩
     ·simp only [List.map_cons,C8,if_neg hyn,List.append_nil] at q1 q2
      simp (disch:=first|omega|simp only[vl];omega) only [AA,e3,e1,e2,Dv]
      refine ⟨(w1,y::t,n1),⟨?_,by simp; omega,by simp; omega,q5⟩,by simp⟩
      show w1++Ce (p.drop (i+1)) (AD p y::t.map fun j=>AD p j) n1=_
      rw [← g1,← q2,q1]; simp
   ·obtain ⟨w,st,n⟩:=x
    obtain ⟨g1,g2,g3,_⟩:=hP
    rw [List.drop_length] at g1
    simp only [Ce,List.append_nil] at g1
    have hb:∀ c∈w,c<256:=by rw [g1]; exact fun c hc=>AIV c hc
    rw [← g1]
    simp (disch:=first|omega|simp only[vl];omega) only [AA,QG hb]
  ·have e:CU p=false:=by simp [CU,hp,hc]
   simp only [CG,e]
   simp (disch:=first|omega|simp only[vl];omega) only [AA]
   rfl
structure CLs (t:List (List Nat)) (n o:List Int) (r:List (List Int)):Prop where
 lt:t.length≤1000
 ln:n.length≤1000
 lo:o.length≤1000
 lr:r.length≤1000
 lrs:∀ x∈r,x.length≤1000
theorem CLs.sm {t:List (List Nat)} {n o:List Int} {r:List (List Int)} (h:CLs t n o r):EF t n o r:=⟨by have:=h.lt; omega,by have:=h.ln; omega,by have:=h.lo; omega,by have:=h.lr; omega,fun x hx=>by have:=h.lrs x hx; omega⟩
end Go.Cat
