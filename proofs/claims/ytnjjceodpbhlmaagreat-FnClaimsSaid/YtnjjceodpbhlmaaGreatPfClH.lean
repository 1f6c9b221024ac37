/-
 Claims of order and of distance: made and accepted.
-/
import Derived.Test.YtnjjceodpbhlmaaGreatPfLDis
set_option linter.unusedSimpArgs false
set_option linter.unusedVariables false
namespace Go.Cat
variable {K:Nat→List D→List D→Prop}
set_option maxRecDepth 100000
structure CX (f s:List Nat) (t:List (List Nat)) (n o:List Int) (r:List (List Int)):Prop where
 lf:f.length≤1000
 ls:s.length≤1000
 lt:t.length≤100
 ln:n.length≤16
 lo:o.length≤16
 lr:r.length≤6
 lrs:∀ x∈r,x.length≤1000
theorem CX.sm {f s:List Nat} {t:List (List Nat)} {n o:List Int} {r:List (List Int)} (h:CX f s t n o r):EF t n o r:=
 ⟨by have:=h.lt; omega,by have:=h.ln; omega,by have:=h.lo; omega,by have:=h.lr; omega,fun x hx=>by have:=h.lrs x hx; omega⟩
theorem CX.zero:CX [] [] [] [] [] []:=⟨by simp,by simp,by simp,by simp,by simp,by simp,by simp⟩
open Classical in
noncomputable def OV (s:List Nat):BT:=if h:∃ x:BT,s=x.t then h.choose else .lf
theorem AKF {x:BT}:OV x.t=x:=by
 have h:∃ y:BT,x.t=y.t:=⟨x,rfl⟩
 unfold OV
 rw [dif_pos h]
 exact (Jq h.choose_spec).symm
noncomputable def gT (a b:List Nat):Bool:=BU a&&(BU b&&Er (OV a) (OV b))
theorem QX {x y:BT} (hx:x.n≤8) (hy:y.n≤8):gT x.t y.t=Er x y:=by simp [gT,F1 hx,F1 hy,AKF]
theorem S5 [HA K] (a b:List Nat):K 350 [.s a,.s b] [.b (gT a b)]∧K 349 [.s a,.s b] [.b (gT a b)]:=by
 obtain ⟨r,h1,h2,h3⟩:=UT (K:=K) a b
 cases ha:BU a with
 | false=>
  cases r with
  | false=>simpa [gT,ha] using And.intro h1 h2
  | true=>
   obtain ⟨x,y,rfl,_,hx,_⟩:=h3 rfl
   rw [F1 hx] at ha; cases ha
 | true=>
  obtain ⟨x,rfl,hx⟩:=Ek ha
  cases hb:BU b with
  | false=>
   cases r with
   | false=>simpa [gT,hb] using And.intro h1 h2
   | true=>
    obtain ⟨_,y,_,rfl,_,hy,_⟩:=h3 rfl
    rw [F1 hy] at hb; cases hb
  | true=>
   obtain ⟨y,rfl,hy⟩:=Ek hb
   rw [QX hx hy]
   exact ⟨QU hx hy,L0 hx hy⟩
theorem mkOr [HA K] [Cm K 201 C7] [HA K] [CZ K] (a b:List Nat):∃ (k:Int) (f s:List Nat) (t:List (List Nat)) (w:Bool),CX f s t [] [] []∧K 340 [.s a,.s b] [CL k f s t [] [] [],.b w]∧K 339 [.s a,.s b] [CL k f s t [] [] [],.b w]∧(w=true→K 626 [CL k f s t [] [] []] [.b true]):=by
 obtain ⟨r,h1,h2,h3⟩:=UT (K:=K) a b
 cases r with
 | true=>
  obtain ⟨x,y,rfl,rfl,hx,hy,h⟩:=h3 rfl
  have hl:=V7 (y:=y) (k:=64) (x:=x)
  have l1:=BT.tl x
  have l2:=BT.tl y
  have hc:CX x.t y.t (x.t::(Bb y 64 x).map BT.t) [] [] []:=⟨by omega,by omega,by simp; omega,by simp,by simp,by simp,by simp⟩
  refine ⟨1,x.t,y.t,x.t::(Bb y 64 x).map BT.t,true,hc,AIL hx hy h,ANC hx hy h,fun _=>?_⟩
  obtain ⟨t1,t2⟩:=AKG hx h (g:=gT) (fun u v hu hv q=>by rw [QX hu hv]; exact FL.2 q)
  have:=AF5 (K:=K) (f:=x.t) (s:=y.t) hc.sm (fun a b=>(S5 (K:=K) a b).1)
  rw [t1,t2] at this
  exact this
 | false=>
  refine ⟨0,[],[],[],false,CX.zero,?_,?_,fun q=>by cases q⟩
  ·refine AG (f:=Iv) rfl ?_; simp only [Iv,zu]
   simp (disch:=omega) only [AA]
   refine AE (h1) rfl ?_
   simp (disch:=omega) only [AA]
   rfl
  ·refine AG (f:=Hu) rfl ?_; simp only [Hu,zu]
   simp (disch:=omega) only [AA]
   refine AE (h2) rfl ?_
   simp (disch:=omega) only [AA]
   rfl
theorem AQZ:∀ n,n≤4→(Ft 6 n).length≤14:=by decide
theorem BI.l14 {a:BT} {S:List BT×List Int} (h:BI a S) (ha:a.n≤4):S.1.length≤14:=by
 have h1:=Qa (l:=S.1.map BT.t) (m:=(Ft 6 a.n).map BT.t) h.nd (fun x hx=>by
  obtain ⟨z,hz,rfl⟩:=List.mem_map.1 hx
  refine List.mem_map.2 ⟨z,?_,rfl⟩
  have:=Lz (x:=z) (f:=6) (by have:=h.ns z hz; omega)
  rw [h.ns z hz] at this
  exact this)
 have h2:=AQZ a.n ha
 simp only [List.length_map] at h1
 omega
theorem bf_1:((Ft 6 5).all fun a=>decide (4≤(AO a 1).1.length))=true:=by kernel_rfl
theorem Yc:∀ {l:List BT} {S:List BT×List Int},(∀ k:Nat,1≤k→k<S.2.length→AD S.2 (k:Nat)=0)→S.2.length=S.1.length→1≤S.1.length→∀ k:Nat,1≤k→k<(l.foldl (Bv 0) S).2.length→AD (l.foldl (Bv 0) S).2 (k:Nat)=0
 | [],S,h,_,_=>h
 | u::l,S,h,hl,h1=>by
  refine Yc (l:=l) ?_ ?_ ?_
  ·unfold Bv
   split
   ·exact h
   ·intro k k1 hk
    simp only [Ad,A6,Aq] at hk
    by_cases e:k=S.2.length
    ·subst e; simp [AD]
    ·rw [IJ (by omega)]; exact h k k1 (by omega)
  ·unfold Bv
   split
   ·exact hl
   ·simp [hl]
  ·unfold Bv
   split
   ·exact h1
   ·simp
theorem ALA {a:BT} {N k:Nat} (ha:a.n≤5) (h1:N≤42) (h2:(AO a N).1.length=N) (hk:k<N):(CM (AO a N) (k+1) k).length≤40:=by
 have hb:=E5 (a:=a) N
 by_cases h4:a.n≤4
 ·have:=hb.l14 h4
  have:=KV (S:=AO a N) (f:=k+1) (k:=k)
  omega
 ·have hm:=Lz (x:=a) (f:=6) (by omega)
  rw [show a.n=5 by omega] at hm
  have h3:=BD.1 bf_1 a hm
  simp only [Aj] at h3
  obtain ⟨r,q,e1,e2⟩:=MD (a:=a) (i:=1) (j:=N) (by omega)
  have hb1:=(E5 (a:=a) 1).len
  have p0:∀ j:Nat,1≤j→j≤3→AD (AO a N).2 (j:Nat)=0:=fun j j1 j3=>by
   rw [e2,IJ (by omega)]
   exact Yc (S:=([a],[-1])) (fun k k1 hk=>by simp at hk; omega) rfl (by simp) j j1 (by show j<(AO a 1).2.length; omega)
  have L:∀ f k:Nat,k<f→k<N→(CM (AO a N) f k).length≤(if k=0 then 1 else if k≤3 then 2 else k-1):=fun f=>by
   induction f with
   | zero=>intro k h; omega
   | succ f ih=>
    intro k hf hk
    simp only [CM,Ad,A6,Aq]
    by_cases k0:k=0
    ·subst k0
     have hp:AD (AO a N).2 ((0:Nat):Int)<0:=by have:=hb.hd.2.1; simpa using (by rw [this]; decide:AD (AO a N).2 0<0)
     rw [if_pos hp]; simp
    ·obtain ⟨q0,q1⟩:=hb.par k (by omega) (by omega)
     rw [if_neg (by omega),if_neg k0]
     have:=ih (AD (AO a N).2 (k:Nat)).toNat (by omega) (by omega)
     by_cases k3:k≤3
     ·rw [p0 k (by omega) k3] at this ⊢
      rw [if_pos k3]
      simpa using this
     ·rw [if_neg k3]
      split at this
      ·omega
      ·split at this
       ·omega
       ·omega
  have:=L (k+1) k (by omega) hk
  split at this
  ·omega
  ·split at this
   ·omega
   ·omega
theorem ALQ [HA K] [Cm K 201 C7] [HA K] [CZ K] (a b:List Nat):∃ (t:List (List Nat)) (r:Bool),t.length≤43∧K 348 [.s a,.s b] [LS t,.b r]∧K 347 [.s a,.s b] [LS t,.b r]∧(r=true→a.length≤100∧b.length≤100∧Ci a b t=true):=by
 obtain ⟨t,r,h1,h2,k1,k2⟩:=AFY (K:=K) a b
 cases ha:BU a with
 | false=>
  refine ⟨[],false,by simp,HU ?_,?_,fun q=>by cases q⟩
  ·refine AG (f:=Dl) rfl ?_; simp only [Dl,zu]
   simp (disch:=omega) only [AA]
   refine AE (JS (K:=K) ha) rfl ?_
   simp (disch:=omega) only [AA]
  ·refine AG (f:=DA) rfl ?_; simp only [DA,zu]
   simp (disch:=omega) only [AA]
   refine AE (SQ (K:=K) (a:=a) (b:=b) ha) rfl ?_
   simp (disch:=omega) only [AA]
   rfl
 | true=>
  obtain ⟨x,rfl,hx⟩:=Ek ha
  cases hb:BU b with
  | false=>
   refine ⟨[],false,by simp,HU ?_,?_,fun q=>by cases q⟩
   ·refine AG (f:=Dl) rfl ?_; simp only [Dl,zu]
    simp (disch:=omega) only [AA]
    refine AE (G1 (K:=K) hx) rfl ?_
    by_cases h5:(x.n:Int)≤5
    ·simp (disch:=omega) only [AA]
     refine AE (JS (K:=K) hb) rfl ?_
     simp (disch:=omega) only [AA]
    ·simp (disch:=omega) only [AA]
   ·refine AG (f:=DA) rfl ?_; simp only [DA,zu]
    simp (disch:=omega) only [AA]
    refine AE (R6 (K:=K) (x:=x) (b:=b) hx hb) rfl ?_
    simp (disch:=omega) only [AA]
    rfl
  | true=>
   obtain ⟨y,rfl,hy⟩:=Ek hb
   have l1:=BT.tl x
   have l2:=BT.tl y
   by_cases h5:x.n≤5
   ·by_cases hn:x.n=y.n
    ·obtain ⟨N,h1,h2,h3,h4⟩:=Yw h5
     have h4':=h4 y hn.symm
     have hbi:=E5 (a:=x) N
     obtain ⟨k,hk,hk2,hk3⟩:=Rs hbi h4'
     rw [h2] at hk
     have hl:=KV (S:=AO x N) (f:=k+1) (k:=k)
     refine ⟨CM (AO x N) (k+1) k,true,by omega,Uj h5 hn.symm h1 h2 h3 hk hk2 h4',AA5 h5 hn.symm h1 h2 h3 hk hk2 hk3,fun _=>⟨by omega,by omega,?_⟩⟩
     have h40:=ALA h5 h1 h2 hk
     obtain ⟨l,q1,q2,q3,q4,q5,q6⟩:=VW hbi (AB5 N h3) (k+1) k (by omega) (by omega)
     rw [q1,List.length_map] at h40
     have:=Ul (l:=l) ⟨q2,h40⟩ (fun z hz=>by rw [q5 z hz]; exact hx) q6
     rw [q3,q4,hk2] at this
     rw [q1]
     exact this
    ·have k1:=Ja (K:=K) (x:=x) (y:=y) (m:=5) hx hy (by omega)
     rw [decide_eq_false hn,Bool.and_false] at k1
     refine ⟨[],false,by simp,HU k1,?_,fun q=>by cases q⟩
     have k2:=KP (K:=K) hx hy
     rw [decide_eq_false hn] at k2
     refine AG (f:=DA) rfl ?_; simp only [DA,zu]
     simp (disch:=omega) only [AA]
     refine AE (k2) rfl ?_
     simp (disch:=omega) only [AA]
     rfl
   ·have k1:=Ja (K:=K) (x:=x) (y:=y) (m:=5) hx hy (by omega)
    rw [decide_eq_false (p:=(x.n:Int)≤5) (by omega),Bool.false_and] at k1
    refine ⟨[],false,by simp,HU k1,?_,fun q=>by cases q⟩
    have k2:=KP (K:=K) hx hy
    refine AG (f:=DA) rfl ?_; simp only [DA,zu]
    simp (disch:=omega) only [AA]
    refine AE (k2) rfl ?_
    by_cases hn:x.n=y.n
    ·rw [decide_eq_true hn]
     simp (disch:=omega) only [AA]
     refine AE (Ef (K:=K) hx) rfl ?_
     simp (disch:=omega) only [AA]
     rfl
    ·rw [decide_eq_false hn]
     simp (disch:=omega) only [AA]
     rfl
theorem Ug [HA K] [Cm K 201 C7] [HA K] [CZ K] (a b:List Nat):∃ (k:Int) (f s:List Nat) (t:List (List Nat)) (w:Bool),CX f s t [] [] []∧K 338 [.s a,.s b] [CL k f s t [] [] [],.b w]∧K 337 [.s a,.s b] [CL k f s t [] [] [],.b w]∧(w=true→K 626 [CL k f s t [] [] []] [.b true]):=by
 obtain ⟨t,r,h1,ki,ks,hr⟩:=ALQ (K:=K) a b
 cases r with
 | true=>
  obtain ⟨la,lb,hd⟩:=hr rfl
  have hc:CX a b t [] [] []:=⟨by omega,by omega,by omega,by simp,by simp,by simp,by simp⟩
  refine ⟨2,a,b,t,true,hc,?_,?_,fun _=>?_⟩
  ·refine AG (f:=I3) rfl ?_; simp only [I3,zu]
   simp (disch:=omega) only [AA]
   refine AE (ki) rfl ?_
   simp (disch:=omega) only [AA,PQ,Pv]
   rfl
  ·refine AG (f:=Ii) rfl ?_; simp only [Ii,zu]
   simp (disch:=omega) only [AA]
   refine AE (ks) rfl ?_
   simp (disch:=omega) only [AA,PQ,Pv]
   rfl
  ·have kv:K 617 [.s a,.s b] [.n ((t.length:Int)-1)]:=by
    refine AG (f:=G7) rfl ?_; simp only [G7,zu]
    simp (disch:=omega) only [AA]
    refine AE (ki) rfl ?_
    simp (disch:=omega) only [AA]
   have:=AEG (K:=K) (f:=a) (s:=b) hc.sm kv
   rw [hd] at this
   simpa using this
 | false=>
  refine ⟨0,[],[],[],false,CX.zero,?_,?_,fun q=>by cases q⟩
  ·refine AG (f:=I3) rfl ?_; simp only [I3,zu]
   simp (disch:=omega) only [AA]
   refine AE (ki) rfl ?_
   simp (disch:=omega) only [AA,PQ,Pv]
   rfl
  ·refine AG (f:=Ii) rfl ?_; simp only [Ii,zu]
   simp (disch:=omega) only [AA]
   refine AE (ks) rfl ?_
   simp (disch:=omega) only [AA,PQ,Pv]
   rfl
end Go.Cat
