/-
 Steps between two operations, which do nothing: a part of what is owned is taken out, and put back.
-/
import Derived.Test.YtnjjceodpbhlmaaGreatCatTwo
set_option linter.unusedSimpArgs false
set_option linter.unusedVariables false
namespace Go.Cat
theorem AK.at {R:D→Value→List Nat→Prop}:∀ {xs:List D} {vs:List Value} {B:List Nat} {i:Nat} {x:D},AK R xs vs B→xs[i]?=some x→
  ∃ y Ba Bi Bc,vs[i]?=some y∧B=Ba++(Bi++Bc)∧R x y Bi∧∀ x' Bi',R x' y Bi'→AK R (xs.set i x') vs (Ba++(Bi'++Bc))
 | [],_,_,_,_=>fun _ h=>by simp at h
 | x0::xs,v::vs,B,0,x=>fun h hx=>by
  simp only [AK] at h
  obtain ⟨B1,B2,rfl,h1,h2⟩:=h
  simp at hx
  subst hx
  refine ⟨v,[],B1,B2,by simp,by simp,h1,fun x' Bi' h'=>?_⟩
  simp only [List.set_cons_zero,List.nil_append,AK]
  exact ⟨Bi',B2,rfl,h',h2⟩
 | x0::xs,v::vs,B,i+1,x=>fun h hx=>by
  simp only [AK] at h
  obtain ⟨B1,B2,rfl,h1,h2⟩:=h
  obtain ⟨y,Ba,Bi,Bc,k1,rfl,k2,k3⟩:=AK.at h2 (by simpa using hx)
  refine ⟨y,B1++Ba,Bi,Bc,by simpa using k1,by simp,k2,fun x' Bi' h'=>?_⟩
  simp only [List.set_cons_succ,AK]
  exact ⟨B1,Ba++(Bi'++Bc),by simp,h1,k3 x' Bi' h'⟩
 | _::_,[],_,_,_=>fun h _=>by simp [AK] at h
theorem AF.split {fid:Nat→Nat} {h:Array Obj} {O X:Nat→Prop} {es:Sh} (hes:es.EA=true):∀ (is:List Nat) (s:Sh) (d d' dh:D) (v y:Value) (B:List Nat) (gb go:Nat),is≠[]→AF fid h O X s d v B→B.Nodup→
  s.under is.length=some es→A9 is d=some d'→Aa is d .u=some dh→Wk h is v gb go y→
  ∃ B1 B2,AF fid h O X es d' y B1∧AF fid h O X s dh v B2∧(∀ k∈B1,k∈B∧k∉B2)∧(∀ k∈B2,k∈B)∧B1.Nodup∧B2.Nodup
 | [],_,_,_,_,_,_,_,_,_,hne=>(hne rfl).elim
 | i::is,s,d,d',dh,v,y,B,gb,go,_=>fun r hnd hs hg hset hw=>by
  -- one row,element i
  have row:∀ (s':Sh) (xs:List D) (row:List Value) (B':List Nat),AK (AF fid h O X s') xs row B'→B'.Nodup→s'.under is.length=some es→(xs[i]?.bind (A9 is))=some d'→
    ∀ z,row[i]?=some z→(is=[]∧y=z∨is≠[]∧Wk h is z gb go y)→
    ∃ x xh B1 B2,xs[i]?=some x∧Aa is x .u=some xh∧AF fid h O X es d' y B1∧AK (AF fid h O X s') (xs.set i xh) row B2∧(∀ k∈B1,k∈B'∧k∉B2)∧(∀ k∈B2,k∈B')∧B1.Nodup∧B2.Nodup:=by
   intro s' xs row B' he hn hu hg z hz hy
   cases hx:xs[i]? with
   | none=>rw [hx] at hg; simp at hg
   | some x=>
    rw [hx] at hg
    simp only [Option.bind_some] at hg
    obtain ⟨z',Ba,Bi,Bc,k1,rfl,k2,k3⟩:=AK.at he hx
    rw [hz] at k1
    injection k1 with k1
    subst k1
    obtain ⟨n1,n2,n3⟩:=List.nodup_append.1 hn
    obtain ⟨n4,n5,n6⟩:=List.nodup_append.1 n2
    rcases hy with ⟨rfl,rfl⟩ | ⟨hne,hy⟩
    ·simp only [A9,AJ] at hg
     subst hg
     simp only [Aq,Sh.under,AJ] at hu
     subst hu
     refine ⟨x,.u,Bi,Ba++([]++Bc),rfl,by simp [Aa],k2,k3 .u [] (AF.Qy hes _),?_,?_,n4,?_⟩
     ·intro k hk
      refine ⟨by simp [hk],fun q=>?_⟩
      rcases A8.1 q with q | q
      ·exact n3 k q k (by simp [hk]) rfl
      ·exact n6 k hk k (by simpa using q) rfl
     ·intro k hk
      simp only [List.nil_append,A8] at hk ⊢
      exact hk.imp id .inr
     ·refine List.nodup_append.2 ⟨n1,by simpa using n5,fun a ha b hb e=>?_⟩
      exact n3 a ha b (by simp only [List.nil_append] at hb; simp [hb]) e
    ·have hxh:∃ xh,Aa is x .u=some xh:=by
      have gs:∀ (is:List Nat) (x d':D),A9 is x=some d'→∃ xh,Aa is x .u=some xh:=by
       intro is
       induction is with
       | nil=>intro x d' _; exact ⟨.u,rfl⟩
       | cons j is ih=>
        intro x d' hg
        cases x with
        | l ys=>
         simp only [A9,AQ] at hg
         obtain ⟨c1,hz,hg⟩:=hg
         obtain ⟨q,hq⟩:=ih c1 d' hg
         exact ⟨.l (ys.set j q),by simp [Aa,hz,hq]⟩
        | g ys=>
         simp only [A9,AQ] at hg
         obtain ⟨c1,hz,hg⟩:=hg
         obtain ⟨q,hq⟩:=ih c1 d' hg
         exact ⟨.g (ys.set j q),by simp [Aa,hz,hq]⟩
        | _=>simp [A9] at hg
      exact gs is x d' hg
     obtain ⟨xh,hxh⟩:=hxh
     obtain ⟨B1,B2,q1,q2,q3,q4,q5,q6⟩:=AF.split hes is s' x d' xh _ y Bi gb go hne k2 n4 hu hg hxh hy
     refine ⟨x,xh,B1,Ba++(B2++Bc),rfl,hxh,q1,k3 xh B2 q2,?_,?_,q5,?_⟩
     ·intro k hk
      have:=q3 k hk
      refine ⟨by simp [this.1],fun q=>?_⟩
      rcases A8.1 q with q | q
      ·exact n3 k q k (by simp [this.1]) rfl
      ·rcases A8.1 q with q | q
       ·exact this.2 q
       ·exact n6 k this.1 k q rfl
     ·intro k hk
      simp only [A8] at hk ⊢
      rcases hk with hk | hk | hk
      ·exact .inl hk
      ·exact .inr (.inl (q4 k hk))
      ·exact .inr (.inr hk)
     ·refine List.nodup_append.2 ⟨n1,List.nodup_append.2 ⟨q6,n5,fun a ha b hb e=>n6 a (q4 a ha) b hb e⟩,fun a ha b hb e=>?_⟩
      rcases A8.1 hb with hb | hb
      ·exact n3 a ha b (by simp [q4 b hb]) e
      ·exact n3 a ha b (by simp [hb]) e
  cases s with
  | v=>simp [Sh.under] at hs
  | y=>simp [Sh.under] at hs
  | a s=>simp [Sh.under] at hs
  | m=>simp [Sh.under] at hs
  | b s'=>
   simp only [A6,Sh.under] at hs
   simp only [AF] at r
   obtain ⟨xs,b1,cs1,e1,fz1,B',rfl,rfl,rfl,hb1,ht,hl,he⟩:=r
   simp only [Wk] at hw
   obtain ⟨b2,o2,cs2,e2,fz2,z,hv,hb2,hz,hw⟩:=hw
   obtain ⟨rfl,rfl⟩:=hv.box
   rw [hb1] at hb2
   injection hb2 with hb2
   injection hb2 with q5 q6 q7
   subst q5 q6 q7
   obtain ⟨n1,n2⟩:=List.nodup_cons.1 hnd
   simp only [A9] at hg
   obtain ⟨x,xh,B1,B2,k1,k2,k3,k4,k5,k6,k7,k8⟩:=row s' xs cs1.toList B' he n2 hs hg z (by rw [Array.getElem?_toList]; exact hz) (by
    rcases hw with ⟨a1,_,_,a4⟩ | ⟨a1,a2⟩
    ·exact .inl ⟨a1,a4⟩
    ·exact .inr ⟨a1,a2⟩)
   simp only [Aa,k1,Option.bind_some,k2,Option.map_some,AJ] at hset
   subst hset
   refine ⟨B1,_::B2,k3,?_,?_,?_,k7,List.nodup_cons.2 ⟨fun q=>n1 (k6 _ q),k8⟩⟩
   ·simp only [AF]
    exact ⟨_,_,cs1,e1,fz1,B2,rfl,rfl,rfl,hb1,ht,by simp [hl],k4⟩
   ·intro k hk
    refine ⟨BC _ (k5 k hk).1,fun q=>?_⟩
    rcases A5.1 q with rfl | q
    ·exact n1 (k5 _ hk).1
    ·exact (k5 k hk).2 q
   ·intro k hk
    rcases A5.1 hk with rfl | hk
    ·simp
    ·exact BC _ (k6 k hk)
  | o s'=>
   simp only [A6,Sh.under] at hs
   simp only [AF] at r
   rcases r with ⟨q | q,_⟩ | ⟨xs,rfl,r⟩
   ·subst q; simp [A9] at hg
   ·cases d <;> simp [A9] at hg <;> simp [D.flat] at q
   simp only [Wk] at hw
   obtain ⟨b2,o2,cs2,e2,fz2,z,hv,hb2,hz,hw⟩:=hw
   rcases r with ⟨rfl,rfl,_⟩ | ⟨b1,off,cap,cs1,e1,fz1,B',rfl,rfl,hb1,ht,h1,h2,h3,he⟩
   ·exact hv.none.elim
   obtain ⟨rfl,hi,rfl⟩:=hv.slice
   rw [hb1] at hb2
   injection hb2 with hb2
   injection hb2 with q5 q6 q7
   subst q5 q6 q7
   obtain ⟨n1,n2⟩:=List.nodup_cons.1 hnd
   simp only [A9] at hg
   obtain ⟨x,xh,B1,B2,k1,k2,k3,k4,k5,k6,k7,k8⟩:=row s' xs (cs1.toList.drop off) B' he n2 hs hg z (by rw [D8]; exact hz) (by
    rcases hw with ⟨a1,_,_,a4⟩ | ⟨a1,a2⟩
    ·exact .inl ⟨a1,a4⟩
    ·exact .inr ⟨a1,a2⟩)
   simp only [Aa,k1,Option.bind_some,k2,Option.map_some,AJ] at hset
   subst hset
   refine ⟨B1,_::B2,k3,?_,?_,?_,k7,List.nodup_cons.2 ⟨fun q=>n1 (k6 _ q),k8⟩⟩
   ·simp only [AF]
    refine .inr ⟨_,rfl,.inr ⟨_,off,cap,cs1,e1,fz1,B2,rfl,by simp,hb1,ht,by simpa using h1,h2,h3,k4⟩⟩
   ·intro k hk
    refine ⟨BC _ (k5 k hk).1,fun q=>?_⟩
    rcases A5.1 q with rfl | q
    ·exact n1 (k5 _ hk).1
    ·exact (k5 k hk).2 q
   ·intro k hk
    rcases A5.1 hk with rfl | hk
    ·simp
    ·exact BC _ (k6 k hk)
def Q6:List Fact→Nat→Option (Nat×List PE×Nat)
 | [],_=>none
 | .sl t (.ip r p m [])::st,u=>if t=u then some (r,p,m) else Q6 st u
 | _::st,u=>Q6 st u
def Ov:List Fact→Nat→Option Nat
 | [],_=>none
 | .sl t (.ag r [])::st,u=>if t=u then some r else Ov st u
 | _::st,u=>Ov st u
def Ob (st:List Fact) (r:Nat):List Nat:=st.filterMap fun f=>match f with
 | .sl t (.ag r' [])=>if r'=r then some t else none
 | _=>none
def CA (n:Nat) (l:List (Nat×Gd)):List Fact:=l.map fun y=>.sl y.1 (.is n y.2)
def Ed (n:Nat) (l:List Nat):List Fact:=l.map fun y=>.sl y (.ag n [])
def Zo (l:List (Nat×Gd)):List (Nat×Gd):=l.drop (l.length-1)
def Nu (st:List Fact) (AB:Nat) (code:Nat):Option (Pr×Sm):=
 if 600000≤code then
  match Bd st ((code-600000) % 1000) with
  | some (.ip r p m [])=>(Bj st r).bind fun sr=>(sr.under p.length).bind fun es=>(Dq es).bind fun i=>
    some (.sp r p (min i ((code-600000) / 1000)),⟨[.sl ((code-600000) % 1000) (.ip r p m []),.en r sr]++(CA r (Zo (slotsOf st r))++Ed r []),[r],
     .en AB (ow ((code-600000) / 1000))::.en (AB+1) sr::.sl ((code-600000) % 1000) (.is AB [])::.sl ((code-600000) % 1000) (.ip (AB+1) p AB [])::(CA (AB+1) (Zo (slotsOf st r))++Ed (AB+1) [])⟩)
  | _=>none
 else if 550000≤code then
  match Bd st (code-550000) with
  | some (.is n [])=>(Bj st n).bind fun s=>if s.okF=true then
    some (.cy (.e n),⟨[.sl (code-550000) (.is n []),.en n s]++CA n (slotsOf st n),[n],.en AB .v::CA AB (slotsOf st n)⟩) else none
  | _=>none
 else if 500000≤code then
  match Bd st (code-500000) with
  | some (.is n [])=>match Bj st n with
   | some (.o s)=>some (.ln (.e n) [],⟨[.sl (code-500000) (.is n []),.en n (.o s)],[],[.sl (code-500000) (.is n []),.sl (code-500000) (.lh n [])]⟩)
   | _=>none
  | _=>none
 else if 400000≤code then
  match Bd st (code-400000),Ov st (code-400000) with
  | some (.is m []),some h=>match Bj st m,Bj st h with
   | some (.a s),some (.b s')=>if s=s'∧m≠h then some (.cy (.e m),⟨[.sl (code-400000) (.is m []),.sl (code-400000) (.ag h []),.en m (.a s),.en h (.b s)]++CA h (slotsOf st h),[m,h],.en AB (.b s)::CA AB (slotsOf st h)⟩) else none
   | _,_=>none
  | _,_=>none
 else if 300000≤code then
  match (match Ov st (code-300000) with
   | some r=>some (r,Loc.ag r [])
   | none=>match Bd st (code-300000) with
    | some (.ia r m [])=>some (r,.ia r m [])
    | _=>none) with
  | some (r,l)=>match Bj st r with
   | some (.b s)=>if s.EA=true then some (.sw r,⟨[.sl (code-300000) l,.en r (.b s)]++CA r (slotsOf st r),[r],.en AB (.a s)::.en (AB+1) (.b s)::.sl (code-300000) (.is AB [])::.sl (code-300000) (.ag (AB+1) [])::CA (AB+1) (slotsOf st r)⟩) else none
   | _=>none
  | none=>none
 else if 200000≤code then
  match Bd st (code-200000),Q6 st (code-200000) with
  | some (.is m []),some (h,p,m0)=>match Bj st m,Bj st h with
   | some s1,some sr=>(Dq s1).bind fun k=>(sr.under p.length).bind fun es=>(Dq es).bind fun i=>
     if m≠h then some (.jn h p (.e m) (min k i),⟨[.sl (code-200000) (.is m []),.sl (code-200000) (.ip h p m0 []),.en m s1,.en h sr]++(CA h (slotsOf st h)++Ed h (Ob st h)),[m,h],.en AB sr::(CA AB (slotsOf st h)++Ed AB (Ob st h))⟩) else none
   | _,_=>none
  | _,_=>none
 else if 100000≤code then
  match Bd st ((code-100000) % 1000) with
  | some (.ip r p m [])=>(Bj st r).bind fun sr=>(sr.under p.length).bind fun es=>(Dq es).bind fun i=>
    some (.sp r p (min i ((code-100000) / 1000)),⟨[.sl ((code-100000) % 1000) (.ip r p m []),.en r sr]++(CA r (slotsOf st r)++Ed r (Ob st r)),[r],
     .en AB (ow ((code-100000) / 1000))::.en (AB+1) sr::.sl ((code-100000) % 1000) (.is AB [])::.sl ((code-100000) % 1000) (.ip (AB+1) p AB [])::(CA (AB+1) (slotsOf st r)++Ed (AB+1) (Ob st r))⟩)
  | _=>none
 else none
theorem AQ8 (k:Nat):(ow k).EA=true:=by cases k <;> rfl
section
variable {cf:CF} {sg:Nat→Option Sg} {c:Cx} {F:Fact→Prop} {E:Nat→D} {a:Act} {w:World} {vs:Nat→Value} {Bs:Nat→List Nat} {AB:Nat} {sm:Sm} {st:List Fact} {p:Pr}
 {K:Nat→List D→List D→Prop}
theorem Av.two (H:Av c F E a w vs Bs) {r:Nat} {sr:Sh} (hr:F (.en r sr)) {m:Nat} (f0:BX F m) (f1:BX F (m+1)) {s1 s2:Sh} {v1 v2:Value} {B1 B2:List Nat}
  (o1:AF c.fid w.heap (OB F Bs) c.Xb s1 (E m) v1 B1) (o2:AF c.fid w.heap (OB F Bs) c.Xb s2 (E (m+1)) v2 B2) (n1:B1.Nodup) (n2:B2.Nodup) (b1:∀ k∈B1,k∈Bs r∧k∉B2) (b2:∀ k∈B2,k∈Bs r):
  Av c (next F none ⟨[],[r],[.en m s1,.en (m+1) s2]⟩) E a w (AP (AP vs m v1) (m+1) v2) (AP (AP Bs m B1) (m+1) B2):=by
 let V:Nat→Value:=AP (AP vs m v1) (m+1) v2
 let W:Nat→List Nat:=AP (AP Bs m B1) (m+1) B2
 have hV0:V m=v1:=by simp only [V]; rw [BO _ _ (by omega),Au]
 have hV1:V (m+1)=v2:=by simp only [V]; rw [Au]
 have hW0:W m=B1:=by simp only [W]; rw [BO _ _ (by omega),Au]
 have hW1:W (m+1)=B2:=by simp only [W]; rw [Au]
 have nx:∀ n s',(n=m∨n=m+1)→next F none ⟨[],[r],[.en m s1,.en (m+1) s2]⟩ (.en n s')→(n=m∧s'=s1)∨(n=m+1∧s'=s2):=by
  rintro n s' hn (⟨q,_⟩ | q)
  ·rcases hn with rfl | rfl
   ·exact (f0.1 _ q).elim
   ·exact (f1.1 _ q).elim
  ·simp only [A5,Cg,or_false] at q
   rcases q with q | q
   ·injection q with q1 q2; exact .inl ⟨q1,q2⟩
   ·injection q with q1 q2; exact .inr ⟨q1,q2⟩
 refine Av.step (fun n=>n=m∨n=m+1) (fun n=>n∈[r]) (fun _=>False) none H (fun n hn=>by rw [BO _ _ (fun e=>hn (.inr e)),BO _ _ (fun e=>hn (.inl e))])
  (fun n hn=>by rw [BO _ _ (fun e=>hn (.inr e)),BO _ _ (fun e=>hn (.inl e))])
  (fun t l hl n hn q=>by
   rcases q with rfl | rfl
   ·exact f0.2 t l hl hn
   ·exact f1.2 t l hl hn)
  (fun _ q=>q.elim) (Af.refl _ _) rfl rfl rfl (fun _ _=>rfl) rfl rfl ?_ ?_ ?_ ?_ ?_ ?_
 ·rintro f (⟨h1,h2⟩ | q)
  ·left; refine ⟨h1,?_⟩; cases f <;> exact h2
  ·right
   simp only [A5,Cg,or_false] at q
   rcases q with rfl | rfl
   ·exact .inl rfl
   ·exact .inr rfl
 ·intro n s' hn hf
  have hOO:∀ b',b' < w.heap.size→(DO F Bs (fun n=>n∈[r]) b'∨∃ k,(k=m∨k=m+1)∧b'∈W k)→OB F Bs b':=by
   rintro b' _ (⟨n1,s1,z1,_,z3⟩ | ⟨k,hk,hb'⟩)
   ·exact ⟨n1,s1,z1,z3⟩
   ·refine ⟨r,_,hr,?_⟩
    rcases hk with rfl | rfl
    ·rw [hW0] at hb'; exact (b1 _ hb').1
    ·rw [hW1] at hb'; exact b2 _ hb'
  rcases nx n s' hn hf with ⟨rfl,rfl⟩ | ⟨rfl,rfl⟩
  ·show AF c.fid w.heap _ c.Xb s' (E n) (V n) (W n)
   rw [hV0,hW0]
   exact AF.ext (Af.refl (fun _=>False) _) (fun _ _ q=>q.elim) hOO _ _ _ _ (fun _ _ q=>q) o1
  ·show AF c.fid w.heap _ c.Xb s' (E (m+1)) (V (m+1)) (W (m+1))
   rw [hV1,hW1]
   exact AF.ext (Af.refl (fun _=>False) _) (fun _ _ q=>q.elim) hOO _ _ _ _ (fun _ _ q=>q) o2
 ·intro n s' hn hf
  show (W n).Nodup
  rcases nx n s' hn hf with ⟨rfl,rfl⟩ | ⟨rfl,rfl⟩
  ·rw [hW0]; exact n1
  ·rw [hW1]; exact n2
 ·intro n s' hn hf b' hb'
  refine .inl ⟨r,_,hr,by simp,?_⟩
  have hb':b'∈W n:=hb'
  rcases nx n s' hn hf with ⟨rfl,rfl⟩ | ⟨rfl,rfl⟩
  ·rw [hW0] at hb'; exact (b1 _ hb').1
  ·rw [hW1] at hb'; exact b2 _ hb'
 ·intro n s' k r' hn hk hf hg hne b' hb' hb2
  have hb':b'∈W n:=hb'
  have hb2:b'∈W k:=hb2
  rcases nx n s' hn hf with ⟨rfl,rfl⟩ | ⟨rfl,rfl⟩ <;> rcases nx k r' hk hg with ⟨rfl,rfl⟩ | ⟨rfl,rfl⟩
  ·exact hne rfl
  ·rw [hW0] at hb'; rw [hW1] at hb2; exact (b1 _ hb').2 hb2
  ·rw [hW1] at hb'; rw [hW0] at hb2; exact (b1 _ hb2).2 hb'
  ·exact hne rfl
 ·intro t' l' ht'
  cases ht'
theorem ZG (hfr:∀ j,j<2→BX F (AB+j)) (H:Av c F E a w vs Bs) {t r m k i:Nat} {q:List PE} {sr es:Sh} {l1:List (Nat×Gd)} {l2:List Nat} (hsl:F (.sl t (.ip r q m []))) (hr:F (.en r sr)) (hs:sr.under q.length=some es) (hi:Dq es=some i)
  (h1:∀ f∈CA r l1,F f) (h2:∀ f∈Ed r l2,F f) (hE:F6 (min i k) (E r) (q.mapM (PE.ev E))=some (E AB,E (AB+1))) (ns:List Fact):
  D6 c (next F none ⟨ns,[r],.en AB (ow k)::.en (AB+1) sr::.sl t (.is AB [])::.sl t (.ip (AB+1) q AB [])::(CA (AB+1) l1++Ed (AB+1) l2)⟩) E a w:=by
 have f0:BX F AB:=by simpa using hfr 0 (by omega)
 have f1:BX F (AB+1):=hfr 1 (by omega)
 have hown:=H.own r _ hr
 obtain ⟨is,gb,go,d0,k1,k2,k3,k4⟩:=H.loc t _ hsl (by simp [Ae]) ⟨sr,hr⟩
 have hne:is≠[]:=by rintro rfl; simp [Wk] at k3
 unfold F6 at hE
 have hq:q.mapM (PE.ev E)=some is:=k1
 rw [hq,Option.bind_some,k2,Option.bind_some] at hE
 split at hE
 ·rename_i hdep
  simp only [A7,AI] at hE
  obtain ⟨dh,hset,hd1,rfl⟩:=hE
  have hes:=J0 hi
  subst hes
  rw [hd1] at k2 hdep
  obtain ⟨B1,B2,o1,o2,b1,b2,n1,n2⟩:=AF.split (AQ8 i) is sr (E r) (E AB) (E (AB+1)) (vs r) (vs m) (Bs r) gb go hne hown (H.nodup r _ hr) (by rw [Gn k1]; exact hs) k2 hset k3
  have H1:=H.two hr f0 f1 (AF.lift i k _ _ _ o1 hdep) o2 n1 n2 b1 b2
  have hrc:r≠AB:=by rintro rfl; exact f0.1 _ hr
  have hrc1:r≠AB+1:=by rintro rfl; exact f1.1 _ hr
  have hmc:m≠AB:=by rintro rfl; exact f0.2 _ _ hsl (by simp [Loc.AZ])
  have hmc1:m≠AB+1:=by rintro rfl; exact f1.2 _ _ hsl (by simp [Loc.AZ])
  have e0:AP (AP vs AB (vs m)) (AB+1) (vs r) AB=vs m:=by rw [BO _ _ (by omega),Au]
  have e1:AP (AP vs AB (vs m)) (AB+1) (vs r) (AB+1)=vs r:=Au _ _ _
  have er:AP (AP vs AB (vs m)) (AB+1) (vs r) r=vs r:=by rw [BO _ _ hrc1,BO _ _ hrc]
  have hgl:∃ x,A9 is (E (AB+1))=some x:=by
   have gs:∀ (is:List Nat) (x y:D),Aa is x .u=some y→∃ d,A9 is y=some d:=by
    intro is
    induction is with
    | nil=>intro x y _; exact ⟨y,rfl⟩
    | cons j is ih=>
     intro x y hg
     cases x with
     | l ys=>
      simp only [Aa,A7,AQ] at hg
      obtain ⟨y1,⟨x1,hx1,hy1⟩,rfl⟩:=hg
      obtain ⟨d,hd⟩:=ih x1 y1 hy1
      have hj:j<ys.length:=(List.getElem?_eq_some_iff.1 hx1).1
      exact ⟨d,by simp [A9,hj,hd]⟩
     | g ys=>
      simp only [Aa,A7,AQ] at hg
      obtain ⟨y1,⟨x1,hx1,hy1⟩,rfl⟩:=hg
      obtain ⟨d,hd⟩:=ih x1 y1 hy1
      have hj:j<ys.length:=(List.getElem?_eq_some_iff.1 hx1).1
      exact ⟨d,by simp [A9,hj,hd]⟩
     | _=>simp [Aa] at hg
   exact gs is _ _ hset
  obtain ⟨x0,hx0⟩:=hgl
  refine ⟨_,_,H1.EO ?_ ?_⟩
  ·intro n' s'
   simp only [next,CA,Ed,A5,A8,List.mem_map,Cg,or_false]
   constructor
   ·rintro (q | q | q | q | q | ⟨_,_,q⟩ | ⟨_,_,q⟩)
    ·exact .inl q
    ·exact .inr (.inl q)
    ·exact .inr (.inr q)
    ·cases q
    ·cases q
    ·cases q
    ·cases q
   ·rintro (q | q | q)
    ·exact .inl q
    ·exact .inr (.inl q)
    ·exact .inr (.inr (.inl q))
  ·intro t' l' hf
   rcases hf with ⟨q1,q2⟩ | q
   ·exact .inl (.inl ⟨q1,q2⟩)
   ·simp only [CA,Ed,A5,A8,List.mem_map] at q
    rcases q with q | q | q | q | ⟨⟨u',gu⟩,hu,q⟩ | ⟨u',hu,q⟩
    ·cases q
    ·cases q
    ·injection q with q1 q2
     subst q1 q2
     right
     refine ⟨fun _=>?_,fun q=>(q (by simp [Ae])).elim⟩
     rw [e0]; exact k4
    ·injection q with q1 q2
     subst q1 q2
     right
     intro _ _
     exact ⟨is,gb,go,x0,k1,hx0,by rw [e0,e1]; exact k3,by rw [e0]; exact k4⟩
    ·injection q with q1 q2
     subst q1 q2
     have hf0:F (.sl u' (.is r gu)):=h1 _ (List.mem_map.2 ⟨(u',gu),hu,rfl⟩)
     have:=H.loc u' _ hf0
     right
     refine ⟨fun hg=>?_,this.2⟩
     rw [e1]; exact this.1 hg
    ·injection q with q1 q2
     subst q1 q2
     have hf0:F (.sl u' (.ag r [])):=h2 _ (List.mem_map.2 ⟨u',hu,rfl⟩)
     obtain ⟨xs,b,cs,e,fz,j1,j2,j3,j4⟩:=H.loc u' _ hf0 (by simp [Ae]) ⟨sr,hr⟩
     right
     intro _ _
     have hg2:∃ ys,E (AB+1)=.g ys:=by
      rw [j1] at hset
      cases is with
      | nil=>exact (hne rfl).elim
      | cons j is=>
       simp only [Aa,A7] at hset
       obtain ⟨y,_,hy⟩:=hset
       exact ⟨_,hy.symm⟩
     obtain ⟨ys,hys⟩:=hg2
     exact ⟨ys,b,cs,e,fz,hys,by rw [e1]; exact j2,j3,j4⟩
 ·cases hE
theorem AI9 (hfr:BX F AB) (H:Av c F E a w vs Bs) {t h m m0 k i:Nat} {q:List PE} {s1 sr es:Sh} {l1:List (Nat×Gd)} {l2:List Nat} (hsl:F (.sl t (.is m []))) (hsp:F (.sl t (.ip h q m0 []))) (hm:F (.en m s1)) (hh:F (.en h sr)) (hmh:m≠h)
  (hk:Dq s1=some k) (hs:sr.under q.length=some es) (hi:Dq es=some i)
  (h1:∀ f∈CA h l1,F f) (h2:∀ f∈Ed h l2,F f) (hE:AS E (.jn h q (.e m) (min k i))=some (E AB)) (ns:List Fact):
  D6 c (next F none ⟨ns,[m,h],.en AB sr::(CA AB l1++Ed AB l2)⟩) E a w:=by
 have hownh:=H.own h _ hh
 have hownm:=H.own m _ hm
 obtain ⟨is,gb,go,d0,k1,k2,k3,k4⟩:=H.loc t _ hsp (by simp [Ae]) ⟨sr,hh⟩
 have k5:=(H.loc t _ hsl).1 (by simp [Ae])
 have hv0:vs m0=vs m:=by rw [k4] at k5; injection k5
 have hne:is≠[]:=by rintro rfl; simp [Wk] at k3
 have hq:q.mapM (PE.ev E)=some is:=k1
 have hE0:(if ((E m).one&&Be (min k i) (E m))=true then (q.mapM (PE.ev E)).bind fun is=>Aa is (E h) (E m) else none)=some (E AB):=hE
 split at hE0
 ·rename_i hc
  simp only [Ac] at hc
  obtain ⟨hone,hdep⟩:=hc
  rw [hq,Option.bind_some] at hE0
  have hs1:=J0 hk
  have hes:=J0 hi
  subst hs1 hes
  have hsu:sr.under is.length=some (ow i):=by rw [Gn k1]; exact hs
  obtain ⟨b2,o2,x2,B2,w1,_,_,hgbB⟩:=Wk.Gs is sr (ow i) (E h) d0 (vs h) (Bs h) hne hownh k2 hsu
  obtain ⟨rfl,rfl,_⟩:=Wk.Hj is k3 w1
  obtain ⟨gcs,ge,gfz,c1,c2⟩:=k3.cell
  have hfz:gfz=(0,0):=Ou is sr (E h) d0 (vs h) (Bs h) hownh k2 hsu k3 c1
  subst hfz
  rw [hv0] at c2
  have hset:gcs.setIfInBounds go (vs m)=gcs:=by
   apply Array.ext
   ·simp
   ·intro j hj1 hj2
    rw [Array.getElem_setIfInBounds]
    split
    ·rename_i e
     subst e
     obtain ⟨q1,q2⟩:=Array.getElem?_eq_some_iff.1 c2
     exact q2.symm
    ·rfl
  have hdis:∀ b∈Bs h,b∉Bs m:=fun b hb hbm=>H.apart h _ m _ hh hm (Ne.symm hmh) b hb hbm
  have hO:∀ b,b<w.heap.size→(DO F Bs (fun n=>n∈[m,h]) b∨b∈Bs h∨b∈Bs m)→OB F Bs b:=by
   rintro b _ (⟨n1,s1,z1,_,z3⟩ | q | q)
   ·exact ⟨n1,s1,z1,z3⟩
   ·exact ⟨h,_,hh,q⟩
   ·exact ⟨m,_,hm,q⟩
  have x1:AF c.fid w.heap (fun b=>DO F Bs (fun n=>n∈[m,h]) b∨b∈Bs h∨b∈Bs m) c.Xb (ow i) (E m) (vs m) (Bs m):=
   AF.ext (Af.refl (fun _=>False) _) (fun _ _ q=>q.elim) hO _ _ _ _ (fun _ _ q=>q) (AF.lift k i _ _ _ hownm hdep)
  obtain ⟨B',s1,s2,s3,_⟩:=AF.set (O:=OB F Bs) (fun b _=>rfl) rfl c1 (by rw [hset]; exact c1) ⟨h,sr,hh,hgbB⟩ hO x1 is sr (E h) (E AB) (vs h) _ (Bs h) hne hownh (H.nodup h sr hh) hdis (H.nodup m _ hm) hsu hE0 k3
  have hhc:h≠AB:=by rintro rfl; exact hfr.1 _ hh
  have H1:=H.put (m:=AB) (s:=sr) (v:=vs h) (B:=B') (dst:=none) (ns:=[]) (w':=w) (g:=[]) hfr (by simp [BN]) [m,h] (Af.refl _ _) rfl rfl rfl
   (AF.ext (Af.refl (fun _=>False) _) (fun _ _ q=>q.elim) (fun b hb hb2=>by
    rcases hb2 with hb2 | hb2
    ·exact .inl hb2
    ·exact .inr (s2 b hb2)) _ _ _ _ (fun _ _ q=>q) s1) s3
   (fun b hb=>by
    rcases s2 b hb with hb | hb
    ·exact .inl ⟨h,sr,hh,by simp,hb⟩
    ·exact .inl ⟨m,_,hm,by simp,hb⟩) (by simp [Ae])
  refine ⟨AP vs AB (vs h),AP Bs AB B',H1.EO ?_ ?_⟩
  ·intro n' s'
   simp only [next,one,CA,Ed,A5,A8,List.mem_map,Cg,or_false]
   constructor
   ·rintro (q | q | ⟨_,_,q⟩ | ⟨_,_,q⟩)
    ·exact .inl q
    ·exact .inr q
    ·cases q
    ·cases q
   ·rintro (q | q)
    ·exact .inl q
    ·exact .inr (.inl q)
  ·intro t' l' hf
   rcases hf with ⟨q1,q2⟩ | q
   ·exact .inl (.inl ⟨q1,q2⟩)
   ·simp only [CA,Ed,A5,A8,List.mem_map] at q
    rcases q with q | ⟨⟨u',gu⟩,hu,q⟩ | ⟨u',hu,q⟩
    ·cases q
    ·injection q with q1 q2
     subst q1 q2
     have hf0:F (.sl u' (.is h gu)):=h1 _ (List.mem_map.2 ⟨(u',gu),hu,rfl⟩)
     have:=H.loc u' _ hf0
     right
     refine ⟨fun hg=>?_,this.2⟩
     rw [Au]; exact this.1 hg
    ·injection q with q1 q2
     subst q1 q2
     have hf0:F (.sl u' (.ag h [])):=h2 _ (List.mem_map.2 ⟨u',hu,rfl⟩)
     obtain ⟨xs,b,cs,e,fz,j1,j2,j3,j4⟩:=H.loc u' _ hf0 (by simp [Ae]) ⟨sr,hh⟩
     right
     intro _ _
     have hg2:∃ ys,E AB=.g ys:=by
      rw [j1] at hE0
      cases is with
      | nil=>exact (hne rfl).elim
      | cons j is=>
       simp only [Aa,A7] at hE0
       obtain ⟨y,_,hy⟩:=hE0
       exact ⟨_,hy.symm⟩
     obtain ⟨ys,hys⟩:=hg2
     exact ⟨ys,b,cs,e,fz,hys,by rw [Au]; exact j2,j3,j4⟩
 ·cases hE0
theorem AD0 {fid:Nat→Nat} {h:Array Obj} {O X:Nat→Prop} {s:Sh} (hs:s.EA=true):∀ (vs:List Value),AK (AF fid h O X s) (List.replicate vs.length .u) vs []
 | []=>by simp [AK]
 | v::vs=>by
  simp only [A6,List.replicate_succ,AK]
  exact ⟨[],[],rfl,AF.Qy hs v,AD0 hs vs⟩
theorem ASH (hfr:∀ j,j<2→BX F (AB+j)) (H:Av c F E a w vs Bs) {t r:Nat} {s:Sh} {l1:List (Nat×Gd)} (hr:F (.en r (.b s))) (hs:s.EA=true)
  (hag:∃ xs b cs e fz,E r=.g xs∧vs r=.pointer (some ⟨b,0,none⟩)∧w.heap[b]?=some (.cells cs e fz)∧a.tmps[t]?=some (.agg cs)) (h1:∀ f∈CA r l1,F f)
  (hE:Jw (E r)=some (E AB,E (AB+1))) (ns:List Fact):
  D6 c (next F none ⟨ns,[r],.en AB (.a s)::.en (AB+1) (.b s)::.sl t (.is AB [])::.sl t (.ag (AB+1) [])::CA (AB+1) l1⟩) E a w:=by
 have f0:BX F AB:=by simpa using hfr 0 (by omega)
 have f1:BX F (AB+1):=hfr 1 (by omega)
 have hown:=H.own r _ hr
 simp only [AF] at hown
 obtain ⟨xs,b,cs,e,fz,B',e1,e2,e3,e4,e5,e6,e7⟩:=hown
 have hfz:fz=(0,0):=e5
 subst hfz
 obtain ⟨xs',b',cs',e',fz',j1,j2,j3,j4⟩:=hag
 rw [e3] at j2
 injection j2 with j2
 injection j2 with j2
 injection j2 with j2
 subst j2
 rw [e4] at j3
 injection j3 with j3
 injection j3 with j3 _ _
 subst j3
 rw [e1] at hE
 simp only [Jw,AJ,AI] at hE
 obtain ⟨hE1,hE2⟩:=hE
 have hnd:=H.nodup r _ hr
 rw [e2] at hnd
 obtain ⟨n1,n2⟩:=List.nodup_cons.1 hnd
 have hlen:cs.toList.length=xs.length:=by simpa using e6
 have H1:=H.two hr f0 f1 (s1:=.a s) (s2:=.b s) (v1:=.agg cs) (v2:=vs r) (B1:=B') (B2:=[b])
  (by rw [← hE1]; simp only [AF]; exact ⟨xs,cs,rfl,rfl,e6,e7⟩)
  (by
   rw [← hE2,e3]
   simp only [AF]
   refine ⟨_,b,cs,e,(0,0),[],rfl,rfl,rfl,e4,rfl,by simp [e6],?_⟩
   rw [← hlen]
   exact AD0 hs _) n2 (by simp)
  (fun k hk=>⟨by rw [e2]; exact BC _ hk,by simp only [List.mem_singleton]; rintro rfl; exact n1 hk⟩) (fun k hk=>by rw [e2]; simp only [List.mem_singleton] at hk; subst hk; simp)
 have e0:AP (AP vs AB (.agg cs)) (AB+1) (vs r) AB=.agg cs:=by rw [BO _ _ (by omega),Au]
 have e1':AP (AP vs AB (.agg cs)) (AB+1) (vs r) (AB+1)=vs r:=Au _ _ _
 refine ⟨_,_,H1.EO ?_ ?_⟩
 ·intro n' s'
  simp only [next,CA,A5,List.mem_map,Cg,or_false]
  constructor
  ·rintro (q | q | q | q | q | ⟨_,_,q⟩)
   ·exact .inl q
   ·exact .inr (.inl q)
   ·exact .inr (.inr q)
   ·cases q
   ·cases q
   ·cases q
  ·rintro (q | q | q)
   ·exact .inl q
   ·exact .inr (.inl q)
   ·exact .inr (.inr (.inl q))
 ·intro t' l' hf
  rcases hf with ⟨q1,q2⟩ | q
  ·exact .inl (.inl ⟨q1,q2⟩)
  ·simp only [CA,A5,List.mem_map] at q
   rcases q with q | q | q | q | ⟨⟨u',gu⟩,hu,q⟩
   ·cases q
   ·cases q
   ·injection q with q1 q2
    subst q1 q2
    right
    refine ⟨fun _=>?_,fun q=>(q (by simp [Ae])).elim⟩
    rw [e0]; exact j4
   ·injection q with q1 q2
    subst q1 q2
    right
    intro _ _
    exact ⟨_,b,cs,e,(0,0),hE2.symm,by rw [e1',e3],e4,j4⟩
   ·injection q with q1 q2
    subst q1 q2
    have hf0:F (.sl u' (.is r gu)):=h1 _ (List.mem_map.2 ⟨(u',gu),hu,rfl⟩)
    have:=H.loc u' _ hf0
    right
    refine ⟨fun hg=>?_,this.2⟩
    rw [e1']; exact this.1 hg
theorem ARX (hfr:BX F AB) (H:Av c F E a w vs Bs) {t h m:Nat} {s:Sh} {l1:List (Nat×Gd)} (hsl:F (.sl t (.is m []))) (hsp:F (.sl t (.ag h []))) (hm:F (.en m (.a s))) (hh:F (.en h (.b s))) (hmh:m≠h)
  (h1:∀ f∈CA h l1,F f) (hE:some (E m)=some (E AB)) (ns:List Fact):
  D6 c (next F none ⟨ns,[m,h],.en AB (.b s)::CA AB l1⟩) E a w:=by
 injection hE with hE
 have hownh:=H.own h _ hh
 have hownm:=H.own m _ hm
 simp only [AF] at hownh hownm
 obtain ⟨xs,b,cs,e,fz,B',e1,e2,e3,e4,e5,e6,e7⟩:=hownh
 have hfz:fz=(0,0):=e5
 subst hfz
 obtain ⟨ys,cs',d1,d2,d3,d4⟩:=hownm
 obtain ⟨xs',b',cs2,e',fz',j1,j2,j3,j4⟩:=H.loc t _ hsp (by simp [Ae]) ⟨_,hh⟩
 have j5:=(H.loc t _ hsl).1 (by simp [Ae])
 rw [e3] at j2
 injection j2 with j2
 injection j2 with j2
 injection j2 with j2
 subst j2
 rw [e4] at j3
 injection j3 with j3
 injection j3 with j3 _ _
 subst j3
 rw [j4,d2] at j5
 injection j5 with j5
 injection j5 with j5
 subst j5
 have hbm:b∉Bs m:=fun hb=>H.apart h _ m _ hh hm (Ne.symm hmh) b (by rw [e2]; simp) hb
 have H1:=H.put (m:=AB) (s:=.b s) (v:=vs h) (B:=b::Bs m) (dst:=none) (ns:=[]) (w':=w) (g:=[]) hfr (by simp [BN]) [m,h] (Af.refl _ _) rfl rfl rfl
  (by
   rw [← hE,d1,e3]
   simp only [AF]
   refine ⟨ys,b,cs,e,(0,0),Bs m,rfl,rfl,rfl,e4,rfl,d3,AK.imp (fun d v B1 hB1 q=>?_) d4⟩
   refine AF.ext (Af.refl (fun _=>False) _) (fun _ _ q=>q.elim) ?_ _ _ _ _ (fun _ _ q=>q) q
   rintro x _ (⟨n1,s1,q1,_,q3⟩ | q)
   ·exact ⟨n1,s1,q1,q3⟩
   ·rcases A5.1 q with rfl | q
    ·exact ⟨h,_,hh,by rw [e2]; simp⟩
    ·exact ⟨m,_,hm,q⟩)
  (List.nodup_cons.2 ⟨hbm,H.nodup m _ hm⟩)
  (fun x hx=>by
   rcases A5.1 hx with rfl | hx
   ·exact .inl ⟨h,_,hh,by simp,by rw [e2]; simp⟩
   ·exact .inl ⟨m,_,hm,by simp,hx⟩) (by simp [Ae])
 refine ⟨_,_,H1.EO ?_ ?_⟩
 ·intro n' s'
  simp only [next,one,CA,A5,List.mem_map,Cg,or_false]
  constructor
  ·rintro (q | q | ⟨_,_,q⟩)
   ·exact .inl q
   ·exact .inr q
   ·cases q
  ·rintro (q | q)
   ·exact .inl q
   ·exact .inr (.inl q)
 ·intro t' l' hf
  rcases hf with ⟨q1,q2⟩ | q
  ·exact .inl (.inl ⟨q1,q2⟩)
  ·simp only [CA,A5,List.mem_map] at q
   rcases q with q | ⟨⟨u',gu⟩,hu,q⟩
   ·cases q
   ·injection q with q1 q2
    subst q1 q2
    have hf0:F (.sl u' (.is h gu)):=h1 _ (List.mem_map.2 ⟨(u',gu),hu,rfl⟩)
    have:=H.loc u' _ hf0
    right
    refine ⟨fun hg=>?_,this.2⟩
    rw [Au]; exact this.1 hg
theorem AQK (hfr:BX F AB) (H:Av c F E a w vs Bs) {n:Nat} {s:Sh} {l1:List (Nat×Gd)} (hn:F (.en n s)) (hs:s.okF=true) (h1:∀ f∈CA n l1,F f) (hE:some (E n)=some (E AB)) (ns:List Fact):
  D6 c (next F none ⟨ns,[n],.en AB .v::CA AB l1⟩) E a w:=by
 injection hE with hE
 have H1:=H.put (m:=AB) (s:=.v) (v:=vs n) (B:=[]) (dst:=none) (ns:=[]) (w':=w) (g:=[]) hfr (by simp [BN]) [n] (Af.refl _ _) rfl rfl rfl
  (by
   rw [← hE]
   simp only [AF,true_and]
   refine AF.freeze (O:=OB F Bs) (X:=c.Xb) ?_ s _ _ (Bs n) hs ?_ (H.own n s hn)
   ·rintro b _ ((⟨m,r,q1,_,q3⟩ | q) | q)
    ·exact .inl ⟨m,r,q1,q3⟩
    ·cases q
    ·exact .inr q
   ·rintro b hb ((⟨m,r,q1,q2,q3⟩ | q) | q)
    ·exact H.apart m r n s q1 hn (fun e=>q2 (by simp [e])) b q3 hb
    ·cases q
    ·obtain ⟨x1,x2⟩:=c.hX b q
     rcases H.mine n s hn b hb with x3 | x3
     ·omega
     ·exact x2 x3) (by simp) (fun x hx=>by cases hx) (by simp [Ae])
 refine ⟨_,_,H1.EO ?_ ?_⟩
 ·intro n' s'
  simp only [next,one,CA,A5,List.mem_map,Cg,or_false]
  constructor
  ·rintro (q | q | ⟨_,_,q⟩)
   ·exact .inl q
   ·exact .inr q
   ·cases q
  ·rintro (q | q)
   ·exact .inl q
   ·exact .inr (.inl q)
 ·intro t' l' hf
  rcases hf with ⟨q1,q2⟩ | q
  ·exact .inl (.inl ⟨q1,q2⟩)
  ·simp only [CA,A5,List.mem_map] at q
   rcases q with q | ⟨⟨u',gu⟩,hu,q⟩
   ·cases q
   ·injection q with q1 q2
    subst q1 q2
    have hf0:F (.sl u' (.is n gu)):=h1 _ (List.mem_map.2 ⟨(u',gu),hu,rfl⟩)
    have:=H.loc u' _ hf0
    right
    refine ⟨fun hg=>?_,this.2⟩
    rw [Au]; exact this.1 hg
theorem ANP (H:Av c F E a w vs Bs) {t n:Nat} {s:Sh} (h1:F (.sl t (.is n []))) (h2:F (.en n (.o s))) (hE:Ai K E AB (.ln (.e n) [])) (ns:List Fact):
  D6 c (next F none ⟨ns,[],[.sl t (.is n []),.sl t (.lh n [])]⟩) E a w:=by
 have hE':E4 (E n)=some (E AB):=by
  simpa [Ai,AS,DU,ev,A9] using hE
 obtain ⟨xs,hx⟩:∃ xs,E n=.l xs:=by
  unfold E4 at hE'
  split at hE'
  ·exact ⟨_,‹_›⟩
  ·cases hE'
 have hown:=H.own n _ h2
 have hl:=(H.loc t _ h1).1 (by simp [Ae])
 rw [hx] at hown
 refine ⟨vs,Bs,H.EO (fun m r=>?_) (fun u l hf=>?_)⟩
 ·simp [next]
 ·rcases hf with ⟨q,_⟩ | q
  ·exact .inl q
  ·simp only [A5,Cg,or_false] at q
   rcases q with q | q
   ·rw [q]; exact .inl h1
   right
   injection q with q1 q2
   subst q1 q2
   intro _
   simp only [AF] at hown
   rcases hown with ⟨q | q,_⟩ | ⟨ys,hy,r⟩
   ·cases q
   ·simp [D.flat] at q
   ·injection hy with hy
    subst hy
    rcases r with ⟨hv,rfl,_⟩ | ⟨b,off,cap,cs1,e1,fz1,B',_,hv,_⟩
    ·exact ⟨[],none,0,0,hx,hv,rfl,fun i hi=>by omega,hl⟩
    ·exact ⟨xs,_,_,_,hx,hv,rfl,fun i hi=>⟨b,off,rfl⟩,hl⟩
theorem ADG {code:Nat} (ht:Nu st AB code=some (p,sm)) (H:Av c F E a w vs Bs) (hfr:∀ j,j<p.np→BX F (AB+j)) (hn:∀ f∈sm.needs,F f) (hE:Ai K E AB p):D6 c (next F none sm) E a w:=by
 unfold Nu at ht
 split at ht
 ·split at ht
  ·rename_i r q m e1
   simp only [AQ] at ht
   obtain ⟨sr,hsr,es,hes,i,hi,ht⟩:=ht
   simp only [AJ,AI] at ht
   obtain ⟨rfl,rfl⟩:=ht
   exact ZG (fun j hj=>hfr j (by simpa [Pr.np] using hj)) H (hn (.sl _ (.ip r q m [])) (by simp)) (hn _ (by simp)) hes hi
    (fun f hf=>hn f (Ak _ (Ay _ hf))) (fun f hf=>hn f (Ak _ (Ak _ hf))) hE _
  ·cases ht
 split at ht
 ·split at ht
  ·rename_i n e1
   simp only [AQ] at ht
   obtain ⟨s,e2,ht⟩:=ht
   split at ht
   ·rename_i hs
    simp only [AJ,AI] at ht
    obtain ⟨rfl,rfl⟩:=ht
    exact AQK (by simpa using hfr 0 (by simp [Pr.np])) H (hn (.en n s) (by simp)) hs (fun f hf=>hn f (Ak _ hf)) hE _
   ·cases ht
  ·cases ht
 split at ht
 ·split at ht
  ·rename_i n e1
   split at ht
   ·rename_i s e2
    simp only [AJ,AI] at ht
    obtain ⟨rfl,rfl⟩:=ht
    exact ANP H (hn (.sl (code-500000) (.is n [])) (by simp)) (hn (.en n (.o s)) (by simp)) hE _
   ·cases ht
  ·cases ht
 split at ht
 ·split at ht
  ·rename_i m h e1 e2
   split at ht
   ·rename_i s s' e3 e4
    split at ht
    ·rename_i hc
     obtain ⟨rfl,hmh⟩:=hc
     simp only [AJ,AI] at ht
     obtain ⟨rfl,rfl⟩:=ht
     exact ARX (by simpa using hfr 0 (by simp [Pr.np])) H (hn (.sl (code-400000) (.is m [])) (by simp)) (hn (.sl (code-400000) (.ag h [])) (by simp)) (hn _ (by simp)) (hn _ (by simp)) hmh (fun f hf=>hn f (Ak _ hf)) hE _
    ·cases ht
   ·cases ht
  ·cases ht
 ·split at ht
  ·split at ht
   ·rename_i r l hl
    split at ht
    ·rename_i s hs
     split at ht
     ·rename_i hlst
      simp only [AJ,AI] at ht
      obtain ⟨rfl,rfl⟩:=ht
      have hr:F (.en r (.b s)):=hn _ (by simp)
      have hl0:F (.sl (code-300000) l):=hn _ (by simp)
      refine ASH (fun j hj=>hfr j (by simpa [Pr.np] using hj)) H hr hlst ?_ (fun f hf=>hn f (Ak _ hf)) hE _
      split at hl
      ·injection hl with hl
       injection hl with h1 h2
       subst h1 h2
       exact H.loc _ _ hl0 (by simp [Ae]) ⟨_,hr⟩
      ·split at hl
       ·injection hl with hl
        injection hl with h1 h2
        subst h1 h2
        obtain ⟨xs,b,cs,e,fz,j1,_,j3,j4,j5,j6⟩:=H.loc _ _ hl0 (by simp [Ae]) ⟨_,hr⟩
        exact ⟨xs,b,cs,e,fz,j1,j3,j4,by rw [j6,j5]⟩
       ·cases hl
     ·cases ht
    ·cases ht
   ·cases ht
  ·split at ht
   ·split at ht
    ·rename_i m h q m0 e1 e2
     split at ht
     ·rename_i s1 sr e3 e4
      simp only [AQ] at ht
      obtain ⟨k,hk,es,hes,i,hi,ht⟩:=ht
      split at ht
      ·rename_i hmh
       simp only [AJ,AI] at ht
       obtain ⟨rfl,rfl⟩:=ht
       exact AI9 (by simpa using hfr 0 (by simp [Pr.np])) H (hn (.sl (code-200000) (.is m [])) (by simp)) (hn (.sl (code-200000) (.ip h q m0 [])) (by simp)) (hn _ (by simp)) (hn _ (by simp)) hmh hk hes hi
        (fun f hf=>hn f (Ak _ (Ay _ hf))) (fun f hf=>hn f (Ak _ (Ak _ hf))) hE _
      ·cases ht
     ·cases ht
    ·cases ht
   ·split at ht
    ·split at ht
     ·rename_i r q m e1
      simp only [AQ] at ht
      obtain ⟨sr,hsr,es,hes,i,hi,ht⟩:=ht
      simp only [AJ,AI] at ht
      obtain ⟨rfl,rfl⟩:=ht
      exact ZG (fun j hj=>hfr j (by simpa [Pr.np] using hj)) H (hn (.sl _ (.ip r q m [])) (by simp)) (hn _ (by simp)) hes hi
       (fun f hf=>hn f (Ak _ (Ay _ hf))) (fun f hf=>hn f (Ak _ (Ak _ hf))) hE _
     ·cases ht
    ·cases ht
end
end Go.Cat
namespace Go.Cat
def A.AZ:A→List Nat
 | .e n=>[n]
 | .c _=>[]
def L5:Option A→List Nat
 | some a=>a.AZ
 | none=>[]
def Pr.AZ:Pr→List Nat
 | .nop | .cs .. | .mm=>[]
 | .cy a | .un _ a | .cv _ a | .sn a | .bs a | .sy a=>a.AZ
 | .bi _ a b | .bb _ a b | .sx a b | .ap _ a b | .mx a b | .mn a b | .mk _ a b | .iy a b=>a.AZ++b.AZ
 | .pk a b c=>a.AZ++b.AZ++c.AZ
 | .ln a p=>a.AZ++p.flatMap PE.AZ
 | .ix a p i=>a.AZ++p.flatMap PE.AZ++i.AZ
 | .up n p a=>n::(p.flatMap PE.AZ++a.AZ)
 | .sb _ a lo hi=>a.AZ++L5 lo++L5 hi
 | .ss a lo hi=>a.AZ++L5 lo++L5 hi
 | .li _ xs=>xs.flatMap A.AZ
 | .ca _ xs _=>xs.flatMap A.AZ
 | .cd f _ xs _=>f.AZ++xs.flatMap A.AZ
 | .bg _ xs=>xs.flatMap fun x=>x.1.AZ
 | .bp a | .gp a _ | .nz _ a | .nn a | .wl _ a | .fp _ a _=>a.AZ
 | .gt a p=>a.AZ++p.flatMap PE.AZ
 | .ws n _ a=>n::a.AZ
 | .uq n p a _ _=>n::(p.flatMap PE.AZ++a.AZ)
 | .mu n k v=>n::(k.AZ++v.AZ)
 | .mg n k _=>n::k.AZ
 | .mo n k _=>n::k.AZ
 | .tk n=>[n]
 | .cb n=>[n]
 | .sp n p _=>n::p.flatMap PE.AZ
 | .sw n=>[n]
 | .jn n p a _=>n::(p.flatMap PE.AZ++a.AZ)
theorem BK {E E':Nat→D} {a:A} (h:∀ n∈a.AZ,E n=E' n):ev E a=ev E' a:=by
 cases a with
 | e n=>exact h n (by simp [A.AZ])
 | c d=>rfl
theorem PE.BK {E E':Nat→D} {p:PE} (h:∀ n∈p.AZ,E n=E' n):PE.ev E p=PE.ev E' p:=by
 cases p with
 | e n=>simp only [PE.ev]; rw [h n (by simp [PE.AZ])]
 | k n=>rfl
theorem Gp {E E':Nat→D}:∀ {p:List PE},(∀ n∈p.flatMap PE.AZ,E n=E' n)→p.mapM (PE.ev E)=p.mapM (PE.ev E')
 | [],_=>rfl
 | x::p,h=>by
  simp only [List.mapM_cons]
  rw [PE.BK fun n hn=>h n (by simp [hn]),Gp fun n hn=>h n (by simp only [List.flatMap_cons,A8]; exact .inr hn)]
theorem map_congr {E E':Nat→D}:∀ {xs:List A},(∀ n∈xs.flatMap A.AZ,E n=E' n)→xs.map (ev E)=xs.map (ev E')
 | [],_=>rfl
 | x::xs,h=>by
  simp only [List.map_cons]
  rw [BK fun n hn=>h n (by simp [hn]),map_congr fun n hn=>h n (by simp only [List.flatMap_cons,A8]; exact .inr hn)]
theorem UA {E E':Nat→D}:∀ {xs:List (A×Nat)},(∀ n∈xs.flatMap (fun x=>x.1.AZ),E n=E' n)→(xs.map fun x=>(ev E x.1,x.2))=(xs.map fun x=>(ev E' x.1,x.2))∧(xs.map fun x=>ev E x.1)=xs.map fun x=>ev E' x.1
 | [],_=>⟨rfl,rfl⟩
 | x::xs,h=>by
  have ih:=UA (E:=E) (E':=E') (xs:=xs) fun n hn=>h n (by simp only [List.flatMap_cons,A8]; exact .inr hn)
  simp only [List.map_cons]
  rw [BK fun n hn=>h n (by simp [hn]),ih.1,ih.2]
  exact ⟨rfl,rfl⟩
theorem PA {E E':Nat→D} {x:Option A} (h:∀ n∈L5 x,E n=E' n):x.map (ev E)=x.map (ev E'):=by
 cases x with
 | none=>rfl
 | some a=>exact congrArg some (BK h)
theorem AK8 {E E':Nat→D} {p:Pr} (h:∀ n∈p.AZ,E n=E' n):AS E p=AS E' p:=by
 cases p <;> simp only [Pr.AZ,A8,A5] at h <;> simp only [AS,DU]
 case cy a=>rw [BK h]
 case bi a b=>rw [BK fun n hn=>h n (.inl hn),BK fun n hn=>h n (.inr hn)]
 case bb a b=>rw [BK fun n hn=>h n (.inl hn),BK fun n hn=>h n (.inr hn)]
 case un a=>rw [BK h]
 case pk a b c=>rw [BK fun n hn=>h n (.inl (.inl hn)),BK fun n hn=>h n (.inl (.inr hn)),BK fun n hn=>h n (.inr hn)]
 case cv a=>rw [BK h]
 case ln a p=>rw [BK fun n hn=>h n (.inl hn),Gp fun n hn=>h n (.inr hn)]
 case sn a=>rw [BK h]
 case sx a b=>rw [BK fun n hn=>h n (.inl hn),BK fun n hn=>h n (.inr hn)]
 case ss a lo hi=>rw [BK fun n hn=>h n (.inl (.inl hn)),PA fun n hn=>h n (.inl (.inr hn)),PA fun n hn=>h n (.inr hn)]
 case ix a p i=>rw [BK fun n hn=>h n (.inl (.inl hn)),Gp fun n hn=>h n (.inl (.inr hn)),BK fun n hn=>h n (.inr hn)]
 case up n p a=>rw [h n (.inl rfl),Gp fun n hn=>h n (.inr (.inl hn)),BK fun n hn=>h n (.inr (.inr hn))]
 case sb a lo hi=>rw [BK fun n hn=>h n (.inl (.inl hn)),PA fun n hn=>h n (.inl (.inr hn)),PA fun n hn=>h n (.inr hn)]
 case ap a b=>rw [BK fun n hn=>h n (.inl hn),BK fun n hn=>h n (.inr hn)]
 case mk a b=>rw [BK fun n hn=>h n (.inl hn),BK fun n hn=>h n (.inr hn)]
 case iy a b=>rw [BK fun n hn=>h n (.inl hn),BK fun n hn=>h n (.inr hn)]
 case li xs=>rw [map_congr h]
 case bs a=>rw [BK h]
 case sy a=>rw [BK h]
 case mx a b=>rw [BK fun n hn=>h n (.inl hn),BK fun n hn=>h n (.inr hn)]
 case mn a b=>rw [BK fun n hn=>h n (.inl hn),BK fun n hn=>h n (.inr hn)]
 case bg k xs=>rw [(UA h).1,(UA h).2]
 case bp a=>rw [BK h]
 case gp a k=>rw [BK h]
 case nz w a=>rw [BK h]
 case nn a=>rw [BK h]
 case wl k a=>rw [BK h]
 case ws n k a=>rw [h n (.inl rfl),BK fun m hm=>h m (.inr hm)]
 case gt a p=>rw [BK fun n hn=>h n (.inl hn),Gp fun n hn=>h n (.inr hn)]
 case fp fl a k=>rw [BK h]
 case cb n=>rw [h n (by simp)]
 case mu n a b=>rw [h n (.inl rfl),BK fun m hm=>h m (.inr (.inl hm)),BK fun m hm=>h m (.inr (.inr hm))]
 case mg n a d=>rw [h n (.inl rfl),BK fun m hm=>h m (.inr hm)]
 case jn n p a k=>rw [h n (.inl rfl),Gp fun n hn=>h n (.inr (.inl hn)),BK fun n hn=>h n (.inr (.inr hn))]
 case uq n p a i k=>rw [h n (.inl rfl),Gp fun n hn=>h n (.inr (.inl hn)),BK fun n hn=>h n (.inr (.inr hn))]
def FA (E:Nat→D) (z:List (Option Nat)) (j:Nat):D:=match z[j]? with
 | some (some m)=>E m
 | _=>.u
theorem Jh {E:Nat→D}:∀ (z:List (Option Nat)) (n:Nat),(CR E z n).length=n
 | _,0=>by simp [CR]
 | [],n+1=>by simp [CR,Jh [] n]
 | some m::z,n+1=>by simp [CR,Jh z n]
 | none::z,n+1=>by simp [CR,Jh z n]
theorem Nx {E:Nat→D}:∀ (z:List (Option Nat)) (n j:Nat),j<n→(CR E z n)[j]?=some (FA E z j)
 | _,0,j=>fun h=>by omega
 | [],n+1,0=>fun h=>by simp [CR,FA]
 | [],n+1,j+1=>fun h=>by have:=Nx (E:=E) [] n j (by omega); simpa [CR,FA] using this
 | some m::z,n+1,0=>fun h=>by simp [CR,FA]
 | some m::z,n+1,j+1=>fun h=>by have:=Nx (E:=E) z n j (by omega); simpa [CR,FA] using this
 | none::z,n+1,0=>fun h=>by simp [CR,FA]
 | none::z,n+1,j+1=>fun h=>by have:=Nx (E:=E) z n j (by omega); simpa [CR,FA] using this
def Fq (z:List (Option Nat)):List Nat:=z.filterMap id
theorem AGG {E E':Nat→D} {z:List (Option Nat)} {j:Nat} (h:∀ n∈Fq z,E n=E' n):FA E z j=FA E' z j:=by
 unfold FA
 split
 ·rename_i m hm
  exact h m (List.mem_filterMap.2 ⟨some m,List.mem_of_getElem? hm,rfl⟩)
 ·rfl
def Dg (K:Nat→List D→List D→Prop) (E:Nat→D) (AB:Nat) (it:It):Prop:=
 match CO E it.g with
 | some true=>Ai K E AB it.p
 | some false=>∀ j,j<it.p.np→E (AB+j)=FA E it.z j
 | none=>False
def DS (K:Nat→List D→List D→Prop) (E:Nat→D):Nat→List It→Prop
 | _,[]=>True
 | AB,it::r=>Dg K E AB it∧DS K E (AB+it.p.np) r
def Cc:List It→Nat
 | []=>0
 | it::r=>it.p.np+Cc r
def Jj:Nat→List It→Bool
 | _,[]=>true
 | AB,it::r=>(it.p.AZ.all fun n=>decide (n<AB))&&((Fq it.z).all fun n=>decide (n<AB))&&(it.g.all fun x=>decide (x.1<AB))&&Jj (AB+it.p.np) r
theorem R8 {E E':Nat→D}:∀ {g:Gd},(∀ x∈g,E x.1=E' x.1)→CO E g=CO E' g
 | [],_=>rfl
 | (n,b)::g,h=>by
  simp only [CO]
  rw [h (n,b) (by simp),R8 fun x hx=>h x (by simp [hx])]
theorem Gk {e t:Env} {n:Nat} (h:n<e.length):Env.E (e++t) n=Env.E e n:=by
 simp [Env.E,BP,D4 h]
theorem FY {e t:Env} {j:Nat}:Env.E (e++t) (e.length+j)=t.getD j .u:=by
 simp only [Env.E,BP]
 rw [FI (by omega)]
 simp
theorem Lq {K:Nat→List D→List D→Prop} {Q:Env→Prop}:∀ (its:List It) (e:Env),Jj e.length its=true→DZ K its e Q→
  ∃ t,Q (e++t)∧t.length=Cc its∧DS K (Env.E (e++t)) e.length its
 | [],e=>fun _ h=>⟨[],by simpa [DZ] using h,rfl,trivial⟩
 | it::r,e=>fun hm h=>by
  simp only [Jj,Ac,BD,Aj] at hm
  obtain ⟨⟨⟨hm1,hmz⟩,hm2⟩,hm3⟩:=hm
  have key:∀ t1:Env,t1.length=it.p.np→(∀ t2:Env,Dg K (Env.E (e++(t1++t2))) e.length it)→DZ K r (e++t1) Q→
    ∃ t,Q (e++t)∧t.length=Cc (it::r)∧DS K (Env.E (e++t)) e.length (it::r):=by
   intro t1 hl hit hw
   obtain ⟨t2,q1,q2,q3⟩:=Lq r (e++t1) (by simpa [hl] using hm3) hw
   refine ⟨t1++t2,by simpa using q1,by simp [Cc,hl,q2],hit t2,?_⟩
   simpa [hl] using q3
  simp only [DZ,GG] at h
  split at h
  ·rename_i hg
   have hg2:∀ t,CO (Env.E (e++t)) it.g=some true:=fun t=>by rw [R8 (E':=Env.E e) fun x hx=>Gk (hm2 x hx)]; exact hg
   have mem:∀ (t:Env) (n:Nat),n∈it.p.AZ→Env.E e n=Env.E (e++t) n:=fun t n hn=>(Gk (hm1 n hn)).symm
   unfold AY at h
   split at h
   ·rename_i hp
    refine key [] (by simp [hp,Pr.np]) (fun t2=>?_) (by simpa using h)
    simp only [Dg,hg2,hp,Ai]
   ·rename_i k xs n hp
    obtain ⟨rs,h1,h2,h3⟩:=h
    refine key rs (by simp [hp,Pr.np,h2]) (fun t2=>?_) h3
    simp only [Dg,hg2,hp,Ai]
    refine ⟨rs,?_,h2,fun j hj=>?_⟩
    ·rw [map_congr (E:=Env.E (e++(rs++t2))) (E':=Env.E e) fun n hn=>(mem (rs++t2) n (by simpa [hp,Pr.AZ] using hn)).symm]; exact h1
    ·rw [FY]
     simp [BP,D4 (show j<rs.length by omega),show j<rs.length from by omega]
   ·rename_i fv k xs n hp
    obtain ⟨h0,rs,h1,h2,h3⟩:=h
    refine key rs (by simp [hp,Pr.np,h2]) (fun t2=>?_) h3
    simp only [Dg,hg2,hp,Ai]
    refine ⟨?_,rs,?_,h2,fun j hj=>?_⟩
    ·rw [BK (E:=Env.E (e++(rs++t2))) (E':=Env.E e) fun n hn=>(mem (rs++t2) n (by simp only [hp,Pr.AZ,A8]; exact .inl hn)).symm]; exact h0
    ·rw [map_congr (E:=Env.E (e++(rs++t2))) (E':=Env.E e) fun n hn=>(mem (rs++t2) n (by simp only [hp,Pr.AZ,A8]; exact .inr hn)).symm]; exact h1
    ·rw [FY]
     simp [BP,D4 (show j<rs.length by omega),show j<rs.length from by omega]
   ·rename_i n hp
    split at h
    ·rename_i d hd
     refine key [d,.g [.u]] (by simp [hp,Pr.np]) (fun t2=>?_) h
     simp only [Dg,hg2,hp,Ai]
     refine ⟨?_,?_⟩
     ·rw [← mem ([d,.g [.u]]++t2) n (by simp [hp,Pr.AZ]),hd]
      have:=FY (e:=e) (t:=[d,.g [.u]]++t2) (j:=0)
      simp only [Nat.add_zero] at this
      rw [this]; rfl
     ·rw [FY]; rfl
    ·exact h.elim
   ·rename_i n pp q hp
    split at h
    ·rename_i d hd
     obtain ⟨d1,d2⟩:=d
     refine key [d1,d2] (by simp [hp,Pr.np]) (fun t2=>?_) h
     simp only [Dg,hg2,hp,Ai]
     have e0:=FY (e:=e) (t:=[d1,d2]++t2) (j:=0)
     simp only [Nat.add_zero] at e0
     rw [e0,FY,← mem ([d1,d2]++t2) n (by simp [hp,Pr.AZ]),← Gp (E:=Env.E e) fun n hn=>mem ([d1,d2]++t2) n (by simp only [hp,Pr.AZ,A5]; exact .inr hn),hd]
     rfl
    ·exact h.elim
   ·rename_i n hp
    split at h
    ·rename_i d hd
     obtain ⟨d1,d2⟩:=d
     refine key [d1,d2] (by simp [hp,Pr.np]) (fun t2=>?_) h
     simp only [Dg,hg2,hp,Ai]
     have e0:=FY (e:=e) (t:=[d1,d2]++t2) (j:=0)
     simp only [Nat.add_zero] at e0
     rw [e0,FY,← mem ([d1,d2]++t2) n (by simp [hp,Pr.AZ]),hd]
     rfl
    ·exact h.elim
   ·rename_i n k0 d0 hp
    split at h
    ·rename_i d hd
     obtain ⟨d1,d2⟩:=d
     refine key [d1,d2] (by simp [hp,Pr.np]) (fun t2=>?_) h
     simp only [Dg,hg2,hp,Ai]
     have e0:=FY (e:=e) (t:=[d1,d2]++t2) (j:=0)
     simp only [Nat.add_zero] at e0
     rw [e0,FY,← mem ([d1,d2]++t2) n (by simp [hp,Pr.AZ]),← BK (E:=Env.E e) (E':=Env.E (e++([d1,d2]++t2))) fun m hm=>mem ([d1,d2]++t2) m (by simp only [hp,Pr.AZ,A5]; exact .inr hm),hd]
     rfl
    ·exact h.elim
   ·rename_i hp1 hp2 hp3 hp4 hp5 hp6 hp7
    have hone:it.p.np=1:=by
     cases hpp:it.p <;> first | rfl | (exact (hp1 hpp).elim) | (exact (hp2 _ _ _ hpp).elim) | (exact (hp3 _ _ _ _ hpp).elim) | (exact (hp4 _ hpp).elim) | (exact (hp5 _ _ _ hpp).elim) | (exact (hp6 _ hpp).elim) | (exact (hp7 _ _ _ hpp).elim)
    split at h
    ·rename_i d hd
     refine key [d] (by simp [hone]) (fun t2=>?_) h
     simp only [Dg,hg2]
     have:AS (Env.E (e++([d]++t2))) it.p=some (Env.E (e++([d]++t2)) e.length):=by
      rw [← AK8 (mem ([d]++t2)),hd]
      have:=FY (e:=e) (t:=[d]++t2) (j:=0)
      simp only [Nat.add_zero] at this
      rw [this]; rfl
     cases hpp:it.p <;> first | (exact (hp1 hpp).elim) | (exact (hp2 _ _ _ hpp).elim) | (exact (hp3 _ _ _ _ hpp).elim) | (exact (hp4 _ hpp).elim) | (exact (hp5 _ _ _ hpp).elim) | (exact (hp6 _ hpp).elim) | (exact (hp7 _ _ _ hpp).elim) | (rw [hpp] at this; exact this)
    ·exact h.elim
  ·rename_i hg
   refine key (CR (Env.E e) it.z it.p.np) (Jh _ _) (fun t2=>?_) h
   have hg2:CO (Env.E (e++(CR (Env.E e) it.z it.p.np++t2))) it.g=some false:=by rw [R8 (E':=Env.E e) fun x hx=>Gk (hm2 x hx)]; exact hg
   simp only [Dg,hg2]
   intro j hj
   rw [FY,AGG (E':=Env.E e) fun n hn=>Gk (hmz n hn)]
   rw [BP,D4 (by rw [Jh]; exact hj),Nx _ _ _ hj]
   rfl
  ·exact h.elim
structure Sq where
 it:It
 sm:Sm
 g:Gd
def Dp (dst:Option Nat) (kill:List Nat):Fact→Bool
 | .en n _=>!kill.contains n
 | .sl t _=>some t != dst
def IV (st:List Fact) (dst:Option Nat) (sm:Sm):List Fact:=sm.adds++st.filter (Dp dst sm.kill)
theorem O3 {st:List Fact} {dst:Option Nat} {sm:Sm} {f:Fact}:f∈IV st dst sm↔next (·∈st) dst sm f:=by
 unfold IV next
 simp only [A8,List.mem_filter]
 constructor
 ·rintro (h | ⟨h1,h2⟩)
  ·exact .inr h
  ·left; refine ⟨h1,?_⟩
   cases f <;> simp [Dp] at h2 ⊢ <;> exact h2
 ·rintro (⟨h1,h2⟩ | h)
  ·right; refine ⟨h1,?_⟩
   cases f <;> simp [Dp] at h2 ⊢ <;> exact h2
  ·exact .inl h
def OR (ops:Array Oper) (st:List Fact):Option (Nat×Bool)→Option (Gd×List Fact)
 | none=>some ([],[])
 | some (j,want)=>match (ops[j]?).bind (·.dst) with
  | some t=>match Bd st t with
   | some (.is n g)=>(Bj st n).map fun s=>(g++[(n,want)],[.sl t (.is n g),.en n s])
   | _=>none
  | none=>none
def Loc.gd:Loc→Gd
 | .is _ g=>g
 | .ad _ _ _ g=>g
 | .ip _ _ _ g=>g
 | .vc _ g=>g
 | .tu _ g=>g
 | .aw _ _ g=>g
 | .ia _ _ g=>g
 | .bx _ g=>g
 | .fv _ _ g=>g
 | .fb _ _ g=>g
 | .ag _ g=>g
 | .lh _ g=>g
 | .sa _ _ g=>g
def RI (o:Oper) (g:Gd) (AB np:Nat) (z:List (Option Nat)) (sm:Sm):Bool:=
 g.isEmpty || (decide ((Fq z).Nodup)&&sm.adds.all fun
  | .en n s=>decide (AB≤n∧n<AB+np)&&(match z[n-AB]? with
   | some (some m)=>sm.kill.contains m&&sm.needs.contains (.en m s)
   | _=>s.EA)
  | .sl t l=>decide (some t=o.dst∧l.gd=g) || (match l with
   | .is n gt=>decide (AB≤n∧n<AB+np)&&(match z[n-AB]? with
    | some (some m)=>sm.needs.contains (.sl t (.is m gt))&&decide (some t≠o.dst)
    | _=>false)
   | _=>false))
def skZ (sg:Nat→Option Sg) (g:Gd):Pr→List (Option Nat)
 | .ca k xs _=>match sg k with
  | some s=>if g=[]∨s.io=[] then [] else List.replicate s.qs.length none++s.io.map fun i=>match xs[i]? with
   | some (.e n)=>some n
   | _=>none
  | none=>[]
 | _=>[]
def HZ:Fact→Fact
 | .en n _=>.en n .v
 | f=>f
def Su (k:Nat) (sm:Sm):Sm:=if 1000≤k then { sm with adds:=sm.adds.map HZ } else sm
def T7 (k:Nat) (g:Gd) (AB np:Nat) (sm:Sm):Bool:=decide (k<1000) || (g.isEmpty&&sm.adds.all fun
 | .en n s=>decide (AB≤n∧n<AB+np)&&s.okF
 | _=>true)
def Q7 (fx:List Nat) (dst:Option Nat):Bool:=match dst with | some t=>!fx.contains t | none=>true
def Oi (cf:CF) (sg:Nat→Option Sg) (ops:Array Oper) (st:List Fact) (AB:Nat) (o:Oper) (k:Nat):Option Sq:=
 (OR ops st o.guard).bind fun gn=>(Qs cf sg st AB o gn.1 k).bind fun ps=>
  if RI o gn.1 AB ps.1.np (skZ sg gn.1 ps.1) ps.2=true∧BN o.dst cf.nt=true∧Q7 cf.fx o.dst=true∧T7 k gn.1 AB ps.1.np ps.2=true then
   some ⟨{ z:=skZ sg gn.1 ps.1,g:=gn.1,p:=ps.1 },{ Su k ps.2 with needs:=gn.2++ps.2.needs },gn.1⟩
  else none
def ABW:Pr→Bool
 | .nop=>true
 | _=>false
def Lj (cf:CF) (sg:Nat→Option Sg) (ops:Array Oper) (st:List Fact) (AB:Nat) (o:Oper) (k:Nat):Option Sq:=
 if 2000000≤k then (Oi cf sg ops st AB o 0).bind fun q=>(Nu (IV st o.dst q.sm) AB (k-2000000)).bind fun ps=>
  if ABW q.it.p=true∧q.it.g.isEmpty=true∧(ps.2.needs.all fun f=>q.sm.adds.contains f || Dp o.dst q.sm.kill f)=true∧(q.sm.adds.all fun f=>f.AZ.all fun n=>decide (n<AB))=true then
   some ⟨{ p:=ps.1 },⟨q.sm.needs++ps.2.needs.filter (fun f=>!q.sm.adds.contains f),q.sm.kill++ps.2.kill,ps.2.adds++q.sm.adds.filter (Dp none ps.2.kill)⟩,[]⟩
  else none
 else Oi cf sg ops st AB o k
theorem QE {E:Nat→D}:∀ {g:Gd},CO E g=some true↔Ae E g
 | []=>by simp [CO,Ae]
 | (n,b)::g=>by
  simp only [CO]
  have ih:=QE (E:=E) (g:=g)
  constructor
  ·intro h
   split at h
   ·rename_i x hx
    split at h
    ·rename_i hxb
     intro y hy
     rcases A5.1 hy with rfl | hy
     ·rw [hx,hxb]
     ·exact ih.1 h y hy
    ·simp at h
   ·simp at h
  ·intro h
   have h1:=h (n,b) (by simp)
   simp only at h1
   simp only [h1,if_true]
   exact ih.2 fun x hx=>h x (by simp [hx])
theorem Zx {E:Nat→D} {n:Nat} {b:Bool}:∀ {g:Gd},CO E (g++[(n,b)])=some false→¬ Ae E g∨(Ae E g∧E n=.b (!b))
 | []=>by
  simp only [List.nil_append,CO]
  intro h
  split at h
  ·rename_i x hx
   split at h
   ·simp at h
   ·rename_i hxb
    right
    refine ⟨by simp [Ae],?_⟩
    rw [hx]; cases x <;> cases b <;> simp at hxb ⊢
  ·simp at h
 | (m,c)::g=>by
  simp only [List.cons_append,CO]
  intro h
  split at h
  ·rename_i x hx
   split at h
   ·rename_i hxc
    rcases Zx (g:=g) h with h2 | ⟨h2,h3⟩
    ·left; intro q; exact h2 fun y hy=>q y (by simp [hy])
    ·right
     refine ⟨fun y hy=>?_,h3⟩
     rcases A5.1 hy with rfl | hy
     ·rw [hx,hxc]
     ·exact h2 y hy
   ·rename_i hxc
    left
    intro q
    have:=q (m,c) (by simp)
    simp only at this
    rw [hx] at this
    injection this with this
    exact hxc this
  ·simp at h
section
variable {cf:CF} {sg:Nat→Option Sg} {c:Cx} {F:Fact→Prop} {E:Nat→D} {a:Act} {w:World} {vs:Nat→Value} {Bs:Nat→List Nat} {AB:Nat} {sm:Sm} {st:List Fact} {o:Oper}
 {K:Nat→List D→List D→Prop} {ops:Array Oper}
theorem ALP {og:Option (Nat×Bool)} {g:Gd} {ns:List Fact} (h:OR ops st og=some (g,ns)) (ho:o.guard=og) (H:Av c F E a w vs Bs) (hn:∀ f∈ns,F f):
  (CO E g=some true→Region.wanted o (yielded ops a.tmps)=true)∧(CO E g=some false→Region.wanted o (yielded ops a.tmps)=false):=by
 cases og with
 | none=>
  simp only [OR,AJ,AI] at h
  obtain ⟨rfl,rfl⟩:=h
  exact ⟨fun _=>by simp [Region.wanted,ho],fun h=>by simp [CO] at h⟩
 | some jw=>
  obtain ⟨j,want⟩:=jw
  simp only [OR] at h
  split at h
  ·rename_i t ht
   split at h
   ·rename_i n g0 hl
    simp only [A7,AI] at h
    obtain ⟨s,hs,rfl,rfl⟩:=h
    have f1:=H.loc t _ (hn (.sl t (.is n g0)) (by simp))
    have f2:=H.own n s (hn (.en n s) (by simp))
    have hy:yielded ops a.tmps j=match a.tmps[t]? with | some (.bool b)=>some b | _=>none:=by
     unfold yielded
     rw [ht]
     simp only [Option.bind_some]
     rfl
    constructor
    ·intro hg
     have hg':=QE.1 hg
     have e1:=f1.1 fun x hx=>hg' x (Ay _ hx)
     have e2:E n=.b want:=hg' (n,want) (by simp)
     rw [e2] at f2
     rw [f2.bool] at e1
     simp [Region.wanted,ho,hy,e1]
    ·intro hg
     rcases Zx hg with h1 | ⟨h1,h2⟩
     ·have e1:=f1.2 h1
      simp [Region.wanted,ho,hy,e1,undef]
     ·have e1:=f1.1 h1
      rw [h2] at f2
      rw [f2.bool] at e1
      simp [Region.wanted,ho,hy,e1]
   ·simp at h
  ·simp at h
theorem Xm:∀ {z:List (Option Nat)} {i j m:Nat},(Fq z).Nodup→z[i]?=some (some m)→z[j]?=some (some m)→i=j
 | [],_,_,_,_,h,_=>by simp at h
 | x::z,i,j,m,hn,h1,h2=>by
  have tl:(Fq z).Nodup:=by
   cases x with
   | none=>simpa [Fq] using hn
   | some k=>simp only [Fq,List.filterMap_cons,id] at hn; exact (List.nodup_cons.1 hn).2
  have hin:∀ j,z[j]?=some (some m)→m∈Fq z:=fun j h=>List.mem_filterMap.2 ⟨some m,List.mem_of_getElem? h,rfl⟩
  cases i with
  | zero=>
   cases j with
   | zero=>rfl
   | succ j=>
    simp at h1 h2
    subst h1
    simp only [Fq,List.filterMap_cons,id] at hn
    exact ((List.nodup_cons.1 hn).1 (hin j h2)).elim
  | succ i=>
   cases j with
   | zero=>
    simp at h1 h2
    subst h2
    simp only [Fq,List.filterMap_cons,id] at hn
    exact ((List.nodup_cons.1 hn).1 (hin i h1)).elim
   | succ j=>
    have:=Xm (i:=i) (j:=j) (m:=m) tl (by simpa using h1) (by simpa using h2)
    omega
theorem ARP {g:Gd} {np:Nat} {z:List (Option Nat)} (H:Av c F E a w vs Bs) (hsk:RI o g AB np z sm=true) (hg:CO E g=some false) (hfr:∀ j,j<np→BX F (AB+j)) (hu:∀ j,j<np→E (AB+j)=FA E z j)
  (hin:BN o.dst c.nt=true) (hneeds:∀ f∈sm.needs,F f):D6 c (next F o.dst sm) E (a.put o.dst undef) w:=by
 have hng:¬ Ae E g:=fun q=>by rw [QE.2 q] at hg; simp at hg
 have hne:g≠[]:=by rintro rfl; simp [CO] at hg
 unfold RI at hsk
 simp only [Bool.or_eq_true,List.isEmpty_iff,hne,false_or,Ac,Aj,BD] at hsk
 obtain ⟨hzn,hsk⟩:=hsk
 -- what entry n comes from
 let src:Nat→Option Nat:=fun n=>match z[n-AB]? with
  | some (some m)=>some m
  | _=>none
 have hent:∀ n s,Fact.en n s∈sm.adds→(AB≤n∧n<AB+np)∧((∃ m,src n=some m∧m∈sm.kill∧F (.en m s))∨(src n=none∧s.EA=true)):=by
  intro n s hf
  have:=hsk _ hf
  simp only [Ac,Aj] at this
  obtain ⟨q1,q2⟩:=this
  refine ⟨q1,?_⟩
  split at q2
  ·rename_i m hm
   simp only [Ac,List.contains_eq_mem,Aj] at q2
   exact .inl ⟨m,by simp [src,hm],q2.1,hneeds _ q2.2⟩
  ·rename_i hm
   refine .inr ⟨?_,q2⟩
   simp only [src]
 have hsrc:∀ n,AB≤n∧n<AB+np→E n=match src n with | some m=>E m | none=>.u:=by
  intro n hn
  have:=hu (n-AB) (by omega)
  rw [show AB+(n-AB)=n from by omega] at this
  rw [this]
  simp only [FA,src]
  split <;> rfl
 have hinj:∀ n n' m,src n=some m→src n'=some m→AB≤n→AB≤n'→n=n':=by
  intro n n' m h1 h2 h3 h4
  simp only [src] at h1 h2
  split at h1
  ·rename_i m1 e1
   split at h2
   ·rename_i m2 e2
    injection h1 with h1
    injection h2 with h2
    subst h1 h2
    have:=Xm hzn e1 e2
    omega
   ·cases h2
  ·cases h1
 have hfe:∀ n r,(AB≤n∧n<AB+np)→next F o.dst sm (.en n r)→Fact.en n r∈sm.adds:=by
  rintro n r hn (⟨h1,_⟩ | h)
  ·have:=(hfr (n-AB) (by omega)).1 r
   rw [show AB+(n-AB)=n from by omega] at this
   exact (this h1).elim
  ·exact h
 let mk:Nat→Bool:=fun n=>sm.adds.any fun f=>match f with | .en n' _=>n' == n | _=>false
 have hmk:∀ n,mk n=true→∃ s,Fact.en n s∈sm.adds:=by
  intro n hn
  obtain ⟨f,h1,h2⟩:=List.any_eq_true.1 hn
  cases f with
  | en n' s=>simp only [beq_iff_eq] at h2; subst h2; exact ⟨s,h1⟩
  | sl t l=>simp at h2
 have hmk2:∀ n s,Fact.en n s∈sm.adds→mk n=true:=fun n s h=>List.any_eq_true.2 ⟨_,h,by simp⟩
 let V:Nat→Value:=fun n=>if AB≤n∧n<AB+np then (match src n with | some m=>vs m | none=>undef) else vs n
 let W:Nat→List Nat:=fun n=>if AB≤n∧n<AB+np then (if mk n=true then (match src n with | some m=>Bs m | none=>[]) else []) else Bs n
 have hold:∀ m s,F (.en m s)→¬ (AB≤m∧m<AB+np):=by
  intro m s hm hn
  have:=(hfr (m-AB) (by omega)).1 s
  rw [show AB+(m-AB)=m from by omega] at this
  exact this hm
 -- the blocks of what is made
 have hW:∀ n,(AB≤n∧n<AB+np)→∀ b∈W n,∃ m s,src n=some m∧m∈sm.kill∧F (.en m s)∧b∈Bs m:=by
  intro n hn b hb
  simp only [W,if_pos hn] at hb
  split at hb
  ·rename_i hk
   obtain ⟨s,hs⟩:=hmk n hk
   rcases (hent n s hs).2 with ⟨m,e1,e2,e3⟩ | ⟨e1,_⟩
   ·rw [e1] at hb
    exact ⟨m,s,e1,e2,e3,hb⟩
   ·rw [e1] at hb; simp at hb
  ·simp at hb
 let A0:List Fact:=sm.adds.filter fun f=>match f with | .sl t _=>decide (some t=o.dst) | _=>true
 have hA0en:∀ n s,Fact.en n s∈A0↔Fact.en n s∈sm.adds:=by
  intro n s; simp [A0]
 have hadds:∀ n r,(AB≤n∧n<AB+np)→next F o.dst ⟨[],sm.kill,A0⟩ (.en n r)→Fact.en n r∈sm.adds:=by
  rintro n r hn (⟨h1,_⟩ | h)
  ·exact (hold n r h1 hn).elim
  ·exact (hA0en n r).1 h
 have H1:Av c (next F o.dst ⟨[],sm.kill,A0⟩) E (a.put o.dst undef) w V W:=by
  refine Av.step (fun n=>AB≤n∧n<AB+np) (fun n=>n∈sm.kill) (fun _=>False) o.dst H (fun n hn=>if_neg hn) (fun n hn=>if_neg hn)
   (fun t l hl n hn q=>by
    have:=(hfr (n-AB) (by omega)).2 t l hl
    rw [show AB+(n-AB)=n from by omega] at this
    exact this hn)
   (fun _ q=>q.elim) (Af.refl _ _) rfl rfl rfl (fun t ht=>DT ht) Fz put_defers ?_ ?_ ?_ ?_ ?_ ?_
  ·rintro f (⟨h1,h2⟩ | h)
   ·left; refine ⟨h1,?_⟩; cases f <;> exact h2
   ·cases f with
    | en n s=>exact .inr (hent n s ((hA0en n s).1 h)).1
    | sl t l=>
     right
     have:=(List.mem_filter.1 h).2
     simpa using this
  ·rintro n r hn hf
   have hf':=hadds n r hn hf
   rw [hsrc n hn]
   simp only [V,W,if_pos hn,hmk2 n r hf',if_true]
   rcases (hent n r hf').2 with ⟨m,e1,e2,e3⟩ | ⟨e1,e2⟩
   ·rw [e1]
    refine AF.ext (Af.refl (fun _=>False) _) (fun _ _ q=>q.elim) ?_ _ _ _ _ (fun _ _ q=>q) (H.own m r e3)
    rintro b _ (⟨n1,s1,q1,_,q3⟩ | ⟨n1,q1,q2⟩)
    ·exact ⟨n1,s1,q1,q3⟩
    ·obtain ⟨m2,s2,_,_,q3,q4⟩:=hW n1 q1 b q2
     exact ⟨m2,s2,q3,q4⟩
   ·rw [e1]
    cases r <;> simp [AF,Rd,Sh.EA] at e2 ⊢
  ·rintro n r hn hf
   have hf':=hadds n r hn hf
   simp only [W,if_pos hn,hmk2 n r hf',if_true]
   rcases (hent n r hf').2 with ⟨m,e1,e2,e3⟩ | ⟨e1,e2⟩
   ·rw [e1]; exact H.nodup m r e3
   ·rw [e1]; exact List.nodup_nil
  ·rintro n r hn _ b hb
   obtain ⟨m,s,_,q2,q3,q4⟩:=hW n hn b hb
   exact .inl ⟨m,s,q3,q2,q4⟩
  ·rintro n r m q hn hm _ _ hne b hb hb2
   obtain ⟨m1,s1,p1,p2,p3,p4⟩:=hW n hn b hb
   obtain ⟨m2,s2,r1,r2,r3,r4⟩:=hW m hm b hb2
   by_cases he:m1=m2
   ·subst he; exact hne (hinj n m m1 p1 r1 hn.1 hm.1)
   ·exact H.apart m1 s1 m2 s2 p3 r3 he b p4 r4
  ·rintro t l ht hf
   rcases hf with ⟨_,h2⟩ | h
   ·exact (h2 ht).elim
   ·have:=hsk _ (List.mem_filter.1 h).1
    simp only [Bool.or_eq_true,Aj] at this
    have hgl:l.gd=g:=by
     rcases this with q | q
     ·exact q.2
     ·exfalso
      cases l with
      | is n gt=>
       simp only [Ac] at q
       obtain ⟨_,q⟩:=q
       split at q
       ·simp only [Ac,Aj] at q; exact q.2 ht
       ·cases q
      | _=>simp at q
    have hput:(a.put o.dst undef).tmps[t]?=some undef:=by
     rw [← ht]; exact EX (by rw [H.size]; rw [← ht] at hin; simpa [BN] using hin)
    cases l with
    | is n g'=>
     simp only [Loc.gd] at hgl; subst hgl
     exact ⟨fun q=>(hng q).elim,fun _=>hput⟩
    | vc n g'=>simp only [Loc.gd] at hgl; subst hgl; exact fun q=>(hng q).elim
    | ad r p m g'=>simp only [Loc.gd] at hgl; subst hgl; exact fun q=>(hng q).elim
    | ip r p m g'=>simp only [Loc.gd] at hgl; subst hgl; exact fun q=>(hng q).elim
    | tu ns g'=>simp only [Loc.gd] at hgl; subst hgl; exact fun q=>(hng q).elim
    | aw r p g'=>simp only [Loc.gd] at hgl; subst hgl; exact fun q=>(hng q).elim
    | ia r m g'=>simp only [Loc.gd] at hgl; subst hgl; exact fun q=>(hng q).elim
    | bx n g'=>simp only [Loc.gd] at hgl; subst hgl; exact fun q=>(hng q).elim
    | ag r g'=>simp only [Loc.gd] at hgl; subst hgl; exact fun q=>(hng q).elim
    | lh r g'=>simp only [Loc.gd] at hgl; subst hgl; exact fun q=>(hng q).elim
    | sa r e g'=>simp only [Loc.gd] at hgl; subst hgl; exact fun q=>(hng q).elim
    | fv f ns g'=>simp only [Loc.gd] at hgl; subst hgl; exact fun q=>(hng q).elim
    | fb f ns g'=>simp only [Loc.gd] at hgl; subst hgl; exact fun q=>(hng q).elim
 refine ⟨V,W,H1.more ?_ ?_⟩
 ·intro n s
  simp only [next,hA0en]
 ·intro t l hf
  rcases hf with ⟨q1,q2⟩ | q
  ·exact .inl (.inl ⟨q1,q2⟩)
  ·by_cases ht:some t=o.dst
   ·exact .inl (.inr (List.mem_filter.2 ⟨q,by simpa using ht⟩))
   ·have:=hsk _ q
    simp only [Bool.or_eq_true,Aj] at this
    rcases this with q' | q'
    ·exact (ht q'.1).elim
    ·cases l with
     | is n gt=>
      simp only [Ac,Aj] at q'
      obtain ⟨hn,q'⟩:=q'
      split at q'
      ·rename_i m hm
       simp only [Ac,List.contains_eq_mem,Aj] at q'
       have hsn:src n=some m:=by simp only [src,hm]
       have hmF:=hneeds _ q'.1
       right
       have hnew:¬ (AB≤m∧m<AB+np):=by
        intro hm'
        have:=(hfr (m-AB) (by omega)).2 t _ hmF
        rw [show AB+(m-AB)=m from by omega] at this
        exact this (by simp [Loc.AZ])
       refine ⟨n,gt,m,rfl,.inl ⟨hmF,ht⟩,?_⟩
       simp only [V,if_pos hn,hsn,if_neg hnew]
      ·cases q'
     | _=>simp at q'
theorem ADB {a':Act} {w':World} {k:Nat} {g:Gd} {np:Nat} {sm:Sm} (hk:T7 k g AB np sm=true) (hfr:∀ j,j<np→BX F (AB+j)) (H:D6 c (next F o.dst sm) E a' w'):
  D6 c (next F o.dst (Su k sm)) E a' w':=by
 unfold Su
 split
 ·rename_i h1000
  unfold T7 at hk
  simp only [Bool.or_eq_true,Aj,Ac,List.isEmpty_iff,BD] at hk
  rcases hk with hk | ⟨_,hk⟩
  ·omega
  obtain ⟨vs,Bs,H⟩:=H
  have hold:∀ m s,F (.en m s)→¬ (AB≤m∧m<AB+np):=by
   intro m s hm hn
   have:=(hfr (m-AB) (by omega)).1 s
   rw [show AB+(m-AB)=m from by omega] at this
   exact this hm
  have hadd:∀ n s,Fact.en n s∈sm.adds→(AB≤n∧n<AB+np)∧s.okF=true:=by
   intro n s h
   have:=hk _ h
   simpa only [Ac,Aj] using this
  let W:Nat→List Nat:=fun n=>if AB≤n∧n<AB+np then [] else Bs n
  -- each entry that is known now was known before
  have hen:∀ n s,next F o.dst { sm with adds:=sm.adds.map HZ } (.en n s)→(¬ (AB≤n∧n<AB+np)∧next F o.dst sm (.en n s)∧W n=Bs n)∨((AB≤n∧n<AB+np)∧s=.v∧∃ s',next F o.dst sm (.en n s')∧s'.okF=true):=by
   rintro n s (⟨h1,h2⟩ | h)
   ·have:=hold n s h1
    exact .inl ⟨this,.inl ⟨h1,h2⟩,if_neg this⟩
   ·obtain ⟨f,hf,he⟩:=List.mem_map.1 h
    cases f with
    | en n' s'=>
     simp only [HZ] at he
     injection he with e1 e2
     subst e1 e2
     obtain ⟨q1,q2⟩:=hadd n' s' hf
     exact .inr ⟨q1,rfl,s',.inr hf,q2⟩
    | sl t l=>simp [HZ] at he
  have hO:∀ b,OB (next F o.dst { sm with adds:=sm.adds.map HZ }) W b→OB (next F o.dst sm) Bs b∧∃ n s,¬ (AB≤n∧n<AB+np)∧next F o.dst sm (.en n s)∧b∈Bs n:=by
   rintro b ⟨n,s,h1,h2⟩
   rcases hen n s h1 with ⟨q1,q2,q3⟩ | ⟨q1,_,_⟩
   ·rw [q3] at h2
    exact ⟨⟨n,s,q2,h2⟩,n,s,q1,q2,h2⟩
   ·simp only [W,if_pos q1] at h2; simp at h2
  have hal:∀ n,alive (next F o.dst { sm with adds:=sm.adds.map HZ }) n→alive (next F o.dst sm) n:=by
   rintro n ⟨s,h⟩
   rcases hen n s h with ⟨_,q2,_⟩ | ⟨_,_,s',q,_⟩
   ·exact ⟨s,q2⟩
   ·exact ⟨s',q⟩
  refine ⟨vs,W,?_,?_,?_,?_,?_,H.agr,H.os,H.tape,H.output,H.defers,H.size⟩
  ·intro n s hf
   rcases hen n s hf with ⟨q1,q2,q3⟩ | ⟨q1,rfl,s',q2,q3⟩
   ·rw [q3]
    exact AF.ext (Af.refl (fun _=>False) _) (fun _ _ q=>q.elim) (fun b _ hb=>(hO b hb).1) _ _ _ _ (fun _ _ q=>q) (H.own n s q2)
   ·simp only [W,if_pos q1]
    simp only [AF]
    refine ⟨trivial,AF.freeze (fun b _ q=>q.imp (fun q=>(hO b q).1) id) s' _ _ _ q3 ?_ (H.own n s' q2)⟩
    rintro b hb (q | q)
    ·obtain ⟨_,m,s2,z1,z2,z3⟩:=hO b q
     exact H.apart n s' m s2 q2 z2 (fun e=>z1 (e ▸ q1)) b hb z3
    ·have:=c.hX b q
     rcases H.mine n s' q2 b hb with r | r
     ·omega
     ·exact this.2 r
  ·intro n s hf
   rcases hen n s hf with ⟨q1,q2,q3⟩ | ⟨q1,rfl,s',q2,q3⟩
   ·rw [q3]; exact H.nodup n s q2
   ·simp only [W,if_pos q1]; exact List.nodup_nil
  ·intro n s hf b hb
   obtain ⟨⟨n',s',h1,h2⟩,_⟩:=hO b ⟨n,s,hf,hb⟩
   exact H.mine n' s' h1 b h2
  ·intro n s m r hf hg hne b hb hb2
   rcases hen n s hf with ⟨q1,q2,q3⟩ | ⟨q1,_,_⟩
   ·rcases hen m r hg with ⟨p1,p2,p3⟩ | ⟨p1,_,_⟩
    ·rw [q3] at hb; rw [p3] at hb2
     exact H.apart n s m r q2 p2 hne b hb hb2
    ·simp only [W,if_pos p1] at hb2; simp at hb2
   ·simp only [W,if_pos q1] at hb; simp at hb
  ·intro t l hf
   have hf':next F o.dst sm (.sl t l):=by
    rcases hf with q | q
    ·exact .inl q
    ·obtain ⟨f,h1,he⟩:=List.mem_map.1 q
     cases f with
     | en n s=>simp [HZ] at he
     | sl t' l'=>simp only [HZ] at he; rw [← he]; exact .inr h1
   have:=H.loc t l hf'
   cases l with
   | is n g=>exact this
   | vc n g=>
    intro hg
    obtain ⟨b,o,cs,e,fz,k1,k2,k3,k4⟩:=this hg
    exact ⟨b,o,cs,e,fz,k1,k2,k3,fun q=>k4 (hO b q).1⟩
   | ad r p m g=>exact fun hg ha=>this hg (hal _ ha)
   | ip r p m g=>exact fun hg ha=>this hg (hal _ ha)
   | tu ns g=>exact this
   | aw r p g=>exact fun hg ha=>this hg (hal _ ha)
   | ia r m g=>exact fun hg ha=>this hg (hal _ ha)
   | bx n g=>
    intro hg
    obtain ⟨b,cs,e,fz,k1,k2,k3,k4⟩:=this hg
    exact ⟨b,cs,e,fz,k1,k2,k3,fun q=>k4 (hO b q).1⟩
   | ag r g=>exact fun hg ha=>this hg (hal _ ha)
   | lh n g=>exact this
   | sa n e g=>exact this
   | fv f ns g=>exact this
   | fb f ns g=>
    intro hg
    obtain ⟨b,cs,e,fz,k1,k2,k3,k4⟩:=this hg
    exact ⟨b,cs,e,fz,k1,k2,k3,fun q=>k4 (hO b q).1⟩
 ·exact H
theorem YT {fx:List Nat} {dst:Option Nat} (h:Q7 fx dst=true):∀ t∈fx,some t≠dst:=by
 rintro t ht rfl
 simp [Q7,ht] at h
theorem ADY (hs:Sound cf sg K) (hc:cf.Fits c) {k:Nat} {q:Sq} (ht:Oi cf sg ops st AB o k=some q) (H:BR c F E a w) (hfr:∀ j,j<q.it.p.np→BX F (AB+j)) (hn:∀ f∈q.sm.needs,F f)
  (hE:Dg K E AB q.it) {i:Nat} (hi:ops[i]?=some o) {Kn:Act→World→Prop} {Q:Exit→Act→World→Prop} (hk:∀ a' w',BR c (next F o.dst q.sm) E a' w'→Kn a' w'):
  wpOp c.P ops Q i Kn a w:=by
 obtain ⟨⟨vs,Bs,H⟩,hfix⟩:=H
 unfold Oi at ht
 simp only [AQ] at ht
 obtain ⟨⟨g,ns⟩,h1,⟨p,sm⟩,h2,ht⟩:=ht
 simp only at ht
 split at ht
 ·rename_i hsk
  simp only [AJ] at ht
  subst ht
  simp only at hn hE hk
  obtain ⟨w1,w2⟩:=ALP h1 rfl H fun f hf=>hn f (Ay _ hf)
  unfold Dg at hE
  simp only at hE
  unfold wpOp
  rw [hi]
  simp only
  split at hE
  ·rename_i hg
   rw [if_pos (w1 hg)]
   left
   have hx:=YT hsk.2.2.1
   refine AO4 (AJV hs h2 ⟨hc,H,hfr,fun f hf=>hn f (Ak _ hf),QE.1 hg,hfix⟩ hE _ Q fun _ _ h=>h) fun a' w' h1 h2=>hk a' w' ⟨ADB hsk.2.2.2 hfr h1,fun x hx'=>?_⟩
   rw [h2 x.1 (hx _ (hc.fx x hx'))]
   exact hfix x hx'
  ·rename_i hg
   rw [if_neg (by rw [w2 hg]; simp)]
   refine hk _ _ ⟨ADB hsk.2.2.2 hfr (ARP H hsk.1 hg hfr hE (by rw [hc.nt]; exact hsk.2.1) (fun f hf=>hn f (Ak _ hf))),fun x hx'=>?_⟩
   rw [DT (YT hsk.2.2.1 _ (hc.fx x hx'))]
   exact hfix x hx'
  ·exact hE.elim
 ·simp at ht
theorem AL2 {dst:Option Nat} {k1 k2:List Nat} {f:Fact}:Dp dst (k1++k2) f=true↔Dp dst k1 f=true∧Dp none k2 f=true:=by
 cases f with
 | en n s=>simp [Dp]
 | sl t l=>simp [Dp]
theorem NJ {F:Fact→Prop} {dst:Option Nat} {sm:Sm} {f:Fact}:next F dst sm f↔(F f∧Dp dst sm.kill f=true)∨f∈sm.adds:=by
 unfold next
 cases f with
 | en n s=>simp [Dp]
 | sl t l=>simp [Dp]
theorem Tc (hs:Sound cf sg K) (hc:cf.Fits c) {k:Nat} {q:Sq} (ht:Lj cf sg ops st AB o k=some q) (H:BR c F E a w) (hfr:∀ j,j<q.it.p.np→BX F (AB+j)) (hn:∀ f∈q.sm.needs,F f)
  (hE:Dg K E AB q.it) {i:Nat} (hi:ops[i]?=some o) {Kn:Act→World→Prop} {Q:Exit→Act→World→Prop} (hk:∀ a' w',BR c (next F o.dst q.sm) E a' w'→Kn a' w'):
  wpOp c.P ops Q i Kn a w:=by
 unfold Lj at ht
 split at ht
 ·simp only [AQ] at ht
  obtain ⟨q1,h1,⟨p2,sm2⟩,h2,ht⟩:=ht
  simp only at ht
  split at ht
  ·rename_i hc4
   obtain ⟨c1,c2,c3,c4⟩:=hc4
   simp only [AJ] at ht
   subst ht
   simp only at hn hE hk hfr
   obtain ⟨⟨z1,g1,p1⟩,sm1,g1'⟩:=q1
   simp only at c1 c2 c3 c4 hn hk h2
   cases p1 <;> simp only [ABW] at c1 <;> try cases c1
   have hg:g1=[]:=by simpa using c2
   subst hg
   have hE2:Ai K E AB p2:=by simpa [Dg,CO] using hE
   refine ADY hs hc h1 H (fun j hj=>absurd hj (by simp [Pr.np])) (fun f hf=>hn f (Ay _ hf)) (by simp [Dg,CO,Ai]) hi fun a' w' H'=>hk a' w' ?_
   obtain ⟨⟨vs',Bs',H1⟩,hfix⟩:=H'
   have hn2:∀ f∈sm2.needs,next F o.dst sm1 f:=by
    intro f hf
    rw [NJ]
    by_cases hfa:f∈sm1.adds
    ·exact .inr hfa
    ·refine .inl ⟨hn f (Ak _ (List.mem_filter.2 ⟨hf,by simpa using hfa⟩)),?_⟩
     have:=BD.1 c3 f hf
     simp only [Bool.or_eq_true,List.contains_iff_mem] at this
     exact this.resolve_left hfa
   have hfr2:∀ j,j<p2.np→BX (next F o.dst sm1) (AB+j):=by
    intro j hj
    have hf:=hfr j hj
    have key:∀ f,next F o.dst sm1 f→AB+j∈f.AZ→F f:=by
     intro f hnx hm
     rcases NJ.1 hnx with q | q
     ·exact q.1
     ·have:=BD.1 (BD.1 c4 f q) _ hm
      have:AB+j<AB:=by simpa using this
      omega
    refine ⟨fun s q=>hf.1 s (key _ q (by simp [Fact.AZ])),fun t l q hm=>hf.2 t l (key _ q (by simpa [Fact.AZ] using hm)) hm⟩
   have hx:=ADG h2 H1 hfr2 hn2 hE2
   refine ⟨hx.HM fun f hf=>?_,hfix⟩
   rw [NJ] at hf
   rw [NJ,NJ]
   rcases hf with ⟨q1,q2⟩ | q
   ·obtain ⟨q3,q4⟩:=AL2.1 q2
    exact .inl ⟨.inl ⟨q1,q3⟩,q4⟩
   ·rcases A8.1 q with q | q
    ·exact .inr q
    ·obtain ⟨q1,q2⟩:=List.mem_filter.1 q
     exact .inl ⟨.inr q1,q2⟩
  ·cases ht
 ·exact ADY hs hc ht H hfr hn hE hi hk
end
end Go.Cat
namespace Go.Cat
def Hs (st:List Fact) (AB:Nat):Bool:=st.all fun f=>f.AZ.all fun n=>decide (n<AB)
def Md (a b:List Fact):Bool:=a.all fun f=>b.contains f
def EE (cf:CF) (sg:Nat→Option Sg) (ops:Array Oper):List Oper→List Fact→Nat→List Nat→Option (List Sq×List Fact×Nat)
 | [],st,AB,_=>some ([],st,AB)
 | o::os,st,AB,hs=>(Lj cf sg ops st AB o (hs.headD 0)).bind fun q=>
  if Md q.sm.needs st=true∧Hs st AB=true then
   (EE cf sg ops os (IV st o.dst q.sm) (AB+q.it.p.np) hs.tail).map fun r=>(q::r.1,r.2)
  else none
theorem Ol {a b:List Fact} (h:Md a b=true):∀ f∈a,f∈b:=by
 intro f hf
 simp only [Md,BD,List.contains_eq_mem,Aj] at h
 exact h f hf
theorem Rm {st:List Fact} {AB:Nat} (h:Hs st AB=true) {m:Nat} (hm:AB≤m):BX (·∈st) m:=by
 simp only [Hs,BD,Aj] at h
 constructor
 ·intro s hf
  have:=h _ hf m (by simp [Fact.AZ])
  omega
 ·intro t l hf hn
  have:=h _ hf m (by simpa [Fact.AZ] using hn)
  omega
theorem DS.split {K:Nat→List D→List D→Prop} {E:Nat→D}:∀ {x y:List It} {AB:Nat},DS K E AB (x++y)→DS K E AB x∧DS K E (AB+Cc x) y
 | [],y,AB,h=>⟨trivial,by simpa [Cc] using h⟩
 | it::x,y,AB,h=>by
  simp only [List.cons_append,DS] at h ⊢
  obtain ⟨q1,q2⟩:=DS.split h.2
  refine ⟨⟨h.1,q1⟩,?_⟩
  simpa [Cc,Nat.add_assoc] using q2
theorem ACG {cf:CF} {sg:Nat→Option Sg} {ops:Array Oper}:∀ {os:List Oper} {st:List Fact} {AB:Nat} {hs:List Nat} {r:List Sq} {st':List Fact} {cnt':Nat},EE cf sg ops os st AB hs=some (r,st',cnt')→cnt'=AB+Cc (r.map (·.it))
 | [],st,AB,hs,r,st',cnt',h=>by
  simp only [EE,AJ,AI] at h
  obtain ⟨rfl,rfl,rfl⟩:=h
  simp [Cc]
 | o::os,st,AB,hs,r,st',cnt',h=>by
  simp only [EE,AQ] at h
  obtain ⟨q,h1,h⟩:=h
  split at h
  ·simp only [A7,AI] at h
   obtain ⟨⟨r2,st2,c2⟩,h2,rfl,h3⟩:=h
   simp only [AI] at h3
   obtain ⟨rfl,rfl⟩:=h3
   have:=ACG h2
   simp only [List.map_cons,Cc]
   omega
  ·cases h
section
variable {cf:CF} {sg:Nat→Option Sg} {c:Cx} {E:Nat→D} {K:Nat→List D→List D→Prop} {ops:Array Oper}
theorem Og (hs:Sound cf sg K) (hc:cf.Fits c) {Q:Exit→Act→World→Prop}:∀ (os:List Oper) (i:Nat) (st:List Fact) (AB:Nat) (hh:List Nat) (r:List Sq) (st':List Fact) (cnt':Nat),
  EE cf sg ops os st AB hh=some (r,st',cnt')→(∀ j o,os[j]?=some o→ops[i+j]?=some o)→DS K E AB (r.map (·.it))→
  ∀ (a:Act) (w:World),BR c (·∈st) E a w→(∀ a' w',BR c (·∈st') E a' w'→Q .normal a' w')→wpOps c.P ops Q (List.range' i os.length) a w
 | [],i,st,AB,hh,r,st',cnt'=>fun ht _ _ a w H hq=>by
  simp only [EE,AJ,AI] at ht
  obtain ⟨rfl,rfl,rfl⟩:=ht
  simp only [Aq,List.range'_zero,wpOps]
  exact hq a w H
 | o::os,i,st,AB,hh,r,st',cnt'=>fun ht ho hE a w H hq=>by
  simp only [EE,AQ] at ht
  obtain ⟨q,h1,ht⟩:=ht
  split at ht
  ·rename_i hcond
   simp only [A7,AI] at ht
   obtain ⟨⟨r2,st2,c2⟩,h2,rfl,h3⟩:=ht
   simp only [AI] at h3
   obtain ⟨rfl,rfl⟩:=h3
   simp only [List.map_cons,DS] at hE
   simp only [A6,List.range'_succ]
   rw [wpOps_cons]
   refine Tc hs hc h1 H (fun j _=>Rm hcond.2 (by omega)) (Ol hcond.1) hE.1 (by simpa using ho 0 o (by simp)) fun a' w' H'=>?_
   refine Og hs hc os (i+1) _ _ _ _ _ _ h2 (fun j o' hj=>?_) hE.2 a' w' (H'.mono fun f hf=>O3.1 hf) hq
   have:=ho (j+1) o' (by simpa using hj)
   rwa [show i+1+j=i+(j+1) from by omega]
  ·simp at ht
def GD:List Fact→Nat→List Nat→Option (List Sq×List Fact×Nat×List Nat)
 | st,AB,[]=>some ([],st,AB,[])
 | st,AB,k::hs=>if 100000≤k then (Nu st AB k).bind fun ps=>
   if Md ps.2.needs st=true∧Hs st AB=true then (GD (IV st none ps.2) (AB+ps.1.np) hs).map fun r=>(⟨{ p:=ps.1 },ps.2,[]⟩::r.1,r.2) else none
  else some ([],st,AB,k::hs)
def HE (cf:CF) (sg:Nat→Option Sg) (ops:Array Oper):List Oper→List Fact→Nat→List Nat→Option (List Sq×List Fact×Nat)
 | [],st,AB,hs=>(GD st AB hs).map fun r=>(r.1,r.2.1,r.2.2.1)
 | o::os,st,AB,hs=>(GD st AB hs).bind fun r=>(Lj cf sg ops r.2.1 r.2.2.1 o (r.2.2.2.headD 0)).bind fun q=>
  if Md q.sm.needs r.2.1=true∧Hs r.2.1 r.2.2.1=true then
   (HE cf sg ops os (IV r.2.1 o.dst q.sm) (r.2.2.1+q.it.p.np) r.2.2.2.tail).map fun z=>(r.1++q::z.1,z.2)
  else none
theorem AFB:∀ (x y:List It),Cc (x++y)=Cc x+Cc y
 | [],y=>by simp [Cc]
 | it::x,y=>by simp [Cc,AFB x y,Nat.add_assoc]
theorem Ly:∀ {hs:List Nat} {st:List Fact} {AB:Nat} {r:List Sq} {st':List Fact} {cnt':Nat} {hs':List Nat},GD st AB hs=some (r,st',cnt',hs')→cnt'=AB+Cc (r.map (·.it))
 | [],st,AB,r,st',cnt',hs',h=>by
  simp only [GD,AJ,AI] at h
  obtain ⟨rfl,_,rfl,_⟩:=h
  simp [Cc]
 | k::hs,st,AB,r,st',cnt',hs',h=>by
  unfold GD at h
  split at h
  ·simp only [AQ] at h
   obtain ⟨ps,h1,h⟩:=h
   split at h
   ·simp only [A7,AI] at h
    obtain ⟨⟨r2,st2,c2,h2⟩,h3,rfl,h4⟩:=h
    simp only [AI] at h4
    obtain ⟨rfl,rfl,rfl⟩:=h4
    have:=Ly h3
    simp only [List.map_cons,Cc]
    omega
   ·cases h
  ·simp only [AJ,AI] at h
   obtain ⟨rfl,_,rfl,_⟩:=h
   simp [Cc]
theorem Nz {a:Act} {w:World}:∀ {hs:List Nat} {st:List Fact} {AB:Nat} {r:List Sq} {st':List Fact} {cnt':Nat} {hs':List Nat},GD st AB hs=some (r,st',cnt',hs')→DS K E AB (r.map (·.it))→
  BR c (·∈st) E a w→BR c (·∈st') E a w
 | [],st,AB,r,st',cnt',hs',h=>fun _ H=>by
  simp only [GD,AJ,AI] at h
  obtain ⟨_,rfl,_,_⟩:=h
  exact H
 | k::hs,st,AB,r,st',cnt',hs',h=>fun hE H=>by
  unfold GD at h
  split at h
  ·simp only [AQ] at h
   obtain ⟨⟨p,sm⟩,h1,h⟩:=h
   simp only at h
   split at h
   ·rename_i hc
    simp only [A7,AI] at h
    obtain ⟨⟨r2,st2,c2,h2⟩,h3,rfl,h4⟩:=h
    simp only [AI] at h4
    obtain ⟨rfl,rfl,rfl⟩:=h4
    simp only [List.map_cons,DS,Dg,CO] at hE
    obtain ⟨⟨vs,Bs,H0⟩,hfix⟩:=H
    have h5:=ADG h1 H0 (fun j _=>Rm hc.2 (by omega)) (Ol hc.1) hE.1
    have H2:BR c (next (·∈st) none sm) E a w:=⟨h5,hfix⟩
    exact Nz h3 hE.2 (H2.mono fun f hf=>O3.1 hf)
   ·cases h
  ·simp only [AJ,AI] at h
   obtain ⟨_,rfl,_,_⟩:=h
   exact H
theorem XF:∀ {os:List Oper} {st:List Fact} {AB:Nat} {hs:List Nat} {r:List Sq} {st':List Fact} {cnt':Nat},HE cf sg ops os st AB hs=some (r,st',cnt')→cnt'=AB+Cc (r.map (·.it))
 | [],st,AB,hs,r,st',cnt',h=>by
  simp only [HE,A7,AI] at h
  obtain ⟨⟨r2,st2,c2,h2⟩,h3,rfl,rfl,rfl⟩:=h
  exact Ly h3
 | o::os,st,AB,hs,r,st',cnt',h=>by
  simp only [HE,AQ] at h
  obtain ⟨⟨r2,st2,c2,h2⟩,h3,q,h1,h⟩:=h
  simp only at h1 h
  split at h
  ·simp only [A7,AI] at h
   obtain ⟨⟨r4,st4,c4⟩,h5,rfl,h6⟩:=h
   simp only [AI] at h6
   obtain ⟨rfl,rfl⟩:=h6
   have e1:=Ly h3
   have e2:=XF h5
   simp only [List.map_append,List.map_cons,AFB,Cc]
   omega
  ·cases h
theorem T3 (hs:Sound cf sg K) (hc:cf.Fits c) {Q:Exit→Act→World→Prop}:∀ (os:List Oper) (i:Nat) (st:List Fact) (AB:Nat) (hh:List Nat) (r:List Sq) (st':List Fact) (cnt':Nat),
  HE cf sg ops os st AB hh=some (r,st',cnt')→(∀ j o,os[j]?=some o→ops[i+j]?=some o)→DS K E AB (r.map (·.it))→
  ∀ (a:Act) (w:World),BR c (·∈st) E a w→(∀ a' w',BR c (·∈st') E a' w'→Q .normal a' w')→wpOps c.P ops Q (List.range' i os.length) a w
 | [],i,st,AB,hh,r,st',cnt'=>fun ht _ hE a w H hq=>by
  simp only [HE,A7,AI] at ht
  obtain ⟨⟨r2,st2,c2,h2⟩,h3,rfl,rfl,rfl⟩:=ht
  simp only [Aq,List.range'_zero,wpOps]
  exact hq a w (Nz h3 hE H)
 | o::os,i,st,AB,hh,r,st',cnt'=>fun ht ho hE a w H hq=>by
  simp only [HE,AQ] at ht
  obtain ⟨⟨r2,st2,c2,h2⟩,h3,q,h1,ht⟩:=ht
  simp only at h1 ht
  split at ht
  ·rename_i hcond
   simp only [A7,AI] at ht
   obtain ⟨⟨r4,st4,c4⟩,h5,rfl,h6⟩:=ht
   simp only [AI] at h6
   obtain ⟨rfl,rfl⟩:=h6
   rw [List.map_append] at hE
   obtain ⟨hE1,hE2⟩:=hE.split
   rw [← Ly h3] at hE2
   simp only [List.map_cons,DS] at hE2
   have H1:=Nz h3 hE1 H
   simp only [A6,List.range'_succ]
   rw [wpOps_cons]
   refine Tc hs hc h1 H1 (fun j _=>Rm hcond.2 (by omega)) (Ol hcond.1) hE2.1 (by simpa using ho 0 o (by simp)) fun a' w' H'=>?_
   refine T3 hs hc os (i+1) _ _ _ _ _ _ h5 (fun j o' hj=>?_) hE2.2 a' w' (H'.mono fun f hf=>O3.1 hf) hq
   have:=ho (j+1) o' (by simpa using hj)
   rwa [show i+1+j=i+(j+1) from by omega]
  ·simp at ht
def J2 (cf:CF) (sg:Nat→Option Sg):List (Nat×Array Oper×List Nat)→List Fact→Nat→Option (List Sq×List Fact×Nat)
 | [],st,AB=>some ([],st,AB)
 | x::l,st,AB=>(HE cf sg x.2.1 x.2.1.toList st AB x.2.2).bind fun r=>(J2 cf sg l r.2.1 r.2.2).map fun q=>(r.1++q.1,q.2)
def M1:List (Nat×Array Oper×List Nat)→Code→Code
 | [],d=>d
 | x::l,d=>.seq (.region x.1 x.2.1 false) (M1 l d)
theorem XM (hs:Sound cf sg K) (hc:cf.Fits c) {Qc:Exit→Act→World→Prop} {d:Code}:∀ (l:List (Nat×Array Oper×List Nat)) (st:List Fact) (AB:Nat) (r:List Sq) (st':List Fact) (cnt':Nat),J2 cf sg l st AB=some (r,st',cnt')→
  DS K E AB (r.map (·.it))→∀ (a:Act) (w:World),BR c (·∈st) E a w→(∀ a' w',BR c (·∈st') E a' w'→d.wp c.P Qc a' w')→(M1 l d).wp c.P Qc a w
 | [],st,AB,r,st',cnt'=>fun ht _ a w H hk=>by
  simp only [J2,AJ,AI] at ht
  obtain ⟨_,rfl,_⟩:=ht
  exact hk a w H
 | x::l,st,AB,r,st',cnt'=>fun ht hE a w H hk=>by
  simp only [J2,AQ,A7,AI] at ht
  obtain ⟨⟨r1,st1,c1⟩,h1,⟨r2,st2,c2⟩,h2,rfl,h3⟩:=ht
  simp only [AI] at h3
  obtain ⟨rfl,rfl⟩:=h3
  rw [List.map_append] at hE
  obtain ⟨hE1,hE2⟩:=hE.split
  rw [← XF h1] at hE2
  simp only [M1]
  refine wp_seq (wp_region ?_)
  rw [List.range_eq_range']
  have:=T3 hs hc (Q:=Exit.then ((M1 l d).wp c.P Qc) Qc) x.2.1.toList 0 _ _ _ _ _ _ h1 (fun j o hj=>by simpa using hj) hE1 a w H fun a1 w1 H2=>XM hs hc l _ _ _ _ _ h2 hE2 a1 w1 H2 hk
  simpa using this
end
end Go.Cat
namespace Go.Cat
structure Rc where
 q:Sq
 AB:Nat
 dst:Option Nat
def CI:Nat→List Oper→List Sq→List Rc
 | AB,o::os,q::qs=>⟨q,AB,o.dst⟩::CI (AB+q.it.p.np) os qs
 | _,_,_=>[]
def Rc.HC (r:Rc) (f:Fact):Bool:=!Dp r.dst r.q.sm.kill f
def Rc.Zc (r:Rc) (n:Nat):Bool:=decide (r.AB≤n∧n<r.AB+r.q.it.p.np)
def JX (x y:Rc):Bool:=
 x.q.sm.adds.any (y.q.sm.needs.contains ·) || x.q.sm.needs.any y.HC || y.q.sm.adds.any x.HC || y.q.sm.adds.any fun f=>f.AZ.any x.Zc
def FQ (o:Oper):List Nat:=(o.after.toList.filter (Region.binds .any)).map (·.on)
def PJ (acc:List Nat) (ds:List Nat):Nat:=ds.foldr (fun d s=>s ||| 2 ^ d ||| acc.getD d 0) 0
def Hr:List Nat→List Oper→List Nat
 | acc,[]=>acc
 | acc,o::os=>Hr (acc++[PJ acc (FQ o)]) os
def Tq (rs:List Rc) (bf:List Nat):Bool:=
 rs.zipIdx.all fun y=>rs.zipIdx.all fun x=>if x.2<y.2 then !JX x.1 y.1 || (bf.getD y.2 0).testBit x.2 else true
def AC2 (os:List Oper):Bool:=os.zipIdx.all fun x=>(FQ x.1).all fun d=>decide (d<x.2)
def Sl (st:List Fact) (AB:Nat) (os:List Oper) (qs:List Sq):Bool:=
 let rs:=CI AB os qs
 Tq rs (Hr [] os)&&AC2 os&&(rs.all fun r=>r.q.sm.adds.all fun f=>f.AZ.all fun n=>decide (n<r.AB+r.q.it.p.np))&&Hs st AB
theorem AQW {acc ds:List Nat} {i:Nat} (h:(PJ acc ds).testBit i=true):∃ d∈ds,i=d∨(acc.getD d 0).testBit i=true:=by
 induction ds with
 | nil=>simp [PJ] at h
 | cons d ds ih=>
  simp only [PJ,List.foldr_cons,Nat.testBit_or,Bool.or_eq_true] at h
  rcases h with (h | h) | h
  ·obtain ⟨d',hd,q⟩:=ih h
   exact ⟨d',BC _ hd,q⟩
  ·rw [Nat.testBit_two_pow] at h
   have h':d=i:=by simpa using h
   exact ⟨d,List.mem_cons_self ..,.inl h'.symm⟩
  ·exact ⟨d,List.mem_cons_self ..,.inr h⟩
theorem Sf {S:Nat→Prop} {all:List Oper} (hd:∀ k o,all[k]?=some o→∀ d∈FQ o,d<k) (hS:∀ k o,S k→all[k]?=some o→∀ d∈FQ o,S d):
  ∀ (os pre:List Oper) (acc:List Nat),all=pre++os→acc.length=pre.length→
   (∀ k o,k<pre.length→all[k]?=some o→(∀ d∈FQ o,S d)→∀ i,(acc.getD k 0).testBit i=true→S i)→
   ∀ k o,all[k]?=some o→(∀ d∈FQ o,S d)→∀ i,((Hr acc os).getD k 0).testBit i=true→S i
 | [],pre,acc=>fun ha hl h k o hk=>by
  simp only [Hr]
  refine h k o ?_ hk
  subst ha
  rcases CC k pre.length with q | q
  ·exact q
  ·simp [Dd q] at hk
 | o::os,pre,acc=>fun ha hl h=>by
  simp only [Hr]
  refine Sf hd hS os (pre++[o]) _ (by simp [ha]) (by simp [hl]) ?_
  intro k o' hk ho' hdep i hi
  simp only [Ad,A6,Aq] at hk
  rcases CC k pre.length with q | q
  ·rw [BP,D4 (by omega),← BP] at hi
   exact h k o' q ho' hdep i hi
  ·have hke:k=pre.length:=by omega
   subst hke
   have hoo:o'=o:=by
    have:=ho'
    rw [ha] at this
    simp at this
    exact this.symm
   subst hoo
   rw [BP,FI (by omega)] at hi
   simp only [hl,Nat.sub_self,List.getElem?_cons_zero,Option.getD_some] at hi
   obtain ⟨d,hdm,hi⟩:=AQW hi
   rcases hi with rfl | hi
   ·exact hdep _ hdm
   ·have hdl:d<pre.length:=hd _ _ ho' d hdm
    have:∃ od,all[d]?=some od:=by
     refine ⟨all[d]'(by rw [ha]; simp; omega),by simp⟩
    obtain ⟨od,hod⟩:=this
    exact h d od hdl hod (hS d od (hdep d hdm) hod) i hi
section
variable (st:List Fact) (rs:List Rc)
def kl (i:Nat) (f:Fact):Prop:=∃ r,rs[i]?=some r∧r.HC f=true
def GB (S:Nat→Prop) (f:Fact):Prop:=
 (f∈st∧∀ i,S i→¬ kl rs i f)∨∃ j r,S j∧rs[j]?=some r∧f∈r.q.sm.adds∧∀ i,S i→j<i→¬ kl rs i f
end
section
variable {cf:CF} {sg:Nat→Option Sg} {E:Nat→D} {K:Nat→List D→List D→Prop} {ops:Array Oper}
theorem XY {st0:List Fact} {rs:List Rc}:∀ (os:List Oper) (i:Nat) (st:List Fact) (AB:Nat) (hh:List Nat) (r:List Sq) (st':List Fact) (cnt':Nat),
  EE cf sg ops os st AB hh=some (r,st',cnt')→(∀ j x,(CI AB os r)[j]?=some x→rs[i+j]?=some x)→rs.length=i+os.length→DS K E AB (r.map (·.it))→
  (∀ f∈st,GB st0 rs (· < i) f)→
  (∀ j x o,(CI AB os r)[j]?=some x→os[j]?=some o→(∃ stj h,Lj cf sg ops stj x.AB o h=some x.q)∧x.dst=o.dst∧(∀ f∈x.q.sm.needs,GB st0 rs (· < i+j) f)∧Dg K E x.AB x.q.it∧AB≤x.AB)∧
  (∀ f∈st',GB st0 rs (· < i+os.length) f)∧(CI AB os r).length=os.length
 | [],i,st,AB,hh,r,st',cnt'=>fun ht _ _ _ hst=>by
  simp only [EE,AJ,AI] at ht
  obtain ⟨rfl,rfl,rfl⟩:=ht
  refine ⟨by simp [CI],by simpa using hst,by simp [CI]⟩
 | o::os,i,st,AB,hh,r,st',cnt'=>fun ht hrs hlen hE hst=>by
  simp only [EE,AQ] at ht
  obtain ⟨q,h1,ht⟩:=ht
  split at ht
  ·rename_i hcond
   simp only [A7,AI] at ht
   obtain ⟨⟨r2,st2,c2⟩,h2,rfl,h3⟩:=ht
   simp only [AI] at h3
   obtain ⟨rfl,rfl⟩:=h3
   simp only [List.map_cons,DS] at hE
   have h0:rs[i]?=some ⟨q,AB,o.dst⟩:=by simpa using hrs 0 _ (by simp [CI])
   have hst1:∀ f∈IV st o.dst q.sm,GB st0 rs (· < i+1) f:=by
    intro f hf
    rcases O3.1 hf with ⟨k1,k2⟩ | k
    ·have hnk:¬ kl rs i f:=by
      rintro ⟨x,hx,hk⟩
      rw [h0] at hx
      injection hx with hx
      subst hx
      simp only [Rc.HC,Bool.not_eq_true'] at hk
      cases f with
      | en n s=>simp [Dp] at hk; exact k2 hk
      | sl t l=>simp [Dp] at hk; exact k2 hk
     rcases hst f k1 with ⟨a1,a2⟩ | ⟨j,x,a1,a2,a3,a4⟩
     ·refine .inl ⟨a1,fun m hm=>?_⟩
      rcases CC m i with h | h
      ·exact a2 m h
      ·have:m=i:=by omega
       subst this; exact hnk
     ·refine .inr ⟨j,x,by show j<i+1; have:j<i:=a1; omega,a2,a3,fun m hm hj=>?_⟩
      rcases CC m i with h | h
      ·exact a4 m h hj
      ·have:m=i:=by have:m<i+1:=hm; omega
       subst this; exact hnk
    ·refine .inr ⟨i,_,by show i<i+1; omega,h0,k,fun m hm hj=>?_⟩
     have:m<i+1:=hm
     omega
   obtain ⟨b1,b2,b3⟩:=XY os (i+1) _ _ _ _ _ _ h2 (fun j x hj=>by
    have:=hrs (j+1) x (by simpa [CI] using hj)
    rwa [show i+1+j=i+(j+1) from by omega]) (by simp at hlen; omega) hE.2 hst1
   refine ⟨?_,?_,by simp [CI,b3]⟩
   ·intro j x o' hj ho'
    cases j with
    | zero=>
     simp only [CI,List.getElem?_cons_zero,AJ] at hj ho'
     subst hj ho'
     exact ⟨⟨st,_,h1⟩,rfl,fun f hf=>hst f (Ol hcond.1 f hf),hE.1,Nat.le_refl _⟩
    | succ j=>
     simp only [CI,List.getElem?_cons_succ] at hj ho'
     obtain ⟨c1,c2,c3,c4,c5⟩:=b1 j x o' hj ho'
     refine ⟨c1,c2,fun f hf=>?_,c4,by omega⟩
     have:=c3 f hf
     rwa [show i+1+j=i+(j+1) from by omega] at this
   ·intro f hf
    have:=b2 f hf
    simp only [A6]
    rwa [show i+1+os.length=i+(os.length+1) from by omega] at this
  ·simp at ht
theorem AEC:∀ (os:List Oper) (qs:List Sq) (AB:Nat) (j k:Nat) (x y:Rc),(CI AB os qs)[j]?=some x→(CI AB os qs)[k]?=some y→j<k→x.AB+x.q.it.p.np≤y.AB
 | [],_,_,_,_,_,_=>fun h=>by simp [CI] at h
 | _::_,[],_,_,_,_,_=>fun h=>by simp [CI] at h
 | o::os,q::qs,AB,j,k,x,y=>fun hj hk hlt=>by
  cases k with
  | zero=>omega
  | succ k=>
   simp only [CI,List.getElem?_cons_succ] at hk
   cases j with
   | zero=>
    simp only [CI,List.getElem?_cons_zero,AJ] at hj
    subst hj
    have:∀ (os:List Oper) (qs:List Sq) (AB:Nat) (k:Nat) (y:Rc),(CI AB os qs)[k]?=some y→AB≤y.AB:=by
     intro os
     induction os with
     | nil=>intro qs AB k y h; simp [CI] at h
     | cons o os ih=>
      intro qs AB k y h
      cases qs with
      | nil=>simp [CI] at h
      | cons q qs=>
       cases k with
       | zero=>simp only [CI,List.getElem?_cons_zero,AJ] at h; subst h; exact Nat.le_refl _
       | succ k=>simp only [CI,List.getElem?_cons_succ] at h; have:=ih _ _ _ _ h; omega
    exact this _ _ _ _ _ hk
   | succ j=>
    simp only [CI,List.getElem?_cons_succ] at hj
    exact AEC os qs _ j k x y hj hk (by omega)
theorem OO {rs:List Rc} {bf:List Nat} (h:Tq rs bf=true) {i k:Nat} {x y:Rc} (hx:rs[i]?=some x) (hy:rs[k]?=some y) (hlt:i<k) (hc:JX x y=true):(bf.getD k 0).testBit i=true:=by
 simp only [Tq,BD] at h
 have h1:=h (y,k) (List.mem_zipIdx_iff_getElem?.2 hy) (x,i) (List.mem_zipIdx_iff_getElem?.2 hx)
 simp only [if_pos hlt,hc,Bool.not_true,Bool.false_or] at h1
 exact h1
end
section
variable {cf:CF} {sg:Nat→Option Sg} {c:Cx} {E:Nat→D} {K:Nat→List D→List D→Prop} {ops:Array Oper}
theorem Rc.AD7 {r:Rc} {F:Fact→Prop} {f:Fact} (h1:F f) (h2:¬ r.HC f=true):next F r.dst r.q.sm f:=by
 left
 refine ⟨h1,?_⟩
 cases f <;> simp [Rc.HC,Dp] at h2 ⊢ <;> exact h2
theorem AKA (hs:Sound cf sg K) (hc:cf.Fits c) {st:List Fact} {AB:Nat} {hh:List Nat} {qs:List Sq} {st':List Fact} {cnt':Nat}
  (ht:EE cf sg ops ops.toList st AB hh=some (qs,st',cnt')) (hd:Sl st AB ops.toList qs=true) (hE:DS K E AB (qs.map (·.it)))
  {Q:Exit→Act→World→Prop} (hq:∀ a' w',BR c (·∈st') E a' w'→Q .normal a' w'):
  ∀ (fuel:Nat) (listed:Array Bool) (a:Act) (w:World),listed.size=ops.size→((List.range ops.size).filter fun i=>!listed.getD i true).length≤fuel→
   (∀ k o,listed.getD k false=true→ops.toList[k]?=some o→∀ d∈FQ o,listed.getD d false=true)→
   BR c (GB st (CI AB ops.toList qs) (fun i=>listed.getD i false=true)) E a w→wpAny c.P .any ops Q fuel listed a w:=by
 simp only [Sl,Ac,BD,Aj] at hd
 obtain ⟨⟨⟨hconf,hdeps⟩,hment⟩,hbd⟩:=hd
 have hrl:(CI AB ops.toList qs).length=0+ops.toList.length:=by
  have:∀ (os:List Oper) (st:List Fact) (AB:Nat) (hh:List Nat) (qs:List Sq) (x:List Fact×Nat),EE cf sg ops os st AB hh=some (qs,x)→(CI AB os qs).length=os.length:=by
   intro os
   induction os with
   | nil=>intro st AB hh qs x h; simp [CI]
   | cons o os ih=>
    intro st AB hh qs x h
    simp only [EE,AQ] at h
    obtain ⟨q,_,h⟩:=h
    split at h
    ·simp only [A7,AI] at h
     obtain ⟨⟨r2,x2⟩,h2,rfl,_⟩:=h
     simp [CI,ih _ _ _ _ _ h2]
    ·simp at h
  rw [this _ _ _ _ _ _ ht]; omega
 obtain ⟨hA,hfin,_⟩:=XY (st0:=st) (rs:=CI AB ops.toList qs) ops.toList 0 st AB hh qs st' cnt' ht (fun j x hj=>by simpa using hj) hrl hE
  (fun f hf=>.inl ⟨hf,fun i hi=>by simp at hi⟩)
 generalize hrs:CI AB ops.toList qs=rs at*
 simp only [Nat.zero_add] at hA hfin hrl
 have hdeps':∀ k o,ops.toList[k]?=some o→∀ d∈FQ o,d<k:=by
  simp only [AC2,BD,Aj] at hdeps
  intro k o ho d hd
  exact hdeps (o,k) (List.mem_zipIdx_iff_getElem?.2 ho) d hd
 have hopl:∀ k,k<ops.size→∃ o,ops.toList[k]?=some o∧ops[k]?=some o:=fun k hk=>⟨ops[k],by simp [hk],by simp [hk]⟩
 have hrc:∀ k,k<ops.size→∃ x,rs[k]?=some x:=fun k hk=>⟨rs[k]'(by rw [hrl]; simpa using hk),by simp⟩
 have lts:∀ {k:Nat} {x:Rc},rs[k]?=some x→k<ops.size:=by
  intro k x h
  rcases CC k rs.length with q | q
  ·rw [hrl] at q; simpa using q
  ·rw [Dd q] at h; simp at h
 intro fuel
 induction fuel with
 | zero=>
  intro listed a w hsz hf hcl H
  have hall:∀ k,k<ops.size→listed.getD k false=true:=by
   intro k hk
   cases hlk:listed.getD k false with
   | true=>rfl
   | false=>
    have h0:(List.range ops.size).filter (fun i=>!listed.getD i true)=[]:=by
     exact FX (by omega)
    have:k∈(List.range ops.size).filter (fun i=>!listed.getD i true):=by
     simp only [List.mem_filter,List.mem_range,hk,true_and]
     rw [Bp] at hlk ⊢
     rw [Array.getElem?_eq_getElem (by omega)] at hlk ⊢
     simp at hlk ⊢
     exact hlk
    rw [h0] at this; simp at this
  refine ⟨?_,hq a w (H.mono fun f hf=>?_)⟩
  ·unfold Region.ready
   rw [List.filter_eq_nil_iff]
   intro i hi
   have hi':i<ops.size:=by simpa using hi
   have:=hall i hi'
   rw [Bp] at this
   rw [Bp]
   rw [Array.getElem?_eq_getElem (by omega)] at this ⊢
   simp at this ⊢
   simp [this]
  ·rcases hfin f hf with ⟨a1,a2⟩ | ⟨j,x,a1,a2,a3,a4⟩
   ·refine .inl ⟨a1,fun i _ hk=>?_⟩
    obtain ⟨x,hx,hk⟩:=hk
    exact a2 i (by simpa using lts hx) ⟨x,hx,hk⟩
   ·refine .inr ⟨j,x,hall j (lts a2),a2,a3,fun i _ hj hk=>?_⟩
    obtain ⟨y,hy,hk⟩:=hk
    exact a4 i (by simpa using lts hy) hj ⟨y,hy,hk⟩
 | succ fuel ih=>
  intro listed a w hsz hf hcl H
  have key:∀ k,k<ops.size→listed.getD k false=false∨listed.getD k false=true:=fun k _=>by cases listed.getD k false <;> simp
  have toT:∀ k,k<ops.size→listed.getD k true=listed.getD k false:=by
   intro k hk
   rw [Bp,Bp,Array.getElem?_eq_getElem (by omega)]
   rfl
  refine ⟨fun hr=>?_,?_⟩
  · -- nothing is ready: all is done
   have hall:∀ k,k<ops.size→listed.getD k false=true:=by
    intro k
    induction k using Nat.strongRecOn with
    | _ k ihk=>
     intro hk
     rcases key k hk with h | h
     ·exfalso
      have:k∈Region.ready .any ops listed:=by
       unfold Region.ready
       simp only [List.mem_filter,List.mem_range,hk,true_and,Ac]
       refine ⟨by rw [toT k hk,h]; rfl,?_⟩
       obtain ⟨o,ho1,ho2⟩:=hopl k hk
       rw [ho2]
       simp only [Option.map_some,Option.getD_some]
       rw [← Array.all_toList]
       simp only [BD,Bool.or_eq_true,Bool.not_eq_true']
       intro e he
       cases hb:Region.binds .any e with
       | false=>left; rfl
       | true=>
        right
        have hd:e.on∈FQ o:=by
         simp only [FQ,List.mem_map,List.mem_filter]
         exact ⟨e,⟨he,hb⟩,rfl⟩
        have:=hdeps' k o ho1 _ hd
        exact ihk e.on this (by omega)
      rw [hr] at this; simp at this
     ·exact h
   refine hq a w (H.mono fun f hf=>?_)
   rcases hfin f hf with ⟨a1,a2⟩ | ⟨j,x,a1,a2,a3,a4⟩
   ·refine .inl ⟨a1,fun i _ hk=>?_⟩
    obtain ⟨x,hx,hk⟩:=hk
    exact a2 i (by simpa using lts hx) ⟨x,hx,hk⟩
   ·refine .inr ⟨j,x,hall j (lts a2),a2,a3,fun i _ hj hk=>?_⟩
    obtain ⟨y,hy,hk⟩:=hk
    exact a4 i (by simpa using lts hy) hj ⟨y,hy,hk⟩
  ·intro k hk
   unfold Region.ready at hk
   simp only [List.mem_filter,List.mem_range,Ac] at hk
   obtain ⟨hkl,hkn,hkd⟩:=hk
   obtain ⟨o,ho1,ho2⟩:=hopl k hkl
   obtain ⟨x,hx⟩:=hrc k hkl
   have hkn':listed.getD k false=false:=by rw [toT k hkl] at hkn; simpa using hkn
   rw [ho2] at hkd
   simp only [Option.map_some,Option.getD_some] at hkd
   rw [← Array.all_toList] at hkd
   simp only [BD,Bool.or_eq_true,Bool.not_eq_true'] at hkd
   have hready:∀ d∈FQ o,listed.getD d false=true:=by
    intro d hd
    simp only [FQ,List.mem_map,List.mem_filter] at hd
    obtain ⟨e,⟨he,hb⟩,rfl⟩:=hd
    rcases hkd e he with h | h
    ·rw [hb] at h; simp at h
    ·exact h
   -- what must come ahead of k has been done; what must come behind it has not
   have hbef:∀ i,((Hr [] ops.toList).getD k 0).testBit i=true→listed.getD i false=true:=
    Sf (S:=fun i=>listed.getD i false=true) hdeps' hcl ops.toList [] [] rfl rfl (fun k _ h=>by simp at h) k o ho1 hready
   have hbeh:∀ i y,rs[i]?=some y→listed.getD i false=true→k<i→((Hr [] ops.toList).getD i 0).testBit k=true→False:=by
    intro i y hy hi _ hb
    obtain ⟨oi,hoi,_⟩:=hopl i (lts hy)
    have:=Sf (S:=fun i=>listed.getD i false=true) hdeps' hcl ops.toList [] [] rfl rfl (fun k _ h=>by simp at h) i oi hoi (hcl i oi hi hoi) k hb
    rw [hkn'] at this; simp at this
   obtain ⟨⟨stj,h,h1⟩,h2,h3,h4,h5⟩:=hA k x o hx ho1
   have hneeds:∀ f∈x.q.sm.needs,GB st rs (fun i=>listed.getD i false=true) f:=by
    intro f hf
    have later:∀ i,listed.getD i false=true→k<i→¬ kl rs i f:=by
     rintro i hi hlt ⟨y,hy,hk⟩
     refine hbeh i y hy hi hlt (OO hconf hx hy hlt ?_)
     simp only [JX,Bool.or_eq_true,List.any_eq_true]
     exact .inl (.inl (.inr ⟨f,hf,hk⟩))
    rcases h3 f hf with ⟨a1,a2⟩ | ⟨j,y,a1,a2,a3,a4⟩
    ·refine .inl ⟨a1,fun i hi=>?_⟩
     rcases Nat.lt_trichotomy i k with q | q | q
     ·exact a2 i q
     ·subst q; have hi':listed.getD i false=true:=hi; rw [hkn'] at hi'; simp at hi'
     ·exact later i hi q
    ·have a1':j<k:=a1
     refine .inr ⟨j,y,hbef j (OO hconf a2 hx a1' ?_),a2,a3,fun i hi hj=>?_⟩
     ·simp only [JX,Bool.or_eq_true,List.any_eq_true]
      exact .inl (.inl (.inl ⟨f,a3,by simpa using hf⟩))
     ·rcases Nat.lt_trichotomy i k with q | q | q
      ·exact a4 i q hj
      ·subst q; have hi':listed.getD i false=true:=hi; rw [hkn'] at hi'; simp at hi'
      ·exact later i hi q
   have hfresh:∀ j,j<x.q.it.p.np→BX (GB st rs (fun i=>listed.getD i false=true)) (x.AB+j):=by
    intro j hj
    have hno:∀ f,GB st rs (fun i=>listed.getD i false=true) f→x.AB+j∉f.AZ:=by
     rintro f (⟨a1,_⟩ | ⟨i,y,a1,a2,a3,_⟩) hm
     ·simp only [Hs,BD,Aj] at hbd
      have:=hbd f a1 _ hm
      omega
     ·rcases Nat.lt_trichotomy i k with q | q | q
      ·have:=hment y (List.mem_of_getElem? a2) f a3 _ hm
       have:=AEC ops.toList qs AB i k y x (by rw [hrs]; exact a2) (by rw [hrs]; exact hx) q
       omega
      ·subst q; have a1':listed.getD i false=true:=a1; rw [hkn'] at a1'; simp at a1'
      ·refine hbeh i y a2 a1 q (OO hconf hx a2 q ?_)
       simp only [JX,Bool.or_eq_true,List.any_eq_true]
       exact .inr ⟨f,a3,x.AB+j,hm,by simp [Rc.Zc]; omega⟩
    exact ⟨fun s hf=>hno _ hf (by simp [Fact.AZ]),fun t l hf hm=>hno _ hf (by simpa [Fact.AZ] using hm)⟩
   refine Tc hs hc h1 H hfresh hneeds h4 ho2 fun a' w' H'=>?_
   have hset:∀ i,(listed.setIfInBounds k true).getD i false=true↔(i=k∨listed.getD i false=true):=by
    intro i
    simp only [Bp,Array.getElem?_setIfInBounds]
    by_cases hik:k=i
    ·subst hik; simp [show k<listed.size by omega]
    ·simp only [if_neg hik]
     constructor
     ·intro h; exact .inr h
     ·rintro (h | h)
      ·exact (hik h.symm).elim
      ·exact h
   refine ih _ a' w' (by simpa using hsz) ?_ ?_ (H'.mono fun f hf=>?_)
   · -- one less is left
    have hsub:((List.range ops.size).filter fun i=>!(listed.setIfInBounds k true).getD i true).length<((List.range ops.size).filter fun i=>!listed.getD i true).length:=by
     have e:((List.range ops.size).filter fun i=>!(listed.setIfInBounds k true).getD i true)=((List.range ops.size).filter fun i=>!listed.getD i true).filter (fun i=>decide (i≠k)):=by
      rw [List.filter_filter]
      apply List.filter_congr
      intro i hi
      have hi':i<ops.size:=by simpa using hi
      simp only [Bp,Array.getElem?_setIfInBounds]
      by_cases hik:k=i
      ·subst hik; simp [show k<listed.size by omega]
      ·have:i≠k:=fun e=>hik e.symm
       simp [if_neg hik,this]
     rw [e]
     have hmem:k∈(List.range ops.size).filter fun i=>!listed.getD i true:=by
      simp only [List.mem_filter,List.mem_range,hkl,true_and]
      exact hkn
     exact List.length_filter_lt_length_iff_exists.2 ⟨k,hmem,by simp⟩
    omega
   ·intro i oi hi hoi d hd
    rw [hset] at hi ⊢
    right
    rcases hi with rfl | hi
    ·rw [ho1] at hoi; injection hoi with hoi; subst hoi; exact hready d hd
    ·exact hcl i oi hi hoi d hd
   · -- the facts
    rcases hf with ⟨a1,a2⟩ | ⟨j,y,a1,a2,a3,a4⟩
    ·have hk1:GB st rs (fun i=>listed.getD i false=true) f:=.inl ⟨a1,fun i hi=>a2 i ((hset i).2 (.inr hi))⟩
     have hk2:¬ x.HC f=true:=fun q=>a2 k ((hset k).2 (.inl rfl)) ⟨x,hx,q⟩
     rw [← h2]
     exact Rc.AD7 hk1 hk2
    ·rcases (hset j).1 a1 with rfl | b1
     ·rw [hx] at a2; injection a2 with a2; subst a2
      exact .inr a3
     ·have hk1:GB st rs (fun i=>listed.getD i false=true) f:=.inr ⟨j,y,b1,a2,a3,fun i hi=>a4 i ((hset i).2 (.inr hi))⟩
      have hk2:¬ x.HC f=true:=by
       intro q
       rcases Nat.lt_trichotomy j k with hlt | hlt | hlt
       ·exact a4 k ((hset k).2 (.inl rfl)) hlt ⟨x,hx,q⟩
       ·subst hlt; have b1':listed.getD j false=true:=b1; rw [hkn'] at b1'; simp at b1'
       ·refine hbeh j y a2 b1 hlt (OO hconf hx a2 hlt ?_)
        simp only [JX,Bool.or_eq_true,List.any_eq_true]
        exact .inl (.inr ⟨f,a3,q⟩)
      rw [← h2]
      exact Rc.AD7 hk1 hk2
end
end Go.Cat
namespace Go.Cat
abbrev VT:=List (Nat×Sh)
abbrev HL:=List (Nat×List Nat)
def Lk (L:Nat):Nat→VT→List Fact
 | _,[]=>[]
 | i,(t,s)::r=>(if L.testBit i then [.sl t (.is i []),.en i s] else [])++Lk L (i+1) r
def Bm (vt:VT) (L:Nat):List Fact:=Lk L 0 vt
theorem Yd {L:Nat} {f:Fact}:∀ {vt:VT} {i:Nat},f∈Lk L i vt↔∃ j t s,vt[j]?=some (t,s)∧L.testBit (i+j)=true∧(f=.sl t (.is (i+j) [])∨f=.en (i+j) s)
 | [],i=>by simp [Lk]
 | (t,s)::r,i=>by
  simp only [Lk,A8,Yd (vt:=r)]
  constructor
  ·rintro (h | ⟨j,t',s',h1,h2,h3⟩)
   ·split at h
    ·rename_i hL
     refine ⟨0,t,s,by simp,hL,?_⟩
     simpa using h
    ·simp at h
   ·exact ⟨j+1,t',s',by simpa using h1,by rwa [show i+(j+1)=i+1+j from by omega],by rwa [show i+(j+1)=i+1+j from by omega]⟩
  ·rintro ⟨j,t',s',h1,h2,h3⟩
   cases j with
   | zero=>
    simp only [List.getElem?_cons_zero,AJ,AI] at h1
    obtain ⟨rfl,rfl⟩:=h1
    left
    simp only [Nat.add_zero] at h2 h3
    rw [if_pos h2]
    simpa using h3
   | succ j=>
    right
    exact ⟨j,t',s',by simpa using h1,by rwa [show i+1+j=i+(j+1) from by omega],by rwa [show i+1+j=i+(j+1) from by omega]⟩
theorem Cu {vt:VT} {L:Nat} {f:Fact}:f∈Bm vt L↔∃ i t s,vt[i]?=some (t,s)∧L.testBit i=true∧(f=.sl t (.is i [])∨f=.en i s):=by
 unfold Bm
 rw [Yd]
 simp
theorem F0 {vt:VT} {L L':Nat} (h:∀ i,L'.testBit i=true→L.testBit i=true):∀ f,f∈Bm vt L'→f∈Bm vt L:=by
 intro f hf
 obtain ⟨i,t,s,h1,h2,h3⟩:=Cu.1 hf
 exact Cu.2 ⟨i,t,s,h1,h i h2,h3⟩
def HO (a b:Nat):Bool:=a &&& b == a
theorem TE {a b:Nat} (h:HO a b=true) (i:Nat) (ha:a.testBit i=true):b.testBit i=true:=by
 have h':a &&& b=a:=by simpa [HO] using h
 have:=congrArg (fun x=>Nat.testBit x i) h'
 simp only [Nat.testBit_and,ha,Bool.true_and] at this
 exact this
theorem BR.congr {c:Cx} {vt:VT} {L:Nat} {E E':Nat→D} {a:Act} {w:World} (h:BR c (·∈Bm vt L) E a w) (hE:∀ i t s,vt[i]?=some (t,s)→L.testBit i=true→E' i=E i):
  BR c (·∈Bm vt L) E' a w:=by
 obtain ⟨⟨vs,Bs,H⟩,hfix⟩:=h
 refine ⟨⟨vs,Bs,?_,H.nodup,H.mine,H.apart,?_,H.agr,H.os,H.tape,H.output,H.defers,H.size⟩,hfix⟩
 ·intro n s hf
  obtain ⟨i,t,s',h1,h2,h3⟩:=Cu.1 hf
  have:=H.own n s hf
  rcases h3 with h3 | h3
  ·simp at h3
  ·injection h3 with e1 e2
   subst e1 e2
   rw [hE n t s h1 h2]; exact this
 ·intro t l hf
  obtain ⟨i,t',s',h1,h2,h3⟩:=Cu.1 hf
  have:=H.loc t l hf
  rcases h3 with h3 | h3
  ·injection h3 with e1 e2
   subst e1 e2
   refine ⟨fun _=>this.1 (by simp [Ae]),fun q=>(q (by simp [Ae])).elim⟩
  ·simp at h3
def Sh.Dt:Sh→Bool
 | .v=>false
 | .y=>false
 | _=>true
theorem Sh.Ju {s:Sh} (h:¬ s.Dt=true):s=.v∨s=.y:=by
 cases s <;> simp [Sh.Dt] at h ⊢
def Gq (st:List Fact) (mask:Nat):Nat→VT→Option (List (Option Nat))
 | _,[]=>some []
 | i,(t,s)::r=>(Gq st mask (i+1) r).bind fun o=>
  if mask.testBit i then
   match Bd st t with
   | some (.is n [])=>match Bj st n with
    | some s'=>if s'=s∨(s=.v∧s'.okF=true)∨(s=.y∧s'.okF=true) then some (some n::o) else none
    | none=>none
   | _=>none
  else some (none::o)
def DJ:List (Option Nat)→VT→List Nat
 | some n::o,(_,s)::r=>if s.Dt=true then n::DJ o r else DJ o r
 | none::o,_::r=>DJ o r
 | _,_=>[]
def FZ:List (Option Nat)→VT→List Nat
 | some n::o,(_,s)::r=>if s.Dt=true then FZ o r else n::FZ o r
 | none::o,_::r=>FZ o r
 | _,_=>[]
def R9 (st:List Fact) (AB:Nat) (h:List Nat):Option (List Sq×List Fact×Nat×List Nat):=match h with
 | k::_=>if 500000≤k∧k<600000 then GD st AB h else some ([],st,AB,h)
 | []=>some ([],st,AB,[])
def Q9 (cf:CF) (sg:Nat→Option Sg) (vt:VT) (ops:Array Oper) (draw:Bool) (L:Nat) (h:Nat×List Nat):Option S:=
 (R9 (Bm vt L) vt.length h.2).bind fun pr=>(EE cf sg ops ops.toList pr.2.1 pr.2.2.1 pr.2.2.2).bind fun r=>
  (Gq r.2.1 h.1 0 vt).bind fun out=>
   if Jj vt.length ((pr.1++r.1).map (·.it))=true∧(!draw || Sl pr.2.1 pr.2.2.1 ops.toList r.1)=true∧(DJ out vt).Nodup∧((DJ out vt).all fun n=>!(FZ out vt).contains n)=true then
    some (.reg ((pr.1++r.1).map (·.it)) out)
   else none
theorem AO9 {c:Cx} {E:Nat→D} {K:Nat→List D→List D→Prop} {st st':List Fact} {AB cnt':Nat} {h h':List Nat} {r:List Sq} (hp:R9 st AB h=some (r,st',cnt',h')):
  cnt'=AB+Cc (r.map (·.it))∧(DS K E AB (r.map (·.it))→∀ {a:Act} {w:World},BR c (·∈st) E a w→BR c (·∈st') E a w):=by
 unfold R9 at hp
 split at hp
 ·split at hp
  ·exact ⟨Ly hp,fun hE _ _ H=>Nz hp hE H⟩
  ·simp only [AJ,AI] at hp
   obtain ⟨rfl,rfl,rfl,_⟩:=hp
   exact ⟨by simp [Cc],fun _ _ _ H=>H⟩
 ·simp only [AJ,AI] at hp
  obtain ⟨rfl,rfl,rfl,_⟩:=hp
  exact ⟨by simp [Cc],fun _ _ _ H=>H⟩
theorem J8 {st:List Fact} {mask:Nat}:∀ {vt:VT} {i:Nat} {out:List (Option Nat)},Gq st mask i vt=some out→out.length=vt.length∧
  ∀ j t s,vt[j]?=some (t,s)→mask.testBit (i+j)=true→∃ n s',out[j]?=some (some n)∧Fact.sl t (.is n [])∈st∧Fact.en n s'∈st∧(s'=s∨(s=.v∧s'.okF=true)∨(s=.y∧s'.okF=true))
 | [],i,out,h=>by simp only [Gq,AJ] at h; subst h; simp
 | (t,s)::r,i,out,h=>by
  simp only [Gq,AQ] at h
  obtain ⟨o,h1,h⟩:=h
  obtain ⟨e1,e2⟩:=J8 h1
  split at h
  ·rename_i hm
   split at h
   ·rename_i n hl
    split at h
    ·rename_i s' hs'
     split at h
     ·rename_i hc
      simp only [AJ] at h
      subst h
      refine ⟨by simp [e1],fun j t2 s2 hj hb=>?_⟩
      cases j with
      | zero=>
       simp only [List.getElem?_cons_zero,AJ,AI] at hj
       obtain ⟨rfl,rfl⟩:=hj
       exact ⟨n,s',by simp,ANT hl,AKM hs',hc⟩
      | succ j=>
       obtain ⟨n2,s3,q1,q2,q3,q4⟩:=e2 j t2 s2 (by simpa using hj) (by rwa [show i+1+j=i+(j+1) from by omega])
       exact ⟨n2,s3,by simpa using q1,q2,q3,q4⟩
     ·simp at h
    ·simp at h
   ·simp at h
  ·rename_i hm
   simp only [AJ] at h
   subst h
   refine ⟨by simp [e1],fun j t2 s2 hj hb=>?_⟩
   cases j with
   | zero=>simp at hb; exact (hm hb).elim
   | succ j=>
    obtain ⟨n2,s3,q1,q2,q3,q4⟩:=e2 j t2 s2 (by simpa using hj) (by rwa [show i+1+j=i+(j+1) from by omega])
    exact ⟨n2,s3,by simpa using q1,q2,q3,q4⟩
theorem O6:∀ {out:List (Option Nat)} {vt:VT} {j n t:Nat} {s:Sh},s.Dt=true→out[j]?=some (some n)→vt[j]?=some (t,s)→n∈DJ out vt
 | [],_,_,_,_,_=>fun _ h=>by simp at h
 | _::_,[],_,_,_,_=>fun _ _ h=>by simp at h
 | o::out,(t',s')::vt,0,n,t,s=>fun hs h1 h2=>by
  simp at h1 h2
  obtain ⟨rfl,rfl⟩:=h2
  subst h1
  simp [DJ,hs]
 | o::out,(t',s')::vt,j+1,n,t,s=>fun hs h1 h2=>by
  have:=O6 (out:=out) (vt:=vt) hs (by simpa using h1) (by simpa using h2)
  cases o with
  | none=>simpa [DJ] using this
  | some m=>
   simp only [DJ]
   split
   ·exact BC _ this
   ·exact this
theorem Wh:∀ {out:List (Option Nat)} {vt:VT} {j n t:Nat} {s:Sh},out[j]?=some (some n)→vt[j]?=some (t,s)→s=.v∨s=.y→n∈FZ out vt
 | [],_,_,_,_,_=>fun h=>by simp at h
 | _::_,[],_,_,_,_=>fun _ h=>by simp at h
 | o::out,(t',s')::vt,0,n,t,s=>fun h1 h2 h3=>by
  simp at h1 h2
  obtain ⟨rfl,rfl⟩:=h2
  subst h1
  rcases h3 with rfl | rfl <;> simp [FZ,Sh.Dt]
 | o::out,(t',s')::vt,j+1,n,t,s=>fun h1 h2 h3=>by
  have:=Wh (out:=out) (vt:=vt) (by simpa using h1) (by simpa using h2) h3
  cases o with
  | none=>simpa [FZ] using this
  | some m=>
   simp only [FZ]
   split
   ·exact this
   ·exact BC _ this
theorem Wa:∀ {out:List (Option Nat)} {vt:VT},(DJ out vt).Nodup→∀ {j k n t u:Nat} {s r:Sh},s.Dt=true→r.Dt=true→out[j]?=some (some n)→vt[j]?=some (t,s)→out[k]?=some (some n)→vt[k]?=some (u,r)→j=k
 | [],_=>fun _=>by simp
 | _::_,[]=>fun _=>by simp
 | o::out,(t',s')::vt=>fun hn=>by
  intro j k n t u s r hs hr h1 h2 h3 h4
  have tl:(DJ out vt).Nodup:=by
   cases o with
   | none=>simpa [DJ] using hn
   | some m=>
    simp only [DJ] at hn
    split at hn
    ·exact (List.nodup_cons.1 hn).2
    ·exact hn
  cases j with
  | zero=>
   cases k with
   | zero=>rfl
   | succ k=>
    simp at h1 h2
    obtain ⟨rfl,rfl⟩:=h2
    subst h1
    have:=O6 (out:=out) (vt:=vt) hr (by simpa using h3) (by simpa using h4)
    simp only [DJ,hs,if_true] at hn
    exact ((List.nodup_cons.1 hn).1 this).elim
  | succ j=>
   cases k with
   | zero=>
    simp at h3 h4
    obtain ⟨rfl,rfl⟩:=h4
    subst h3
    have:=O6 (out:=out) (vt:=vt) hs (by simpa using h1) (by simpa using h2)
    simp only [DJ,hr,if_true] at hn
    exact ((List.nodup_cons.1 hn).1 this).elim
   | succ k=>
    have:=Wa tl (j:=j) (k:=k) (n:=n) (t:=t) (u:=u) (s:=s) (r:=r) hs hr (by simpa using h1) (by simpa using h2) (by simpa using h3) (by simpa using h4)
    omega
theorem AMV {out:List (Option Nat)} {e:Env} {j n:Nat} (h:out[j]?=some (some n)):Env.E (DE out e) j=e.E n:=by
 simp [Env.E,DE,BP,h]
theorem QM {c:Cx} {st:List Fact} {e:Env} {a:Act} {w:World} {vt:VT} {mask:Nat} {out:List (Option Nat)} (h:BR c (·∈st) e.E a w) (ho:Gq st mask 0 vt=some out)
  (hn:(DJ out vt).Nodup) (hd:∀ n∈DJ out vt,n∉FZ out vt):BR c (·∈Bm vt mask) (Env.E (DE out e)) a w:=by
 obtain ⟨⟨vs,Bs,H⟩,hfix⟩:=h
 refine ⟨?_,hfix⟩
 obtain ⟨_,hspec⟩:=J8 ho
 -- what a variable in its shape owns
 let ix:Nat→Nat:=fun i=>match out[i]? with | some (some n)=>n | _=>0
 let own?:Nat→Bool:=fun i=>match vt[i]? with | some (_,s)=>s.Dt | _=>false
 have get:∀ i t s,vt[i]?=some (t,s)→mask.testBit i=true→∃ n s',out[i]?=some (some n)∧ix i=n∧Fact.sl t (.is n [])∈st∧Fact.en n s'∈st∧(s'=s∨(s=.v∧s'.okF=true)∨(s=.y∧s'.okF=true)):=by
  intro i t s h1 h2
  obtain ⟨n,s',q1,q2,q3,q4⟩:=hspec i t s h1 (by simpa using h2)
  exact ⟨n,s',q1,by simp [ix,q1],q2,q3,q4⟩
 let Bs':Nat→List Nat:=fun i=>if own? i then Bs (ix i) else []
 have ownB:∀ i t s,vt[i]?=some (t,s)→s.Dt=true→Bs' i=Bs (ix i):=by
  intro i t s h hs; simp [Bs',own?,h,hs]
 have rdB:∀ i t s,vt[i]?=some (t,s)→s=.v∨s=.y→Bs' i=[]:=by
  intro i t s h hs; rcases hs with rfl | rfl <;> simp [Bs',own?,h,Sh.Dt]
 have hO:∀ b,OB (·∈Bm vt mask) Bs' b→OB (·∈st) Bs b:=by
  rintro b ⟨i,s,hf,hb⟩
  obtain ⟨i',t,s',h1,h2,h3⟩:=Cu.1 hf
  rcases h3 with h3 | h3
  ·simp at h3
  ·injection h3 with e1 e2
   subst e1 e2
   by_cases hs:s.Dt=true
   ·rw [ownB i t s h1 hs] at hb
    obtain ⟨n,s2,q1,q2,q3,q4,q5⟩:=get i t _ h1 h2
    exact ⟨n,s2,q4,q2 ▸ hb⟩
   ·rw [rdB i t _ h1 (Sh.Ju hs)] at hb; simp at hb
 refine ⟨fun i=>vs (ix i),Bs',?_,?_,?_,?_,?_,H.agr,H.os,H.tape,H.output,H.defers,H.size⟩
 ·intro i s hf
  obtain ⟨i',t,s',h1,h2,h3⟩:=Cu.1 hf
  rcases h3 with h3 | h3
  ·simp at h3
  ·injection h3 with e1 e2
   subst e1 e2
   obtain ⟨n,s2,q1,q2,q3,q4,q5⟩:=get i t _ h1 h2
   rw [AMV q1,q2]
   have hown:=H.own n s2 q4
   have fz:s=.v∨s=.y→s2.okF=true→Rd c.fid w.heap (fun b=>OB (·∈Bm vt mask) Bs' b∨c.Xb b) (e.E n) (vs n):=by
    intro hs q5
    refine AF.freeze (fun b _ q=>q.imp (hO b) id) s2 _ _ _ q5 ?_ hown
    rintro b hb (⟨j,s3,hf3,hb3⟩ | hx)
    ·obtain ⟨j',t3,s4,k1,k2,k3⟩:=Cu.1 hf3
     rcases k3 with k3 | k3
     ·simp at k3
     ·injection k3 with e1 e2
      subst e1 e2
      by_cases hs3:s3.Dt=true
      ·rw [ownB j t3 s3 k1 hs3] at hb3
       obtain ⟨m,s5,r1,r2,r3,r4,r5⟩:=get j t3 _ k1 k2
       rw [r2] at hb3
       have hne:n≠m:=by
        rintro rfl
        exact hd n (O6 hs3 r1 k1) (Wh q1 h1 hs)
       exact H.apart n s2 m s5 q4 r4 hne b hb hb3
      ·rw [rdB j t3 _ k1 (Sh.Ju hs3)] at hb3; simp at hb3
    ·have:=c.hX b hx
     rcases H.mine n s2 q4 b hb with q | q
     ·omega
     ·exact this.2 q
   rcases q5 with rfl | ⟨rfl,q5⟩ | ⟨rfl,q5⟩
   ·have:=AF.ext (Af.refl (fun _=>False) _) (fun _ _ q=>q.elim) (fun b _=>hO b) _ _ _ _ (fun _ _ q=>q) hown
    by_cases hs2:s2.Dt=true
    ·rw [ownB i t s2 h1 hs2,q2]; exact this
    ·rcases Sh.Ju hs2 with rfl | rfl
     ·rw [rdB i t _ h1 (.inl rfl)]; simp only [AF] at this ⊢; exact ⟨trivial,this.2⟩
     ·rw [rdB i t _ h1 (.inr rfl)]; simp only [AF] at this ⊢; exact ⟨trivial,this.2⟩
   ·rw [rdB i t _ h1 (.inl rfl)]
    simp only [AF]
    exact ⟨trivial,fz (.inl rfl) q5⟩
   ·rw [rdB i t _ h1 (.inr rfl)]
    simp only [AF]
    exact ⟨trivial,(fz (.inr rfl) q5).mono fun b _ q=>.inl q⟩
 ·intro i s hf
  obtain ⟨i',t,s',h1,h2,h3⟩:=Cu.1 hf
  rcases h3 with h3 | h3
  ·simp at h3
  ·injection h3 with e1 e2
   subst e1 e2
   obtain ⟨n,s2,q1,q2,q3,q4,q5⟩:=get i t _ h1 h2
   by_cases hs:s.Dt=true
   ·rw [ownB i t s h1 hs,q2]; exact H.nodup n s2 q4
   ·rw [rdB i t _ h1 (Sh.Ju hs)]; exact List.nodup_nil
 ·intro i s hf b hb
  obtain ⟨n,s2,q4,hb2⟩:=hO b ⟨i,s,hf,hb⟩
  exact H.mine n s2 q4 b hb2
 ·intro i s j r hf hg hne b hb hb2
  obtain ⟨i',t,s',h1,h2,h3⟩:=Cu.1 hf
  obtain ⟨j',t2,r',k1,k2,k3⟩:=Cu.1 hg
  rcases h3 with h3 | h3
  ·simp at h3
  rcases k3 with k3 | k3
  ·simp at k3
  injection h3 with e1 e2
  subst e1 e2
  injection k3 with e1 e2
  subst e1 e2
  obtain ⟨n,s2,q1,q2,q3,q4,q5⟩:=get i t _ h1 h2
  obtain ⟨m,r2,p1,p2,p3,p4,p5⟩:=get j t2 _ k1 k2
  by_cases hs:s.Dt=true
  ·by_cases hr:r.Dt=true
   ·rw [ownB i t s h1 hs,q2] at hb
    rw [ownB j t2 r k1 hr,p2] at hb2
    have:n≠m:=by
     rintro rfl
     exact hne (Wa hn hs hr q1 h1 p1 k1)
    exact H.apart n s2 m r2 q4 p4 this b hb hb2
   ·rw [rdB j t2 _ k1 (Sh.Ju hr)] at hb2; simp at hb2
  ·rw [rdB i t _ h1 (Sh.Ju hs)] at hb; simp at hb
 ·intro t l hf
  obtain ⟨i,t',s',h1,h2,h3⟩:=Cu.1 hf
  rcases h3 with h3 | h3
  ·injection h3 with e1 e2
   subst e1 e2
   obtain ⟨n,s2,q1,q2,q3,q4,q5⟩:=get i t _ h1 h2
   have:=H.loc t _ q3
   refine ⟨fun _=>?_,fun q=>(q (by simp [Ae])).elim⟩
   show a.tmps[t]?=some (vs (ix i))
   rw [q2]; exact this.1 (by simp [Ae])
  ·simp at h3
def Jc (cf:CF) (sg:Nat→Option Sg) (vt:VT) (l:List (Nat×Array Oper×List Nat)) (L mask:Nat):Option S:=
 (J2 cf sg l (Bm vt L) vt.length).bind fun r=>(Gq r.2.1 mask 0 vt).bind fun out=>
  if Jj vt.length (r.1.map (·.it))=true∧(DJ out vt).Nodup∧((DJ out vt).all fun n=>!(FZ out vt).contains n)=true then
   some (.reg (r.1.map (·.it)) out)
  else none
section
variable {cf:CF} {sg:Nat→Option Sg} {c:Cx} {K:Nat→List D→List D→Prop}
theorem AOU (hs:Sound cf sg K) (hc:cf.Fits c) {vt:VT} {l:List (Nat×Array Oper×List Nat)} {L mask:Nat} {s:S} (ht:Jc cf sg vt l L mask=some s)
  {Q:X→Env→Prop} {e:Env} (hQ:wpS K s Q e) (hl:e.length=vt.length) {a:Act} {w:World} (H:BR c (·∈Bm vt L) e.E a w) {d:Code} {Qc:Exit→Act→World→Prop}
  (hk:∀ e' a' w',e'.length=vt.length→Q .n e'→BR c (·∈Bm vt mask) e'.E a' w'→d.wp c.P Qc a' w'):(M1 l d).wp c.P Qc a w:=by
 unfold Jc at ht
 simp only [AQ] at ht
 obtain ⟨⟨qs,st',cnt'⟩,k1,out,k3,ht⟩:=ht
 simp only at k3 ht
 split at ht
 ·rename_i hcond
  obtain ⟨hments,hnd,hdis⟩:=hcond
  simp only [AJ] at ht
  subst ht
  simp only [wpS] at hQ
  obtain ⟨t,q1,q2,q3⟩:=Lq _ e (by rw [hl]; exact hments) hQ
  rw [hl] at q3
  have H1:BR c (·∈Bm vt L) (Env.E (e++t)) a w:=H.congr fun i tt s hi _=>by
   have:i<e.length:=by
    rw [hl]
    rcases CC i vt.length with q | q
    ·exact q
    ·rw [Dd q] at hi; simp at hi
   exact Gk this
  refine XM hs hc l _ _ _ _ _ k1 q3 a w H1 fun a2 w2 H3=>?_
  refine hk _ a2 w2 ?_ q1 (QM H3 k3 hnd ?_)
  ·rw [← (J8 k3).1]; simp [DE]
  ·intro n hn
   simp only [BD,Bool.not_eq_true',List.contains_eq_mem,decide_eq_false_iff_not] at hdis
   exact hdis n hn
 ·simp at ht
theorem AM7 (hs:Sound cf sg K) (hc:cf.Fits c) {vt:VT} {id:Nat} {ops:Array Oper} {hh:List Nat} {L mask:Nat} {s:S} (ht:Jc cf sg vt [(id,ops,hh)] L mask=some s)
  {Q:X→Env→Prop} {e:Env} (hQ:wpS K s Q e) (hl:e.length=vt.length) {a:Act} {w:World} (H:BR c (·∈Bm vt L) e.E a w) {Qc:Exit→Act→World→Prop}
  (hk:∀ e' a' w',e'.length=vt.length→Q .n e'→BR c (·∈Bm vt mask) e'.E a' w'→Qc .normal a' w'):(Code.region id ops false).wp c.P Qc a w:=by
 unfold Jc at ht
 simp only [AQ] at ht
 obtain ⟨⟨qs,st',cnt'⟩,k1,out,k3,ht⟩:=ht
 simp only at k3 ht
 split at ht
 ·rename_i hcond
  obtain ⟨hments,hnd,hdis⟩:=hcond
  simp only [AJ] at ht
  subst ht
  simp only [wpS] at hQ
  obtain ⟨t,q1,q2,q3⟩:=Lq _ e (by rw [hl]; exact hments) hQ
  rw [hl] at q3
  have H1:BR c (·∈Bm vt L) (Env.E (e++t)) a w:=H.congr fun i tt s hi _=>by
   have:i<e.length:=by
    rw [hl]
    rcases CC i vt.length with q | q
    ·exact q
    ·rw [Dd q] at hi; simp at hi
   exact Gk this
  simp only [J2,AQ,A7,AI] at k1
  obtain ⟨⟨r1,st1,c1⟩,h1,⟨r2,st2,c2⟩,⟨rfl,rfl,rfl⟩,rfl,h3⟩:=k1
  simp only [List.append_nil] at q3
  refine wp_region ?_
  rw [List.range_eq_range']
  have:=T3 hs hc (Q:=Qc) ops.toList 0 _ _ _ _ _ _ h1 (fun j o hj=>by simpa using hj) q3 a w H1 fun a2 w2 H3=>by
   simp only [AI] at h3
   obtain ⟨rfl,rfl⟩:=h3
   refine hk _ a2 w2 ?_ q1 (QM H3 k3 hnd ?_)
   ·rw [← (J8 k3).1]; simp [DE]
   ·intro n hn
    simp only [BD,Bool.not_eq_true',List.contains_eq_mem,decide_eq_false_iff_not] at hdis
    exact hdis n hn
  simpa using this
 ·simp at ht
end
def RD (cf:CF) (sg:Nat→Option Sg) (vt:VT) (o1 o2:Array Oper) (L:Nat) (h1 h2:Nat×List Nat):Option S:=
 (EE cf sg o1 o1.toList (Bm vt L) vt.length h1.2.tail).bind fun r=>(EE cf sg o2 o2.toList r.2.1 r.2.2 h2.2).bind fun q=>
  (Gq q.2.1 h2.1 0 vt).bind fun out=>
   if Jj vt.length (r.1.map (·.it)++q.1.map (·.it))=true∧(DJ out vt).Nodup∧((DJ out vt).all fun n=>!(FZ out vt).contains n)=true then
    some (.reg (r.1.map (·.it)++q.1.map (·.it)) out)
   else none
section
variable {cf:CF} {sg:Nat→Option Sg} {c:Cx} {K:Nat→List D→List D→Prop}
theorem AP6 (hs:Sound cf sg K) (hc:cf.Fits c) {vt:VT} {o1 o2:Array Oper} {L:Nat} {h1 h2:Nat×List Nat} {s:S} (ht:RD cf sg vt o1 o2 L h1 h2=some s)
  {Q:X→Env→Prop} {e:Env} (hQ:wpS K s Q e) (hl:e.length=vt.length) {a:Act} {w:World} (H:BR c (·∈Bm vt L) e.E a w) {i1 i2:Nat} {b:Code} {Qc:Exit→Act→World→Prop}
  (hk:∀ e' a' w',e'.length=vt.length→Q .n e'→BR c (·∈Bm vt h2.1) e'.E a' w'→b.wp c.P Qc a' w'):(Code.seq (.region i1 o1 false) (.seq (.region i2 o2 false) b)).wp c.P Qc a w:=by
 unfold RD at ht
 simp only [AQ] at ht
 obtain ⟨⟨qs,st',cnt'⟩,k1,⟨qs2,st2,cnt2⟩,k2,out,k3,ht⟩:=ht
 simp only at k2 k3 ht
 split at ht
 ·rename_i hcond
  obtain ⟨hments,hnd,hdis⟩:=hcond
  simp only [AJ] at ht
  subst ht
  simp only [wpS] at hQ
  obtain ⟨t,q1,q2,q3⟩:=Lq _ e (by rw [hl]; exact hments) hQ
  rw [hl] at q3
  obtain ⟨q4,q5⟩:=q3.split
  have hcnt:=ACG k1
  rw [← hcnt] at q5
  have H1:BR c (·∈Bm vt L) (Env.E (e++t)) a w:=H.congr fun i tt s hi _=>by
   have:i<e.length:=by
    rw [hl]
    rcases CC i vt.length with q | q
    ·exact q
    ·rw [Dd q] at hi; simp at hi
   exact Gk this
  refine wp_seq (wp_region ?_)
  rw [List.range_eq_range']
  have:=Og hs hc (Q:=Exit.then ((Code.seq (.region i2 o2 false) b).wp c.P Qc) Qc) o1.toList 0 _ _ _ _ _ _ k1 (fun j o hj=>by simpa using hj) q4 a w H1 fun a1 w1 H2=>by
   refine wp_seq (wp_region ?_)
   rw [List.range_eq_range']
   have:=Og hs hc (Q:=Exit.then (b.wp c.P Qc) Qc) o2.toList 0 _ _ _ _ _ _ k2 (fun j o hj=>by simpa using hj) q5 a1 w1 H2 fun a2 w2 H3=>by
    refine hk _ a2 w2 ?_ q1 (QM H3 k3 hnd ?_)
    ·rw [← (J8 k3).1]; simp [DE]
    ·intro n hn
     simp only [BD,Bool.not_eq_true',List.contains_eq_mem,decide_eq_false_iff_not] at hdis
     exact hdis n hn
   simpa using this
  simpa using this
 ·simp at ht
theorem ASL (hs:Sound cf sg K) (hc:cf.Fits c) (hm:cf.P.follows .mixedOrders=true) {vt:VT} {ops:Array Oper} {draw:Bool} {L:Nat} {h:Nat×List Nat} {s:S} (ht:Q9 cf sg vt ops draw L h=some s)
  {Q:X→Env→Prop} {e:Env} (hQ:wpS K s Q e) (hl:e.length=vt.length) {a:Act} {w:World} (H:BR c (·∈Bm vt L) e.E a w) {id:Nat} {Qc:Exit→Act→World→Prop}
  (hk:∀ e' a' w',e'.length=vt.length→Q .n e'→BR c (·∈Bm vt h.1) e'.E a' w'→Qc .normal a' w'):(Code.region id ops draw).wp c.P Qc a w:=by
 unfold Q9 at ht
 simp only [AQ] at ht
 obtain ⟨⟨qp,st0,cnt0,hh0⟩,h0,⟨qs,st',cnt'⟩,h1,out,h2,ht⟩:=ht
 simp only at h1 h2 ht
 split at ht
 ·rename_i hcond
  obtain ⟨hments,hdraw,hnd,hdis⟩:=hcond
  simp only [AJ] at ht
  subst ht
  simp only [wpS] at hQ
  obtain ⟨t,q1,q2,q3⟩:=Lq _ e (by rw [hl]; exact hments) hQ
  rw [hl] at q3
  obtain ⟨p1,p2⟩:=AO9 (c:=c) (K:=K) (E:=Env.E (e++t)) h0
  rw [List.map_append] at q3
  obtain ⟨q4,q3⟩:=q3.split
  rw [← p1] at q3
  have H1:BR c (·∈st0) (Env.E (e++t)) a w:=p2 q4 <| H.congr fun i tt s hi _=>by
   have:i<e.length:=by
    rw [hl]
    rcases CC i vt.length with q | q
    ·exact q
    ·rw [Dd q] at hi; simp at hi
   exact Gk this
  have fin:∀ a' w',BR c (·∈st') (Env.E (e++t)) a' w'→Qc .normal a' w':=by
   intro a' w' H'
   refine hk _ a' w' ?_ q1 (QM H' h2 hnd ?_)
   ·rw [← (J8 h2).1]; simp [DE]
   ·intro n hn
    simp only [BD,Bool.not_eq_true',List.contains_eq_mem,decide_eq_false_iff_not] at hdis
    exact hdis n hn
  cases draw with
  | false=>
   refine wp_region ?_
   have:=Og hs hc (Q:=Qc) ops.toList 0 _ _ _ _ _ _ h1 (fun j o hj=>by simpa using hj) q3 a w H1 fin
   rw [List.range_eq_range']
   simpa using this
  | true=>
   simp only [Bool.not_true,Bool.false_or] at hdraw
   refine wp_region_any (by rw [hc.P]; exact hm) ?_
   obtain ⟨⟨vs,Bs,H2⟩,hfix⟩:=H1
   have H3:BR c (·∈st0) (Env.E (e++t)) a { w with drawn:=w.drawn+1 }:=
    ⟨⟨vs,Bs,H2.own,H2.nodup,H2.mine,H2.apart,H2.loc,H2.agr,H2.os,H2.tape,H2.output,H2.defers,H2.size⟩,hfix⟩
   refine AKA hs hc h1 hdraw q3 fin ops.size _ a _ (by simp) ?_ ?_ (H3.mono fun f hf=>?_)
   ·exact Nat.le_trans (List.length_filter_le _ _) (by simp)
   ·intro k o hk
    rw [Bp,Array.getElem?_replicate] at hk
    split at hk <;> simp at hk
   ·rcases hf with ⟨f1,_⟩ | ⟨j,r,f1,_⟩
    ·exact f1
    ·have f1':(Array.replicate ops.size false).getD j false=true:=f1
     rw [Bp,Array.getElem?_replicate] at f1'
     split at f1' <;> simp at f1'
 ·simp at ht
end
end Go.Cat
namespace Go.Cat
def AJ5:Nat×List Nat→Bool
 | (_,k::_)=>k == 77776
 | _=>false
def APH:HL→Bool
 | (_,k::_)::_=>k == 77777 || k == 77778
 | _=>false
abbrev Tr:=Option (S×HL×Option Nat×List (Nat×Nat))
def KE (o:Option Nat) (L:Nat):Option Nat:=match o with | none=>some L | some a=>some (a &&& L)
def El (a b:Option Nat):Option Nat:=match a,b with | none,b=>b | a,none=>a | some x,some y=>some (x &&& y)
def idxOf (vt:VT) (t:Nat):Option Nat:=vt.findIdx? (fun x=>x.1 == t)
def Np (body:HL→Nat→Tr) (hs:HL):Nat→Nat→Option (Nat×S×HL×List (Nat×Nat))
 | 0,_=>none
 | n+1,L=>(body hs L).bind fun r=>match r.2.2.1 with
  | none=>some (L,r.1,r.2.1,r.2.2.2)
  | some L1=>if HO L L1 then some (L,r.1,r.2.1,r.2.2.2) else Np body hs n (L &&& L1)
def Mm (t:Nat):Code→Bool
 | .region _ ops _=>ops.toList.any fun o=>o.dst == some t
 | .seq a b=>Mm t a || Mm t b
 | .cond _ a b=>Mm t a || Mm t b
 | _=>false
def PZ (t:Nat):Code→Code→Bool
 | .skip,y=>Mm t y
 | _,_=>false
theorem Z0 {t:Nat} {x y:Code} (h:PZ t x y=true):x=.skip:=by
 cases x <;> first | rfl | simp [PZ] at h
def Lp (m L i:Nat) (b:Bool):S:=.reg [⟨[],[],.cs .v (.b b)⟩] ((List.range m).map fun j=>if j=i then some m else if L.testBit j=true then some j else none)
section
variable (cf:CF) (sg:Nat→Option Sg) (vt:VT) (res:List Nat)
def By:Code→HL→Nat→Tr
 | .skip,hs,L=>some (.skip,hs,some L,[])
 | .region id ops draw,h::hs,L=>if AJ5 h=true then (if draw=true then none else (Jc cf sg vt [(id,ops,h.2.tail)] L h.1).map fun s=>(s,hs,some h.1,[]))
  else (Q9 cf sg vt ops draw L h).map fun s=>(s,hs,some h.1,[])
 | .seq a b,hs,L=>if APH hs=true then match a,b,hs with
  | .region i1 o1 false,.seq (.region i2 o2 false) (.seq (.region i3 o3 false) (.seq (.region i4 o4 false) (.seq (.region i5 o5 false) (.seq (.region i6 o6 false) d)))),h1::h2::h3::h4::h5::h6::hs'=>
   (Jc cf sg vt [(i1,o1,h1.2.tail),(i2,o2,h2.2),(i3,o3,h3.2),(i4,o4,h4.2),(i5,o5,h5.2),(i6,o6,h6.2)] L h6.1).bind fun s=>(By d hs' h6.1).map fun q=>(.seq s q.1,q.2.1,q.2.2.1,q.2.2.2)
  | .region _ o1 false,.seq (.region _ o2 false) d,h1::h2::hs'=>(RD cf sg vt o1 o2 L h1 h2).bind fun s=>(By d hs' h2.1).map fun q=>(.seq s q.1,q.2.1,q.2.2.1,q.2.2.2)
  | _,_,_=>none
  else (By a hs L).bind fun r=>match r.2.2.1 with
  | none=>some (.seq r.1 .skip,r.2.1,none,r.2.2.2)
  | some L1=>(By b r.2.1 L1).map fun q=>(.seq r.1 q.1,q.2.1,q.2.2.1,r.2.2.2++q.2.2.2)
 | .cond (.tmp t) x y,hs,L=>(idxOf vt t).bind fun i=>
  if L.testBit i then if PZ t x y=true then (By y hs (L ^^^ 2 ^ i)).map fun q=>(.cond i (Lp vt.length L i true) q.1,q.2.1,El (some L) q.2.2.1,q.2.2.2)
  else if PZ t y x=true then (By x hs (L ^^^ 2 ^ i)).map fun r=>(.cond i r.1 (Lp vt.length L i false),r.2.1,El r.2.2.1 (some L),r.2.2.2)
  else (By x hs (L ^^^ 2 ^ i)).bind fun r=>(By y r.2.1 (L ^^^ 2 ^ i)).map fun q=>(.cond i r.1 q.1,q.2.1,El r.2.2.1 q.2.2.1,r.2.2.2++q.2.2.2)
  else none
 | .cond (.const (.bool b)) x y,hs,L=>(By x hs L).bind fun r=>(By y r.2.1 L).map fun q=>if b=true then (r.1,q.2.1,r.2.2.1,r.2.2.2) else (q.1,q.2.1,q.2.2.1,q.2.2.2)
 | .block id b,hs,L=>(By b hs L).map fun r=>
  (.block id r.1,r.2.1,(r.2.2.2.filter (fun x=>x.1 == id)).foldl (fun o x=>KE o x.2) r.2.2.1,r.2.2.2.filter (fun x=>x.1 != id))
 | .loop b,hs,L=>(Np (By b) hs 5 L).map fun r=>(.loop r.2.1,r.2.2.1,none,r.2.2.2)
 | .exit id,hs,L=>some (.exit id,hs,none,[(id,L)])
 | .ret,hs,L=>if res.all (fun i=>L.testBit i) then some (.ret,hs,none,[]) else none
 | _,_,_=>none
end
def rOK (res:List Nat) (L:Nat):Prop:=∀ i∈res,L.testBit i=true
theorem exists_least {J:Nat→Prop} (h:∃ n,J n):∃ n,J n∧∀ m,m<n→¬ J m:=by
 obtain ⟨n,hn⟩:=h
 induction n using Nat.strongRecOn with
 | _ n ih=>
  by_cases hm:∃ m,m<n∧J m
  ·obtain ⟨m,h1,h2⟩:=hm
   exact ih m h1 h2
  ·exact ⟨n,hn,fun m h1 h2=>hm ⟨m,h1,h2⟩⟩
theorem AFU {body:HL→Nat→Tr} {hs:HL}:∀ {n L:Nat} {r:Nat×S×HL×List (Nat×Nat)},Np body hs n L=some r→HO r.1 L=true∧∃ nb,body hs r.1=some (r.2.1,r.2.2.1,nb,r.2.2.2)∧∀ L1,nb=some L1→HO r.1 L1=true
 | 0,_,_=>fun h=>by simp [Np] at h
 | n+1,L,r=>fun h=>by
  simp only [Np,AQ] at h
  obtain ⟨⟨s,h2,nb,ex⟩,h1,h⟩:=h
  simp only at h
  split at h
  ·simp only [AJ] at h
   subst h
   exact ⟨by simp [HO],none,h1,fun L1 he=>by simp at he⟩
  ·rename_i L1
   split at h
   ·rename_i hsub
    simp only [AJ] at h
    subst h
    refine ⟨by simp [HO],some L1,h1,fun L2 he=>?_⟩
    injection he with he; subst he; exact hsub
   ·obtain ⟨k1,k2⟩:=AFU h
    refine ⟨?_,k2⟩
    have hb:∀ i,r.1.testBit i=true→L.testBit i=true:=fun i hi=>by
     have:=TE k1 i hi
     rw [Nat.testBit_and,Ac] at this
     exact this.1
    simp only [HO,beq_iff_eq]
    apply Nat.eq_of_testBit_eq
    intro i
    rw [Nat.testBit_and]
    cases hi:r.1.testBit i with
    | false=>rfl
    | true=>rw [hb i hi]; rfl
theorem OY {id:Nat}:∀ {exs:List (Nat×Nat)} {o:Option Nat} {L:Nat},((id,L)∈exs∨o=some L)→∃ L',exs.foldl (fun o x=>KE o x.2) o=some L'∧∀ i,L'.testBit i=true→L.testBit i=true
 | [],o,L=>fun h=>by
  simp only [Cg,false_or] at h
  exact ⟨L,by simp [h],fun _ h=>h⟩
 | (k,M)::exs,o,L=>fun h=>by
  simp only [List.foldl_cons]
  have step:∀ N,(KE o M=some N)→(∀ i,N.testBit i=true→L.testBit i=true)→∃ L',exs.foldl (fun o x=>KE o x.2) (KE o M)=some L'∧∀ i,L'.testBit i=true→L.testBit i=true:=by
   intro N hN hb
   obtain ⟨L',e1,e2⟩:=OY (id:=id) (exs:=exs) (o:=KE o M) (L:=N) (.inr hN)
   exact ⟨L',e1,fun i hi=>hb i (e2 i hi)⟩
  rcases h with h | h
  ·rcases A5.1 h with h | h
   ·injection h with h1 h2
    subst h2
    cases o with
    | none=>exact step L rfl fun _ h=>h
    | some A=>
     refine step (A &&& L) rfl fun i hi=>?_
     rw [Nat.testBit_and,Ac] at hi; exact hi.2
   ·exact OY (id:=id) (.inl h)
  ·subst h
   refine step (L &&& M) rfl fun i hi=>?_
   rw [Nat.testBit_and,Ac] at hi; exact hi.1
def xe:X→Exit
 | .n=>.normal
 | .ex id=>.exit id
 | .r=>.ret
section
variable {cf:CF} {sg:Nat→Option Sg} {c:Cx} {K:Nat→List D→List D→Prop} {vt:VT} {res:List Nat}
theorem Rl {t i:Nat} (h:idxOf vt t=some i):∃ s,vt[i]?=some (t,s):=by
 unfold idxOf at h
 obtain ⟨h1,h2,_⟩:=List.findIdx?_eq_some_iff_getElem.1 h
 refine ⟨vt[i].2,?_⟩
 rw [GC h1]
 have:vt[i].1=t:=by simpa using h2
 rw [← this]
theorem AQT {e:Env} {i j:Nat} (h:j≠i):Env.E (e.set i .u) j=e.E j:=by
 simp [Env.E,BP,List.getElem?_set_ne (Ne.symm h)]
theorem AHO {L i m:Nat} {b:Bool} {Q:X→Env→Prop} {e:Env} (h:wpS K (Lp m L i b) Q (e.set i .u)) (hl:e.length=m) (hi:i<m) (hb:Env.E e i=.b b):
  ∃ e':Env,e'.length=m∧Q .n e'∧∀ j,j<m→L.testBit j=true→Env.E e' j=Env.E e j:=by
 simp only [Lp,wpS,DZ,GG,CO,AY,AS] at h
 refine ⟨_,?_,h,fun j hj hL=>?_⟩
 ·simp [DE]
 ·have e1:∀ o:Option Nat,((List.range m).map fun j=>if j=i then some m else if L.testBit j=true then some j else none)[j]?=some o→Env.E (DE ((List.range m).map fun j=>if j=i then some m else if L.testBit j=true then some j else none) (e.set i .u++[.b b])) j=match o with | some n=>Env.E (e.set i .u++[.b b]) n | none=>.u:=by
   intro o ho
   show (DE _ _).getD j .u=_
   rw [BP,DE,List.getElem?_map,ho]
   cases o <;> rfl
  have e2:((List.range m).map fun j=>if j=i then some m else if L.testBit j=true then some j else none)[j]?=some (if j=i then some m else some j):=by
   rw [List.getElem?_map,List.getElem?_range hj,Option.map_some,if_pos hL]
  rw [e1 _ e2]
  by_cases q:j=i
  ·subst q
   rw [if_pos rfl,hb]
   simp [Env.E,BP,← hl]
  ·rw [if_neg q]
   show Env.E (e.set i .u++[.b b]) j=Env.E e j
   simp only [Env.E,BP]
   rw [D4 (by simpa [hl] using hj),List.getElem?_set_ne (Ne.symm q)]
theorem Eb (hs:Sound cf sg K) (hc:cf.Fits c) (hm:cf.P.follows .mixedOrders=true):∀ (code:Code) (hh:HL) (L:Nat) (s:S) (hh':HL) (nrm:Option Nat) (exs:List (Nat×Nat)),
  By cf sg vt res code hh L=some (s,hh',nrm,exs)→∀ (Q:X→Env→Prop) (e:Env) (a:Act) (w:World) (Qc:Exit→Act→World→Prop),wpS K s Q e→e.length=vt.length→BR c (·∈Bm vt L) e.E a w→
  (∀ x e' a' w',e'.length=vt.length→Q x e'→(∃ L',(match x with | .n=>nrm=some L' | .ex id=>(id,L')∈exs | .r=>rOK res L')∧BR c (·∈Bm vt L') e'.E a' w')→Qc (xe x) a' w')→
  code.wp c.P Qc a w
 | .skip,hh,L,s,hh',nrm,exs=>fun ht Q e a w Qc hQ hl H hk=>by
  simp only [By,AJ,AI] at ht
  obtain ⟨rfl,rfl,rfl,rfl⟩:=ht
  exact wp_skip (hk .n e a w hl hQ ⟨L,rfl,H⟩)
 | .region id ops draw,[],L,s,hh',nrm,exs=>fun ht=>by simp [By] at ht
 | .region id ops draw,h::hh,L,s,hh',nrm,exs=>fun ht Q e a w Qc hQ hl H hk=>by
  unfold By at ht
  split at ht
  ·split at ht
   ·cases ht
   ·rename_i hd
    simp only [A7,AI] at ht
    obtain ⟨s',h1,rfl,rfl,rfl,rfl⟩:=ht
    have:draw=false:=by simpa using hd
    subst this
    exact AM7 hs hc h1 hQ hl H fun e' a' w' hl' hq H'=>hk .n e' a' w' hl' hq ⟨h.1,rfl,H'⟩
  simp only [A7,AI] at ht
  obtain ⟨s',h1,rfl,rfl,rfl,rfl⟩:=ht
  exact ASL hs hc hm h1 hQ hl H fun e' a' w' hl' hq H'=>hk .n e' a' w' hl' hq ⟨h.1,rfl,H'⟩
 | .seq x y,hh,L,s,hh',nrm,exs=>fun ht Q e a w Qc hQ hl H hk=>by
  unfold By at ht
  split at ht
  ·split at ht
   ·rename_i i1 o1 i2 o2 i3 o3 i4 o4 i5 o5 i6 o6 d h1 h2 h3 h4 h5 h6 hs' _
    simp only [AQ,A7,AI] at ht
    obtain ⟨s1,hr,⟨s2,hx3,n3,e3⟩,hd,rfl,rfl,rfl,rfl⟩:=ht
    simp only [wpS] at hQ
    refine AOU hs hc (d:=d) hr hQ hl H fun e' a' w' hl' hq H'=>?_
    exact Eb hs hc hm d hs' h6.1 _ _ _ _ hd Q e' a' w' Qc hq hl' H' hk
   ·rename_i i1 o1 i2 o2 d h1 h2 hs' _ _
    simp only [AQ,A7,AI] at ht
    obtain ⟨s1,hr,⟨s2,h3,n3,e3⟩,hd,rfl,rfl,rfl,rfl⟩:=ht
    simp only [wpS] at hQ
    refine AP6 hs hc hr hQ hl H fun e' a' w' hl' hq H'=>?_
    exact Eb hs hc hm d hs' h2.1 _ _ _ _ hd Q e' a' w' Qc hq hl' H' hk
   ·cases ht
  simp only [AQ] at ht
  obtain ⟨⟨s1,h1,n1,e1⟩,hx,ht⟩:=ht
  simp only at ht
  split at ht
  ·simp only [AJ,AI] at ht
   obtain ⟨rfl,rfl,rfl,rfl⟩:=ht
   simp only [wpS] at hQ
   refine wp_seq (Eb hs hc hm x hh L _ _ _ _ hx _ e a w _ hQ hl H ?_)
   rintro z e' a' w' hl' hq ⟨L',hz,H'⟩
   cases z with
   | n=>simp at hz
   | ex id=>exact hk (.ex id) e' a' w' hl' hq ⟨L',hz,H'⟩
   | r=>exact hk .r e' a' w' hl' hq ⟨L',hz,H'⟩
  ·rename_i L1
   simp only [A7,AI] at ht
   obtain ⟨⟨s2,h2,n2,e2⟩,hy,rfl,rfl,rfl,rfl⟩:=ht
   simp only [wpS] at hQ
   refine wp_seq (Eb hs hc hm x hh L _ _ _ _ hx _ e a w _ hQ hl H ?_)
   rintro z e' a' w' hl' hq ⟨L',hz,H'⟩
   cases z with
   | n=>
    injection hz with hz
    subst hz
    refine Eb hs hc hm y _ _ _ _ _ _ hy Q e' a' w' Qc hq hl' H' ?_
    rintro z2 e3 a3 w3 hl3 hq3 ⟨L3,hz3,H3⟩
    refine hk z2 e3 a3 w3 hl3 hq3 ⟨L3,?_,H3⟩
    cases z2 with
    | n=>exact hz3
    | ex id=>exact Ak _ hz3
    | r=>exact hz3
   | ex id=>exact hk (.ex id) e' a' w' hl' hq ⟨L',Ay _ hz,H'⟩
   | r=>exact hk .r e' a' w' hl' hq ⟨L',hz,H'⟩
 | .cond (.tmp t) x y,hh,L,s,hh',nrm,exs=>fun ht Q e a w Qc hQ hl H hk=>by
  simp only [By,AQ] at ht
  obtain ⟨i,hi,ht⟩:=ht
  split at ht
  ·rename_i hL
   obtain ⟨sh,hvt⟩:=Rl hi
   have H0:=H
   obtain ⟨⟨vs,Bs,HG⟩,hfix⟩:=H
   have f1:=HG.own i sh (Cu.2 ⟨i,t,sh,hvt,hL,.inr rfl⟩)
   have f2:=(HG.loc t _ (Cu.2 ⟨i,t,sh,hvt,hL,.inl rfl⟩)).1 (by simp [Ae])
   have hsub:∀ j,(L ^^^ 2 ^ i).testBit j=true→L.testBit j=true∧j≠i:=by
    intro j hj
    rw [Nat.testBit_xor,Nat.testBit_two_pow] at hj
    by_cases hij:i=j
    ·subst hij; simp [hL] at hj
    ·simp [hij] at hj; exact ⟨hj,fun q=>hij q.symm⟩
   have H':BR c (·∈Bm vt (L ^^^ 2 ^ i)) (Env.E (e.set i .u)) a w:=
    (BR.mono ⟨⟨vs,Bs,HG⟩,hfix⟩ (F0 fun j hj=>(hsub j hj).1)).congr fun j _ _ _ hj=>AQT (hsub j hj).2
   have him:i<vt.length:=by
    rcases CC i vt.length with q | q
    ·exact q
    ·rw [Dd q] at hvt; cases hvt
   have hback:∀ {b:Bool},wpS K (Lp vt.length L i b) Q (e.set i .u)→e.E i=.b b→∃ e':Env,e'.length=vt.length∧Q .n e'∧BR c (·∈Bm vt L) e'.E a w:=by
    intro b hw hb
    obtain ⟨e',q1,q2,q3⟩:=AHO hw hl him hb
    refine ⟨e',q1,q2,H0.congr fun j t s hj hLj=>q3 j ?_ hLj⟩
    rcases CC j vt.length with q | q
    ·exact q
    ·rw [Dd q] at hj; cases hj
   split at ht
   ·rename_i hkp
    obtain rfl:=Z0 hkp
    simp only [A7,AI] at ht
    obtain ⟨⟨s2,h2,n2,e2⟩,hy,rfl,rfl,rfl,rfl⟩:=ht
    simp only [wpS] at hQ
    split at hQ
    ·rename_i hb
     rw [hb] at f1
     have hv:a.eval (.tmp t)=.bool true:=by
      rw [f1.bool] at f2; simp [Act.eval,f2]
     obtain ⟨e',q1,q2,q3⟩:=hback hQ hb
     refine wp_cond_true hv (wp_skip ?_)
     cases n2 with
     | none=>exact hk .n e' a w q1 q2 ⟨L,by simp [El],q3⟩
     | some M=>
      refine hk .n e' a w q1 q2 ⟨L &&& M,by simp [El],q3.mono (F0 fun j hj=>?_)⟩
      rw [Nat.testBit_and,Ac] at hj; exact hj.1
    ·rename_i hb
     rw [hb] at f1
     have hv:a.eval (.tmp t)=.bool false:=by
      rw [f1.bool] at f2; simp [Act.eval,f2]
     refine wp_cond_false hv (Eb hs hc hm y hh _ _ _ _ _ hy Q _ a w Qc hQ (by simpa using hl) H' ?_)
     rintro z e' a' w' hl' hq ⟨L',hz,H2⟩
     cases z with
     | n=>
      have hz':n2=some L':=hz
      refine hk .n e' a' w' hl' hq ⟨L &&& L',by simp [El,hz'],H2.mono (F0 fun j hj=>?_)⟩
      rw [Nat.testBit_and,Ac] at hj; exact hj.2
     | ex id=>exact hk (.ex id) e' a' w' hl' hq ⟨L',hz,H2⟩
     | r=>exact hk .r e' a' w' hl' hq ⟨L',hz,H2⟩
    ·exact hQ.elim
   split at ht
   ·rename_i hkp
    obtain rfl:=Z0 hkp
    simp only [A7,AI] at ht
    obtain ⟨⟨s1,h1,n1,e1⟩,hx,rfl,rfl,rfl,rfl⟩:=ht
    simp only [wpS] at hQ
    split at hQ
    ·rename_i hb
     rw [hb] at f1
     have hv:a.eval (.tmp t)=.bool true:=by
      rw [f1.bool] at f2; simp [Act.eval,f2]
     refine wp_cond_true hv (Eb hs hc hm x hh _ _ _ _ _ hx Q _ a w Qc hQ (by simpa using hl) H' ?_)
     rintro z e' a' w' hl' hq ⟨L',hz,H2⟩
     cases z with
     | n=>
      have hz':n1=some L':=hz
      refine hk .n e' a' w' hl' hq ⟨L' &&& L,by simp [El,hz'],H2.mono (F0 fun j hj=>?_)⟩
      rw [Nat.testBit_and,Ac] at hj; exact hj.1
     | ex id=>exact hk (.ex id) e' a' w' hl' hq ⟨L',hz,H2⟩
     | r=>exact hk .r e' a' w' hl' hq ⟨L',hz,H2⟩
    ·rename_i hb
     rw [hb] at f1
     have hv:a.eval (.tmp t)=.bool false:=by
      rw [f1.bool] at f2; simp [Act.eval,f2]
     obtain ⟨e',q1,q2,q3⟩:=hback hQ hb
     refine wp_cond_false hv (wp_skip ?_)
     cases n1 with
     | none=>exact hk .n e' a w q1 q2 ⟨L,by simp [El],q3⟩
     | some M=>
      refine hk .n e' a w q1 q2 ⟨M &&& L,by simp [El],q3.mono (F0 fun j hj=>?_)⟩
      rw [Nat.testBit_and,Ac] at hj; exact hj.2
    ·exact hQ.elim
   simp only [AQ,A7,AI] at ht
   obtain ⟨⟨s1,h1,n1,e1⟩,hx,⟨s2,h2,n2,e2⟩,hy,rfl,rfl,rfl,rfl⟩:=ht
   simp only [wpS] at hQ
   split at hQ
   ·rename_i hb
    rw [hb] at f1
    have hv:a.eval (.tmp t)=.bool true:=by
     rw [f1.bool] at f2; simp [Act.eval,f2]
    refine wp_cond_true hv (Eb hs hc hm x hh _ _ _ _ _ hx Q _ a w Qc hQ (by simpa using hl) H' ?_)
    rintro z e' a' w' hl' hq ⟨L',hz,H2⟩
    cases z with
    | n=>
     cases n2 with
     | none=>
      have hz':n1=some L':=hz
      exact hk .n e' a' w' hl' hq ⟨L',by simp [El,hz'],H2⟩
     | some M=>
      have hz':n1=some L':=hz
      refine hk .n e' a' w' hl' hq ⟨L' &&& M,by simp [El,hz'],H2.mono (F0 fun j hj=>?_)⟩
      rw [Nat.testBit_and,Ac] at hj; exact hj.1
    | ex id=>exact hk (.ex id) e' a' w' hl' hq ⟨L',Ay _ hz,H2⟩
    | r=>exact hk .r e' a' w' hl' hq ⟨L',hz,H2⟩
   ·rename_i hb
    rw [hb] at f1
    have hv:a.eval (.tmp t)=.bool false:=by
     rw [f1.bool] at f2; simp [Act.eval,f2]
    refine wp_cond_false hv (Eb hs hc hm y _ _ _ _ _ _ hy Q _ a w Qc hQ (by simpa using hl) H' ?_)
    rintro z e' a' w' hl' hq ⟨L',hz,H2⟩
    cases z with
    | n=>
     have hz':n2=some L':=hz
     cases n1 with
     | none=>exact hk .n e' a' w' hl' hq ⟨L',by simp [El,hz'],H2⟩
     | some M=>
      refine hk .n e' a' w' hl' hq ⟨M &&& L',by simp [El,hz'],H2.mono (F0 fun j hj=>?_)⟩
      rw [Nat.testBit_and,Ac] at hj; exact hj.2
    | ex id=>exact hk (.ex id) e' a' w' hl' hq ⟨L',Ak _ hz,H2⟩
    | r=>exact hk .r e' a' w' hl' hq ⟨L',hz,H2⟩
   ·exact hQ.elim
  ·simp at ht
 | .block id b,hh,L,s,hh',nrm,exs=>fun ht Q e a w Qc hQ hl H hk=>by
  simp only [By,A7,AI] at ht
  obtain ⟨⟨s1,h1,n1,e1⟩,hb,rfl,rfl,rfl,rfl⟩:=ht
  simp only [wpS] at hQ
  refine wp_block (Eb hs hc hm b hh L _ _ _ _ hb _ e a w _ hQ hl H ?_)
  rintro z e' a' w' hl' hq ⟨L',hz,H'⟩
  cases z with
  | n=>
   have hz':n1=some L':=hz
   obtain ⟨L2,q1,q2⟩:=OY (id:=id) (exs:=e1.filter (fun x=>x.1 == id)) (o:=n1) (L:=L') (.inr hz')
   exact hk .n e' a' w' hl' hq ⟨L2,q1,H'.mono (F0 q2)⟩
  | ex j=>
   have hz':(j,L')∈e1:=hz
   by_cases hj:j=id
   ·subst hj
    have hq':Q .n e':=by simpa using hq
    obtain ⟨L2,q1,q2⟩:=OY (id:=j) (exs:=e1.filter (fun x=>x.1 == j)) (o:=n1) (L:=L') (.inl (by simp [hz']))
    simp only [xe,Exit.inBlock,if_true]
    exact hk .n e' a' w' hl' hq' ⟨L2,q1,H'.mono (F0 q2)⟩
   ·have hq':Q (.ex j) e':=by simpa [hj] using hq
    simp only [xe,Exit.inBlock,if_neg hj]
    exact hk (.ex j) e' a' w' hl' hq' ⟨L',by simp [hz',hj],H'⟩
  | r=>exact hk .r e' a' w' hl' hq ⟨L',hz,H'⟩
 | .loop b,hh,L,s,hh',nrm,exs=>fun ht Q e a w Qc hQ hl H hk=>by
  simp only [By,A7,AI] at ht
  obtain ⟨⟨Lh,s1,h1,e1⟩,hb,rfl,rfl,rfl,rfl⟩:=ht
  obtain ⟨k1,nb,k2,k3⟩:=AFU hb
  simp only at k1 k2 k3
  simp only [wpS] at hQ
  let J:Act→World→Nat→Prop:=fun a w n=>∃ e,Cz (wpS K s1) n Q e∧e.length=vt.length∧BR c (·∈Bm vt Lh) e.E a w
  let I:Act→World→Prop:=fun a w=>∃ n,J a w n
  open Classical in
  let μ:Act→World→Nat:=fun a w=>if h:∃ n,J a w n then Classical.choose (exists_least h) else 0
  have hμ:∀ a w,I a w→J a w (μ a w)∧∀ m,m < μ a w→¬ J a w m:=by
   intro a w h
   have h':∃ n,J a w n:=h
   simp only [μ,dif_pos h']
   exact Classical.choose_spec (exists_least h')
  obtain ⟨n,hn⟩:=hQ
  refine wp_loop I μ ⟨n,e,hn,hl,H.mono (F0 (TE k1))⟩ ?_
  intro a w hI
  obtain ⟨⟨e,hw,hl2,H2⟩,hmin⟩:=hμ a w hI
  generalize hμn:μ a w=n at*
  cases n with
  | zero=>simp [Cz] at hw
  | succ n=>
   simp only [Cz] at hw
   refine Eb hs hc hm b hh Lh _ _ _ _ k2 _ e a w _ hw hl2 H2 ?_
   rintro z e' a' w' hl' hq ⟨L',hz,H'⟩
   cases z with
   | n=>
    have hJ:J a' w' n:=⟨e',hq,hl',H'.mono (F0 (TE (k3 L' hz)))⟩
    refine ⟨⟨n,hJ⟩,?_⟩
    have:=hμ a' w' ⟨n,hJ⟩
    have hle:¬ n < μ a' w':=fun q=>this.2 n q hJ
    show μ a' w' < n+1
    omega
   | ex id=>exact hk (.ex id) e' a' w' hl' hq ⟨L',hz,H'⟩
   | r=>exact hk .r e' a' w' hl' hq ⟨L',hz,H'⟩
 | .exit id,hh,L,s,hh',nrm,exs=>fun ht Q e a w Qc hQ hl H hk=>by
  simp only [By,AJ,AI] at ht
  obtain ⟨rfl,rfl,rfl,rfl⟩:=ht
  exact wp_exit (hk (.ex id) e a w hl hQ ⟨L,by simp,H⟩)
 | .ret,hh,L,s,hh',nrm,exs=>fun ht Q e a w Qc hQ hl H hk=>by
  simp only [By] at ht
  split at ht
  ·rename_i hr
   simp only [AJ,AI] at ht
   obtain ⟨rfl,rfl,rfl,rfl⟩:=ht
   exact wp_ret (hk .r e a w hl hQ ⟨L,fun i hi=>BD.1 hr i hi,H⟩)
  ·simp at ht
 | .cond (.const v) x y,hh,L,s,hh',nrm,exs=>fun ht Q e a w Qc hQ hl H hk=>by
  cases v with
  | bool b=>
   simp only [By,AQ,A7] at ht
   obtain ⟨⟨s1,h1,n1,e1⟩,hx,⟨s2,h2,n2,e2⟩,hy,heq⟩:=ht
   cases b with
   | true=>
    simp only [if_true,AI] at heq
    obtain ⟨rfl,rfl,rfl,rfl⟩:=heq
    exact wp_cond_true rfl (Eb hs hc hm x hh _ _ _ _ _ hx Q _ a w Qc hQ hl H hk)
   | false=>
    simp only [GR,if_false,AI] at heq
    obtain ⟨rfl,rfl,rfl,rfl⟩:=heq
    exact wp_cond_false rfl (Eb hs hc hm y _ _ _ _ _ _ hy Q _ a w Qc hQ hl H hk)
  | _=>simp [By] at ht
 | .cond (.global _) _ _,_,_,_,_,_,_=>fun ht=>by simp [By] at ht
 | .cond (.func _) _ _,_,_,_,_,_,_=>fun ht=>by simp [By] at ht
 | .rangeFunc ..,_,_,_,_,_,_=>fun ht=>by simp [By] at ht
 | .scope _,_,_,_,_,_,_=>fun ht=>by simp [By] at ht
 | .label _,_,_,_,_,_,_=>fun ht=>by simp [By] at ht
 | .goto _,_,_,_,_,_,_=>fun ht=>by simp [By] at ht
 | .refuse _,_,_,_,_,_,_=>fun ht=>by simp [By] at ht
end
structure IF where
 cl:List (Nat×Nat)
 np:Nat
 nv:Nat
 res:List Nat
 body:S
def GK (cl:List (Nat×Nat)) (rs:List D):Bool:=cl.all fun x=>match rs[x.1]? with
 | some d=>HX x.2 d
 | none=>false
def Body (K:Nat→List D→List D→Prop) (f:IF) (ds rs:List D):Prop:=
 (ds.length=f.np∧GK f.cl rs=true)∧wpS K f.body (fun x e=>(match x with | .ex _=>False | _=>True)∧rs=f.res.map e.E) (ds++List.replicate (f.nv-f.np) .u)
def IE (P:Program) (vt:VT):List ResultVar→Option (List (Nat×Option Nat))
 | []=>some []
 | .tmp t::r=>(idxOf vt t).bind fun i=>(IE P vt r).map ((i,none)::·)
 | .cell t ty::r=>(DH P ty).bind fun n=>(idxOf vt t).bind fun i=>(IE P vt r).map ((i,some n)::·)
def Lg:Option (Nat×Nat×List Nat)→List Nat
 | none=>[]
 | some x=>x.1::x.2.2
def AAH (vt:VT) (ps:List Sh):Bool:=ps.zipIdx.all fun x=>vt[x.2]? == some (x.2,x.1)
def ME:Option Nat→Sh→Option Sh
 | none,q=>some q
 | some _,.b s=>some (.a s)
 | some _,_=>none
def Yb (vt:VT) (rx:List (Nat×Option Nat)) (qs:List Sh):Bool:=rx.length == qs.length&&(rx.zip qs).all fun x=>((vt[x.1.1]?).bind fun y=>ME x.1.2 y.2) == some x.2
def RS (rx:List (Nat×Option Nat)):List (Nat×Nat):=rx.zipIdx.filterMap fun x=>x.1.2.map fun n=>(x.2,n)
def Vb (res:List Nat):Option Nat→Bool
 | some L=>res.all (fun i=>L.testBit i)
 | none=>true
def PI (cf:CF) (sg:Nat→Option Sg) (vt:VT) (hl:HL) (fn:Func) (s:Sg):Option IF:=
 match fn.body with
 | none=>none
 | some code=>(IE cf.P vt fn.results.toList).bind fun rx=>(By cf sg vt (rx.map (·.1)++s.io) code hl (2 ^ s.ps.length-1)).bind fun r=>
  if s.ps.length≤vt.length∧s.ps.length≤fn.ntmps∧AAH vt s.ps=true∧Yb vt (rx++s.io.map fun i=>(i,none)) s.outs=true∧(rx.map (·.1)++s.io).Nodup∧r.2.2.2=[]∧Vb (rx.map (·.1)++s.io) r.2.2.1=true∧cf.nt=fn.ntmps∧
    ((s.io++Lg s.fb).all fun i=>cf.fx.contains i&&decide (i<s.ps.length))=true∧rx.length=s.qs.length∧cf.cl=s.fb then
   some ⟨RS rx,s.ps.length,vt.length,rx.map (·.1)++s.io,r.1⟩
  else none
theorem SP {P:Program} {vt:VT}:∀ {l:List ResultVar} {res:List (Nat×Option Nat)},IE P vt l=some res→l.length=res.length∧
  ∀ (j:Nat) (x:Nat×Option Nat),res[j]?=some x→∃ t s,vt[x.1]?=some (t,s)∧((x.2=none∧l[j]?=some (ResultVar.tmp t))∨∃ n ty,x.2=some n∧DH P ty=some n∧l[j]?=some (ResultVar.cell t ty))
 | [],res,h=>by simp only [IE,AJ] at h; subst h; simp
 | .tmp t::l,res,h=>by
  simp only [IE,AQ,A7] at h
  obtain ⟨i,hi,r,hr,rfl⟩:=h
  obtain ⟨e1,e2⟩:=SP hr
  refine ⟨by simp [e1],fun j k hj=>?_⟩
  cases j with
  | zero=>
   simp at hj; subst hj
   obtain ⟨s,hs⟩:=Rl hi
   exact ⟨t,s,hs,.inl ⟨rfl,by simp⟩⟩
  | succ j=>simpa using e2 j k (by simpa using hj)
 | .cell t ty::l,res,h=>by
  simp only [IE,AQ,A7] at h
  obtain ⟨n,hn,i,hi,r,hr,rfl⟩:=h
  obtain ⟨e1,e2⟩:=SP hr
  refine ⟨by simp [e1],fun j k hj=>?_⟩
  cases j with
  | zero=>
   simp at hj; subst hj
   obtain ⟨s,hs⟩:=Rl hi
   exact ⟨t,s,hs,.inr ⟨n,ty,rfl,hn,by simp⟩⟩
  | succ j=>simpa using e2 j k (by simpa using hj)
theorem ALI {rx:List (Nat×Option Nat)} {rs:List D} (h:GK (RS rx) rs=true) {j i n:Nat} (hj:rx[j]?=some (i,some n)):∃ xs,rs[j]?=some (.g xs)∧xs.length=n:=by
 simp only [GK,BD] at h
 have:=h (j,n) (by
  unfold RS
  refine List.mem_filterMap.2 ⟨((i,some n),j),?_,rfl⟩
  rw [List.mem_iff_getElem?]
  exact ⟨j,by simp [List.getElem?_zipIdx,hj]⟩)
 simp only at this
 split at this
 ·rename_i d hd
  unfold HX at this
  split at this
  ·rename_i xs; exact ⟨xs,hd,by simpa using this⟩
  ·cases this
 ·cases this
theorem AD8 {n i:Nat}:(2 ^ n-1).testBit i=decide (i<n):=Nat.testBit_two_pow_sub_one n i
theorem BA.of {α:Type} {R:Sh→D→Value→List Nat→Prop} {E:α→D} {vs:α→Value} {Bs:α→List Nat}:∀ (res:List α) (qs:List Sh),res.length=qs.length→
  (∀ (j:Nat) (i:α) (q:Sh),res[j]?=some i→qs[j]?=some q→R q (E i) (vs i) (Bs i))→BA R qs (res.map E) (res.map vs) (res.flatMap Bs)
 | [],[],_,_=>by simp [BA]
 | i::res,q::qs,hl,h=>by
  simp only [List.map_cons,List.flatMap_cons,BA]
  exact ⟨Bs i,res.flatMap Bs,rfl,h 0 i q (by simp) (by simp),BA.of res qs (by simpa using hl) fun j k r h1 h2=>h (j+1) k r (by simpa using h1) (by simpa using h2)⟩
 | [],_::_,hl,_=>by simp at hl
 | _::_,[],hl,_=>by simp at hl
theorem Zb {P:Program} {w:World} {tm:Array Value}:∀ (l:List ResultVar) (vals:List Value),l.length=vals.length→
  (∀ (j:Nat) (v:Value),vals[j]?=some v→(∃ t,l[j]?=some (ResultVar.tmp t)∧tm.getD t undef=v)∨∃ t ty,l[j]?=some (ResultVar.cell t ty)∧(do loadVar ty (← asAddr (tm.getD t undef)):Sem Value).run P w=.ok v w)→
  (l.mapM (fun (x:ResultVar)=>match x with | .tmp t=>(Pure.pure (tm.getD t undef):Sem Value) | .cell a t=>do loadVar t (← asAddr (tm.getD a undef)))).run P w=.ok vals w
 | [],[],_,_=>rfl
 | r::l,v::vals,hl,h=>by
  rw [List.mapM_cons,Sem.run_bind]
  have ih:=Zb l vals (by simpa using hl) fun j v hj=>by simpa using h (j+1) v (by simpa using hj)
  rcases h 0 v (by simp) with ⟨t,h1,h2⟩ | ⟨t,ty,h1,h2⟩
  ·simp only [List.getElem?_cons_zero,AJ] at h1
   subst h1
   simp only [Sem.run_pure,Result.andThen,Sem.run_bind]
   rw [ih]
   simp [h2]
  ·simp only [List.getElem?_cons_zero,AJ] at h1
   subst h1
   simp only [h2,Result.andThen,Sem.run_bind]
   rw [ih]
   simp
 | [],_::_,hl,_=>by simp at hl
 | _::_,[],hl,_=>by simp at hl
section
variable {cf:CF} {sg:Nat→Option Sg} {K:Nat→List D→List D→Prop} {vt:VT}
theorem AN4 (l:List Value):HQ (if h:l.toArray.size=1 then l.toArray[0] else .tuple l.toArray) l:=by
 match l with
 | []=>simp [HQ]
 | [x]=>simp [HQ]
 | x::y::l=>simp [HQ]
theorem ADU {α β:Type}:∀ {l:List (α×β)},l.Pairwise (fun a b=>a.1≠b.1)→∀ x∈l,∀ y∈l,x≠y→x.1≠y.1
 | [],_,x,hx,_,_,_=>by simp at hx
 | a::l,h,x,hx,y,hy,hne=>by
  obtain ⟨h1,h2⟩:=List.pairwise_cons.1 h
  rcases A5.1 hx with rfl | hx2
  ·rcases A5.1 hy with rfl | hy2
   ·exact (hne rfl).elim
   ·exact h1 y hy2
  ·rcases A5.1 hy with rfl | hy2
   ·exact fun e=>h1 x hx2 e.symm
   ·exact ADU h2 x hx2 y hy2 hne
theorem AKQ (hs:Sound cf sg K) (hm:cf.P.follows .mixedOrders=true) (hgof:∀ f k,cf.gof f=some k→cf.fid k=f) {hl:HL} {fn:Func} {s:Sg} {f:IF} {fi:FuncId}
  (ht:PI cf sg vt hl fn s=some f) (hfn:cf.P.funcs[fi]?=some fn) {ds rs:List D} (hb:Body K f ds rs):FE cf.P cf.fid fi s ds rs:=by
 intro w X args B hB hX hargs hfbc
 unfold PI at ht
 split at ht
 ·simp at ht
 ·rename_i code hcode
  simp only [AQ] at ht
  obtain ⟨rx,hres,⟨st,hl2,nrm,exs⟩,htr,ht⟩:=ht
  split at ht
  ·rename_i hcond
   obtain ⟨c1,c2,c3,c4,c5,c6,c7,c8,c9,c10,c11⟩:=hcond
   simp only [BD,Ac,List.contains_eq_mem,Aj] at c9
   simp only [AJ] at ht
   subst ht
   subst c6
   obtain ⟨⟨hdl,hcl⟩,hwp⟩:=hb
   obtain ⟨l1,l2,bf,k1,k2,k3,k4⟩:=BA.fn hargs hB
   let c:Cx:=⟨cf.P,cf.fid,w,(·∈B),X,cf.nt,(s.io++Lg s.fb).map fun i=>(i,args.getD i undef),hX⟩
   have hc:cf.Fits c:=⟨rfl,rfl,rfl,hgof,by
    intro x hx
    obtain ⟨i,hi,rfl⟩:=List.mem_map.1 hx
    exact (c9 i hi).1,by
    intro m k cs hcl
    rw [c11] at hcl
    rw [hcl] at hfbc
    obtain ⟨b,hs,e,fz,q1,q2,q3,q4⟩:=hfbc
    refine ⟨b,hs,e,fz,fun i=>args.getD i undef,?_,?_,q2,q3,q4⟩
    ·refine List.mem_map.2 ⟨m,Ak _ (by rw [hcl]; simp [Lg]),?_⟩
     simp [BP,q1]
    ·intro t ht
     exact List.mem_map.2 ⟨t,Ak _ (by rw [hcl]; simp [Lg,ht]),rfl⟩⟩
   let a0:Act:={ tmps:=args.toArray++Array.replicate (fn.ntmps-args.toArray.size) undef,defers:=[] }
   let e0:Env:=ds++List.replicate (vt.length-s.ps.length) D.u
   have he0:e0.length=vt.length:=by simp [e0]; omega
   have pv:∀ i t sh,vt[i]?=some (t,sh)→(2 ^ s.ps.length-1).testBit i=true→i<s.ps.length∧t=i∧s.ps[i]?=some sh:=by
    intro i t sh h1 h2
    rw [AD8] at h2
    have hi:i<s.ps.length:=by simpa using h2
    simp only [AAH,BD] at c3
    have:=c3 (s.ps[i],i) (List.mem_zipIdx_iff_getElem?.2 (by simp [hi]))
    simp only [beq_iff_eq] at this
    rw [h1] at this
    simp only [AJ,AI] at this
    exact ⟨hi,this.1,by rw [this.2]; simp [hi]⟩
   have getE:∀ i,i<ds.length→e0.E i=ds.getD i .u:=by
    intro i hi
    simp [Env.E,e0,BP,D4 hi]
   have H0:BR c (·∈Bm vt (2 ^ s.ps.length-1)) e0.E a0 w:=by
    refine ⟨⟨fun i=>args.getD i undef,bf,?_,?_,?_,?_,?_,Af.refl _ _,rfl,rfl,rfl,rfl,?_⟩,?fixed⟩
    case fixed=>
     intro x hx
     obtain ⟨i,hi,rfl⟩:=List.mem_map.1 hx
     have hil:=(c9 i hi).2
     show (args.toArray++Array.replicate (fn.ntmps-args.toArray.size) undef)[i]?=_
     rw [Array.getElem?_append_left (by simp; omega)]
     simp [BP,show i<args.length by omega]
    ·intro n sh hf
     obtain ⟨i,t,s',h1,h2,h3⟩:=Cu.1 hf
     rcases h3 with h3 | h3
     ·simp at h3
     ·injection h3 with e1 e2
      subst e1 e2
      obtain ⟨q1,q2,q3⟩:=pv n t sh h1 h2
      rw [getE n (by omega)]
      have:=k1 n sh (ds.getD n .u) (args.getD n undef) q3 (by simp [BP,show n<ds.length by omega]) (by simp [BP,show n<args.length by omega])
      refine AF.ext (Af.refl (fun _=>False) _) (fun _ _ q=>q.elim) (fun b _ hb=>?_) _ _ _ _ (fun _ _ q=>q) this
      obtain ⟨m,r,hm,hbm⟩:=hb
      obtain ⟨i2,t2,s2,g1,g2,g3⟩:=Cu.1 hm
      rcases g3 with g3 | g3
      ·simp at g3
      ·injection g3 with e1 e2
       subst e1 e2
       exact (k2 m (by have:=(pv m t2 r g1 g2).1; omega)).2 b hbm
    ·intro n sh hf
     obtain ⟨i,t,s',h1,h2,h3⟩:=Cu.1 hf
     rcases h3 with h3 | h3
     ·simp at h3
     ·injection h3 with e1 e2
      subst e1 e2
      exact (k2 n (by have:=(pv n t sh h1 h2).1; omega)).1
    ·intro n sh hf b hb
     obtain ⟨i,t,s',h1,h2,h3⟩:=Cu.1 hf
     rcases h3 with h3 | h3
     ·simp at h3
     ·injection h3 with e1 e2
      subst e1 e2
      exact .inr ((k2 n (by have:=(pv n t sh h1 h2).1; omega)).2 b hb)
    ·intro n sh m r hf hg hne b hb hb2
     obtain ⟨i,t,s',h1,h2,h3⟩:=Cu.1 hf
     obtain ⟨i2,t2,s2,g1,g2,g3⟩:=Cu.1 hg
     rcases h3 with h3 | h3
     ·simp at h3
     rcases g3 with g3 | g3
     ·simp at g3
     injection h3 with e1 e2
     subst e1 e2
     injection g3 with e1 e2
     subst e1 e2
     have p1:=(pv n t sh h1 h2).1
     have p2:=(pv m t2 r g1 g2).1
     exact k3 n m (by omega) (by omega) hne b hb hb2
    ·intro t l hf
     obtain ⟨i,t',s',h1,h2,h3⟩:=Cu.1 hf
     rcases h3 with h3 | h3
     ·injection h3 with e1 e2
      subst e1 e2
      obtain ⟨q1,q2,q3⟩:=pv i t s' h1 h2
      subst q2
      refine ⟨fun _=>?_,fun q=>(q (by simp [Ae])).elim⟩
      show (args.toArray++Array.replicate (fn.ntmps-args.toArray.size) undef)[t]?=_
      rw [Array.getElem?_append_left (by simp; omega)]
      simp [BP,show t<args.length by omega]
     ·simp at h3
    ·show (args.toArray++Array.replicate (fn.ntmps-args.toArray.size) undef).size=cf.nt
     simp; omega
   refine calls_of_wp hfn hcode ?_
   refine Eb hs hc hm code hl _ _ _ _ _ htr _ e0 a0 w _ hwp he0 H0 ?_
   rintro z e' a' w' hl' ⟨hz1,hz2⟩ ⟨L',hz,⟨vs,Bs,H⟩,hfix⟩
   have hrL:(∃ id,z=.ex id)∨rOK (rx.map (·.1)++s.io) L':=by
    cases z with
    | n=>
     right
     have hz':nrm=some L':=hz
     simp only [hz',Vb] at c7
     exact fun i hi=>BD.1 c7 i hi
    | ex id=>exact .inl ⟨id,rfl⟩
    | r=>exact .inr hz
   rcases hrL with ⟨id,rfl⟩ | hrL
   ·exact hz1.elim
   have hres2:=SP hres
   simp only [Yb,Ac,beq_iff_eq,BD] at c4
   obtain ⟨ro,hro⟩:∃ ro:List (Nat×Option Nat),ro=rx++s.io.map fun i=>(i,none):=⟨_,rfl⟩
   have hro1:rx.map (·.1)++s.io=ro.map (·.1):=by rw [hro]; simp [List.map_map,Function.comp_def]
   rw [hro1] at c5 hrL
   have hz2:rs=(rx.map (·.1)++s.io).map e'.E:=hz2
   rw [hro1] at hz2
   rw [← hro] at c4
   have rfact:∀ (j:Nat) (x:Nat×Option Nat),ro[j]?=some x→∃ t q q',vt[x.1]?=some (t,q)∧ME x.2 q=some q'∧s.outs[j]?=some q'∧Fact.en x.1 q∈Bm vt L'∧Fact.sl t (.is x.1 [])∈Bm vt L':=by
    intro j x hj
    have hL:=hrL x.1 (List.mem_map.2 ⟨x,List.mem_of_getElem? hj,rfl⟩)
    have hjl:j<ro.length:=by
     rcases CC j ro.length with q | q
     ·exact q
     ·rw [Dd q] at hj; simp at hj
    have hjq:s.outs[j]?=some (s.outs[j]'(by omega)):=by simp
    have:=c4.2 (x,s.outs[j]'(by omega)) (by
     rw [List.mem_iff_getElem?]
     exact ⟨j,by simp [List.getElem?_zip_eq_some,hj]⟩)
    cases hvi:vt[x.1]? with
    | none=>rw [hvi] at this; simp at this
    | some tq=>
     obtain ⟨t,q⟩:=tq
     rw [hvi] at this
     simp only [Option.bind_some] at this
     exact ⟨t,q,_,rfl,this,hjq,Cu.2 ⟨x.1,t,q,hvi,hL,.inr rfl⟩,Cu.2 ⟨x.1,t,q,hvi,hL,.inl rfl⟩⟩
   have hv:∀ x,x∈ro→∃ q,Fact.en x.1 q∈Bm vt L':=by
    intro x hi
    obtain ⟨j,hj⟩:=List.mem_iff_getElem?.1 hi
    obtain ⟨t,q,_,_,_,_,h3,_⟩:=rfact j x hj
    exact ⟨q,h3⟩
   -- each result: its value,its blocks
   let U:Nat×Option Nat→Value:=fun x=>match x.2 with
    | none=>vs x.1
    | some _=>match vs x.1 with
     | .pointer (some ⟨b,_,_⟩)=>match w'.heap[b]? with
      | some (.cells cs _ _)=>.agg cs
      | _=>undef
     | _=>undef
   let C:Nat×Option Nat→List Nat:=fun x=>match x.2 with
    | none=>Bs x.1
    | some _=>(Bs x.1).tail
   have hCB:∀ x,∀ b∈C x,b∈Bs x.1:=by
    intro x b hb
    obtain ⟨i,k⟩:=x
    cases k with
    | none=>exact hb
    | some n=>exact List.mem_of_mem_tail hb
   have hroN:ro.Nodup:=(List.pairwise_map.1 c5).imp fun h e=>h (congrArg _ e)
   have hinj:∀ x∈ro,∀ y∈ro,x≠y→x.1≠y.1:=ADU (List.pairwise_map.1 c5)
   have hBn:(ro.flatMap C).Nodup:=by
    have key:∀ l:List (Nat×Option Nat),(∀ x∈l,x∈ro)→l.Nodup→(l.flatMap C).Nodup:=by
     intro l
     induction l with
     | nil=>intro _ _; simp
     | cons x l ih=>
      intro hm hn
      obtain ⟨n1,n2⟩:=List.nodup_cons.1 hn
      simp only [List.flatMap_cons]
      obtain ⟨s1,hs1⟩:=hv x (hm x (List.mem_cons_self ..))
      refine List.nodup_append.2 ⟨?_,ih (fun y hy=>hm y (BC _ hy)) n2,fun b hb b' hb' e=>?_⟩
      ·have h0:=H.nodup x.1 s1 hs1
       obtain ⟨i,k⟩:=x
       cases k with
       | none=>exact h0
       | some n=>exact List.Nodup.sublist (List.tail_sublist _) h0
      ·subst e
       obtain ⟨y,hy,hb2⟩:=List.mem_flatMap.1 hb'
       obtain ⟨s2,hs2⟩:=hv y (hm y (BC _ hy))
       exact H.apart x.1 s1 y.1 s2 hs1 hs2 (hinj x (hm x (List.mem_cons_self ..)) y (hm y (BC _ hy)) (fun e=>n1 (e ▸ hy))) b (hCB x b hb) (hCB y b hb2)
    exact key ro (fun _ h=>h) hroN
   have hio:s.io.map vs=s.io.map fun i=>args.getD i undef:=by
    apply List.map_congr_left
    intro i hi
    have hmem:(i,none)∈ro:=by rw [hro]; exact Ak _ (List.mem_map.2 ⟨i,hi,rfl⟩)
    obtain ⟨j,hj⟩:=List.mem_iff_getElem?.1 hmem
    obtain ⟨t,q,_,h1,_,_,_,h4⟩:=rfact j _ hj
    obtain ⟨_,rfl,_⟩:=pv i t q h1 (by rw [AD8]; simpa using (c9 i (Ay _ hi)).2)
    have e1:=(H.loc t _ h4).1 (by simp [Ae])
    have e2:=hfix (t,args.getD t undef) (List.mem_map.2 ⟨t,Ay _ hi,rfl⟩)
    rw [e1] at e2
    injection e2
   -- a struct in its box
   have cell:∀ (j i n:Nat),ro[j]?=some (i,some n)→∃ q xs b cs e B',Fact.en i (.b q)∈Bm vt L'∧s.outs[j]?=some (.a q)∧e'.E i=.g xs∧xs.length=n∧vs i=.pointer (some ⟨b,0,none⟩)∧w'.heap[b]?=some (.cells cs e (0,0))∧cs.size=n∧Bs i=b::B'∧
     AK (AF cf.fid w'.heap (OB (·∈Bm vt L') Bs) X q) xs cs.toList B':=by
    intro j i n hj
    obtain ⟨t,q,q',h1,h2,h3,h4,h5⟩:=rfact j _ hj
    cases q with
    | b q=>
     simp only [ME,AJ] at h2
     subst h2
     have hown:=H.own i _ h4
     simp only [AF] at hown
     obtain ⟨xs,b,cs,e,fz,B',k1,k2,k3,k4,k5,k6,k7⟩:=hown
     have hfz:fz=(0,0):=k5
     subst hfz
     have hjr:rx[j]?=some (i,some n):=by
      rw [hro] at hj
      rcases CC j rx.length with r | r
      ·rwa [D4 r] at hj
      ·rw [FI r] at hj
       simp only [List.getElem?_map,A7,AI] at hj
       obtain ⟨_,_,_,h⟩:=hj
       cases h
     obtain ⟨ys,z1,z2⟩:=ALI hcl hjr
     have hrs:rs[j]?=some (e'.E i):=by rw [hz2]; simp [hj]
     rw [hrs,k1] at z1
     injection z1 with z1
     injection z1 with z1
     subst z1
     exact ⟨q,xs,b,cs,e,B',h4,h3,k1,z2,k3,k4,by omega,k2,k7⟩
    | _=>simp [ME] at h2
   have hUc:∀ (i n:Nat) (b:Nat) (cs:Array Value) (e:TypeId),vs i=.pointer (some ⟨b,0,none⟩)→w'.heap[b]?=some (.cells cs e (0,0))→U (i,some n)=.agg cs:=by
    intro i n b cs e h1 h2
    simp only [U,h1,h2]
   have hEach:BA (AF cf.fid w'.heap (·∈ro.flatMap C) X) s.outs rs (rx.map U++s.io.map fun i=>args.getD i undef) (ro.flatMap C):=by
    have hmapU:rx.map U++(s.io.map fun i=>args.getD i undef)=ro.map U:=by
     rw [hro,List.map_append,← hio]
     simp [List.map_map,Function.comp_def,U]
    rw [hmapU,hz2,List.map_map]
    refine BA.of ro s.outs c4.1 fun j x q h1 h2=>?_
    have hO:∀ b,b∈ro.flatMap C→OB (·∈Bm vt L') Bs b:=by
     intro b hb
     obtain ⟨m,hm,hb⟩:=List.mem_flatMap.1 hb
     obtain ⟨r,hr⟩:=hv m hm
     exact ⟨m.1,r,hr,hCB m b hb⟩
    obtain ⟨i,k⟩:=x
    cases k with
    | none=>
     obtain ⟨t,q0,q',_,h3,h4,h5,_⟩:=rfact j _ h1
     simp only [ME,AJ] at h3
     subst h3
     rw [h2] at h4; injection h4 with h4; subst h4
     exact AF.ext (Af.refl (fun _=>False) _) (fun _ _ q=>q.elim) (fun b _ hb=>hO b hb) _ _ _ _ (fun _ _ q=>q) (H.own i q h5)
    | some n=>
     obtain ⟨q0,xs,b,cs,e,B',z1,z2,z3,z4,z5,z6,z7,z8,z9⟩:=cell j i n h1
     rw [h2] at z2; injection z2 with z2; subst z2
     rw [hUc i n b cs e z5 z6]
     show AF cf.fid w'.heap (·∈ro.flatMap C) X (.a q0) (e'.E i) (.agg cs) (Bs i).tail
     rw [z3,z8]
     simp only [AF,List.tail_cons]
     refine ⟨xs,cs,rfl,rfl,by omega,AK.imp (fun d v B1 _ r=>?_) z9⟩
     exact AF.ext (Af.refl (fun _=>False) _) (fun _ _ q=>q.elim) (fun b _ hb=>hO b hb) _ _ _ _ (fun _ _ q=>q) r
   have hvals:∀ (j:Nat) (v:Value),(rx.map U)[j]?=some v→(∃ t,fn.results.toList[j]?=some (ResultVar.tmp t)∧a'.tmps.getD t undef=v)∨∃ t ty,fn.results.toList[j]?=some (ResultVar.cell t ty)∧(do loadVar ty (← asAddr (a'.tmps.getD t undef)):Sem Value).run cf.P w'=.ok v w':=by
    intro j v hj
    simp only [List.getElem?_map,A7] at hj
    obtain ⟨x,hi,rfl⟩:=hj
    obtain ⟨t,s1,h1,h7⟩:=hres2.2 j x hi
    have hj2:ro[j]?=some x:=by
     rw [hro,D4]
     ·exact hi
     ·rcases CC j rx.length with q | q
      ·exact q
      ·rw [Dd q] at hi; simp at hi
    obtain ⟨t2,q,q',h1',_,_,_,h6⟩:=rfact j x hj2
    rw [h1] at h1'
    simp only [AJ,AI] at h1'
    obtain ⟨rfl,rfl⟩:=h1'
    have hl:=(H.loc t _ h6).1 (by simp [Ae])
    have hg:a'.tmps.getD t undef=vs x.1:=by simp [Bp,hl]
    rcases h7 with ⟨h7,h8⟩ | ⟨n,ty,h7,h8,h9⟩
    ·left
     refine ⟨t,h8,?_⟩
     rw [hg]
     obtain ⟨i,k⟩:=x
     simp only at h7
     subst h7
     rfl
    ·right
     refine ⟨t,ty,h9,?_⟩
     obtain ⟨i,k⟩:=x
     simp only at h7
     subst h7
     obtain ⟨q0,xs,b,cs,e,B',z1,z2,z3,z4,z5,z6,z7,z8,z9⟩:=cell j i n hj2
     rw [hUc i n b cs e z5 z6,hg,z5]
     obtain ⟨fs,inf,y1,y2,y3,_,_⟩:=I2 h8
     have:=run_loadVar_row (P:=cf.P) w' b e ty cs (0,0) (.struct fs) z6 y1 rfl (by simp [y2,y3,z7])
     simpa [asAddr] using this
   have hrun:(results fn a'.tmps).run cf.P w'=.ok (if h:(rx.map U).toArray.size=1 then (rx.map U).toArray[0] else .tuple (rx.map U).toArray) w':=by
    unfold results
    rw [Sem.run_bind]
    have e1:=Zb (P:=cf.P) (w:=w') (tm:=a'.tmps) fn.results.toList (rx.map U) (by simp [hres2.1]) hvals
    rw [Array.mapM_eq_mapM_toList,Sem.run_map]
    erw [e1]
    rfl
   have hQ:∃ v,(results fn a'.tmps).run cf.P w'=.ok v w'∧∃ v_1 vs_1 B',Ending.returned v=.returned v_1∧HQ v_1 vs_1∧vs_1.length=s.qs.length∧Af (·∈B) w.heap w'.heap∧w'.os=w.os∧w'.tape=w.tape∧w'.output=w.output∧
     B'.Nodup∧(∀ b∈B',b∈B∨w.heap.size≤b)∧BA (AF cf.fid w'.heap (·∈B') X) s.outs rs (vs_1++s.io.map fun i=>args.getD i undef) B':=by
    refine ⟨_,hrun,_,rx.map U,ro.flatMap C,rfl,?_,by simp [c10],H.agr,H.os,H.tape,H.output,hBn,?_,hEach⟩
    ·exact AN4 _
    ·intro b hb
     obtain ⟨m,hm,hb⟩:=List.mem_flatMap.1 hb
     obtain ⟨r,hr⟩:=hv m hm
     exact (H.mine m.1 r hr b (hCB m b hb)).symm
   cases z with
   | n=>exact ⟨H.defers,hQ⟩
   | ex id=>exact hz1.elim
   | r=>exact ⟨H.defers,hQ⟩
  ·simp at ht
end
end Go.Cat
namespace Go.Cat
structure Row where
 k:Nat
 f:Nat
 s:Sg
def rowOf (tab:List Row) (k:Nat):Option Row:=tab.find? fun r=>r.k == k
def Dm (tab:List Row) (k:Nat):Nat:=match rowOf tab k with | some r=>r.f | none=>0
def AFT (tab:List Row) (f:Nat):Option Nat:=(tab.find? fun r=>r.f == f).map (·.k)
def M5 (tab:List Row) (k:Nat):Option Sg:=(rowOf tab k).map (·.s)
def Qh (P:Program) (f:Nat):Bool:=match P.funcs[f]? with
 | some fn => fn.body.isSome && fn.name != "runtime.NumGoroutine"
 | none=>false
def MO (P:Program) (tab:List Row):Bool:=tab.all fun r=>(Dm tab r.k == r.f)&&Qh P r.f
def KA (P:Program) (tab:List Row) (nt:Nat) (io:List Nat:=[]) (fb:Option (Nat×Nat×List Nat):=none):CF:=⟨P,Dm tab,AFT tab,nt,io++Lg fb,fb⟩
def KS (P:Program) (tab:List Row):Nat→List D→List D→Prop:=fun k ds rs=>∃ r,rowOf tab k=some r∧FE P (Dm tab) r.f r.s ds rs
theorem enters {P:Program} {f:Nat} (h:Qh P f=true) (args:Array Value) (w:World):(callFunc f args).run P w=.ok (.enter f args) w:=by
 unfold Qh at h
 split at h
 ·rename_i fn hf
  simp only [Ac,bne_iff_ne] at h
  unfold callFunc
  rw [Sem.run_bind]
  simp only [run_program,Result.andThen,hf]
  rw [if_neg (by simpa using h.2),if_neg (by cases hb:fn.body <;> simp [hb] at h ⊢)]
  rfl
 ·simp at h
theorem AHM {tab:List Row} {k:Nat} {r:Row} (h:rowOf tab k=some r):r∈tab∧r.k=k:=by
 refine ⟨List.mem_of_find?_eq_some h,?_⟩
 have:=List.find?_some h
 simpa using this
theorem KS.sound {P:Program} {tab:List Row} {nt:Nat} {io:List Nat} {fb:Option (Nat×Nat×List Nat)} (h:MO P tab=true):Sound (KA P tab nt io fb) (M5 tab) (KS P tab):=by
 simp only [MO,BD,Ac] at h
 constructor
 ·rintro k ds rs s ⟨r,hr,hc⟩ hs
  simp only [M5,hr,Option.map_some,AJ] at hs
  subst hs
  show FE P (Dm tab) (Dm tab k) r.s ds rs
  simp only [Dm,hr]
  exact hc
 ·intro k s hs args w
  simp only [M5,A7] at hs
  obtain ⟨r,hr,_⟩:=hs
  show (callFunc (Dm tab k) args).run P w=_
  have:Dm tab k=r.f:=by simp only [Dm,hr]
  rw [show (KA P tab nt io fb).fid k=r.f from this,show Dm tab k=r.f from this]
  exact enters (h r (AHM hr).1).2 args w
theorem KS.ALD {P:Program} {tab:List Row} (h:MO P tab=true) (hm:P.follows .mixedOrders=true) {k nt:Nat} {io:List Nat} {fb:Option (Nat×Nat×List Nat)} {r:Row} {vt:VT} {hl:HL} {fn:Func} {f:IF} (hr:rowOf tab k=some r)
  (ht:PI (KA P tab nt io fb) (M5 tab) vt hl fn r.s=some f) (hfn:P.funcs[r.f]?=some fn) {ds rs:List D} (hb:Body (KS P tab) f ds rs):KS P tab k ds rs:=by
 refine ⟨r,hr,AKQ (cf:=KA P tab nt io fb) (KS.sound h) hm ?_ ht hfn hb⟩
 intro g j hg
 simp only [KA,AFT,A7] at hg
 obtain ⟨x,hx,rfl⟩:=hg
 have h1:=List.mem_of_find?_eq_some hx
 have h2:x.f=g:=by simpa using List.find?_some hx
 simp only [MO,BD,Ac] at h
 have:=(h x h1).1
 show Dm tab x.k=g
 rw [← h2]
 simpa using this
end Go.Cat
namespace Go.Cat
def F4 {α:Type} (n:Nat) (k:Nat→α):α:=match n with
 | 0=>k 0
 | m+1=>k (m+1)
theorem Hq {α:Type} (n:Nat) (k:Nat→α):F4 n k=k n:=by cases n <;> rfl
def N1 {α:Type} (n:Int) (k:Int→α):α:=match n with
 | .ofNat m=>F4 m fun m=>k (.ofNat m)
 | .negSucc m=>F4 m fun m=>k (.negSucc m)
theorem Yx {α:Type} (n:Int) (k:Int→α):N1 n k=k n:=by cases n <;> simp [N1,Hq]
def OE {α:Type} (b:Bool) (k:Bool→α):α:=match b with
 | true=>k true
 | false=>k false
theorem WM {α:Type} (b:Bool) (k:Bool→α):OE b k=k b:=by cases b <;> rfl
noncomputable def Ow {α:Type} (l:List Nat):(List Nat→α)→α:=
 List.rec (motive:=fun _=>(List Nat→α)→α) (fun k=>k []) (fun n _ ih k=>F4 n fun n=>ih fun l=>k (n::l)) l
theorem AEY {α:Type}:∀ (l:List Nat) (k:List Nat→α),Ow l k=k l
 | [],_=>rfl
 | n::l,k=>by
  show F4 n (fun n=>Ow l fun l=>k (n::l))=_
  rw [Hq,AEY l]
noncomputable def fD {α:Type} (d:D):(D→α)→α:=
 D.rec (motive_1:=fun _=>(D→α)→α) (motive_2:=fun _=>(List D→α)→α)
  (fun k=>k .u) (fun q n k=>N1 n fun n=>k (.i q n)) (fun x k=>OE x fun x=>k (.b x)) (fun x k=>Ow x fun x=>k (.s x))
  (fun _ ih k=>ih fun xs=>k (.l xs)) (fun _ ih k=>ih fun xs=>k (.g xs)) (fun k=>k .z) (fun _ ih k=>ih fun xs=>k (.p xs)) (fun n _ ih k=>ih fun xs=>k (.f n xs))
  (fun k=>k []) (fun _ _ ih1 ih2 k=>ih1 fun d=>ih2 fun l=>k (d::l)) d
mutual
theorem Rp {α:Type}:∀ (d:D) (k:D→α),fD d k=k d
 | .u,k=>rfl
 | .i q n,k=>(Yx n fun n=>k (.i q n) :)
 | .b x,k=>(WM x fun x=>k (.b x) :)
 | .s x,k=>(AEY x fun x=>k (.s x) :)
 | .l xs,k=>Mp xs _
 | .g xs,k=>Mp xs _
 | .z,k=>rfl
 | .p xs,k=>Mp xs _
 | .f n xs,k=>Mp xs _
theorem Mp {α:Type}:∀ (l:List D) (k:List D→α),(D.rec_1 (motive_1:=fun _=>(D→α)→α) (motive_2:=fun _=>(List D→α)→α)
  (fun k=>k .u) (fun q n k=>N1 n fun n=>k (.i q n)) (fun x k=>OE x fun x=>k (.b x)) (fun x k=>Ow x fun x=>k (.s x))
  (fun _ ih k=>ih fun xs=>k (.l xs)) (fun _ ih k=>ih fun xs=>k (.g xs)) (fun k=>k .z) (fun _ ih k=>ih fun xs=>k (.p xs)) (fun n _ ih k=>ih fun xs=>k (.f n xs))
  (fun k=>k []) (fun _ _ ih1 ih2 k=>ih1 fun d=>ih2 fun l=>k (d::l)) l:(List D→α)→α) k=k l
 | [],k=>rfl
 | d::l,k=>(Rp d _).trans (Mp l _)
end
def fV {α:Type} (d:D) (k:D→α):α:=match d with
 | .u=>k .u
 | .i q n=>k (.i q n)
 | .b x=>k (.b x)
 | .s x=>k (.s x)
 | .l xs=>k (.l xs)
 | .g xs=>k (.g xs)
 | .z=>k .z
 | .p xs=>k (.p xs)
 | .f n xs=>k (.f n xs)
theorem XU {α:Type} (d:D) (k:D→α):fV d k=k d:=by cases d <;> rfl
noncomputable def GA {α:Type} (l:List D):(List D→α)→α:=
 List.rec (motive:=fun _=>(List D→α)→α) (fun k=>k []) (fun d _ ih k=>fV d fun d=>ih fun l=>k (d::l)) l
theorem Nb {α:Type}:∀ (l:List D) (k:List D→α),GA l k=k l
 | [],k=>rfl
 | d::l,k=>(XU d fun d=>GA l fun l=>k (d::l)).trans (Nb l fun l=>k (d::l))
noncomputable def fT {α:Type} (d:D) (k:D→α):α:=match d with
 | .i q n=>N1 n fun n=>k (.i q n)
 | .b x=>OE x fun x=>k (.b x)
 | .l xs=>GA xs fun xs=>k (.l xs)
 | d=>fD d k
theorem AIJ {α:Type} (d:D) (k:D→α):fT d k=k d:=by
 unfold fT
 split
 ·exact Yx _ _
 ·exact WM _ _
 ·exact Nb _ _
 ·exact Rp _ _
def deep:Pr→Bool
 | .up _ [_] _=>false
 | .up _ _ _=>true
 | .mk _ _ _=>true
 | _=>false
theorem AH7 {n:Int} (h1:-9223372036854775808≤n) (h2:n≤9223372036854775807):IntKind.wrap .i64 n=n:=by
 simp [IntKind.wrap,IntKind.bits,IntKind.signed] at*
 omega
def Hw (k:IntKind) (n:Int):Int:=match k,n with
 | .i64,.ofNat m=>if Nat.ble m 9223372036854775807 then .ofNat m else IntKind.wrap .i64 (.ofNat m)
 | .i64,.negSucc m=>if Nat.ble m 9223372036854775807 then .negSucc m else IntKind.wrap .i64 (.negSucc m)
 | .u8,.ofNat m=>.ofNat (Nat.mod m 256)
 | k,n=>k.wrap n
theorem ZL (k:IntKind) (n:Int):Hw k n=k.wrap n:=by
 unfold Hw
 split
 ·split
  ·rename_i m h
   have:=Nat.le_of_ble_eq_true h
   simp [IntKind.wrap,IntKind.bits,IntKind.signed]; omega
  ·rfl
 ·split
  ·rename_i m h
   have:=Nat.le_of_ble_eq_true h
   exact (AH7 (by omega) (by omega)).symm
  ·rfl
 ·rename_i m
  show ((m % 256:Nat):Int)=_
  unfold IntKind.wrap
  simp only [IntKind.bits,IntKind.signed]
  simp
 ·rfl
def Jz:Int→Int→Bool
 | .ofNat a,.ofNat b=>Nat.ble a b
 | .negSucc _,.ofNat _=>true
 | .ofNat _,.negSucc _=>false
 | .negSucc a,.negSucc b=>Nat.ble b a
theorem AOS (a b:Int):Jz a b=decide (a≤b):=by
 unfold Jz
 split
 ·rw [Bool.eq_iff_iff]; simp [Nat.ble_eq]
 ·rw [Bool.eq_iff_iff]; simp; omega
 ·rw [Bool.eq_iff_iff]; simp; omega
 ·rw [Bool.eq_iff_iff]; simp [Nat.ble_eq]; omega
def Hp:Int→Int→Bool
 | .ofNat a,.ofNat b=>Nat.beq a b
 | .negSucc a,.negSucc b=>Nat.beq a b
 | _,_=>false
theorem OA (a b:Int):Hp a b=(a == b):=by
 unfold Hp
 split
 ·rw [Bool.eq_iff_iff]; simp [Nat.beq_eq]; omega
 ·rw [Bool.eq_iff_iff]; simp [Nat.beq_eq]
 ·rename_i h1 h2
  rw [Bool.eq_iff_iff]
  constructor
  ·simp
  ·intro h
   have:a=b:=by simpa using h
   subst this
   cases a with
   | ofNat n=>exact (h1 n n rfl rfl).elim
   | negSucc n=>exact (h2 n n rfl rfl).elim
def RR:Int→Int→Int
 | .ofNat a,.ofNat b=>.ofNat (Nat.add a b)
 | a,b=>Int.add a b
theorem AIN (a b:Int):RR a b=a+b:=by unfold RR; split <;> rfl
def Tp:Int→Int→Int
 | .ofNat a,.ofNat b=>.ofNat (Nat.mul a b)
 | a,b=>Int.mul a b
theorem AN6 (a b:Int):Tp a b=a*b:=by unfold Tp; split <;> rfl
def Rr (op:BinOp) (k:IntKind) (a b:Int):Option D:=
 match op with
 | .add=>some (.i k (Hw k (RR a b)))
 | .sub=>some (.i k (Hw k (Int.sub a b)))
 | .mul=>some (.i k (Hw k (Tp a b)))
 | .quo=>bif Hp b (.ofNat 0) then none else some (.i k (Hw k (Int.tdiv a b)))
 | .rem=>bif Hp b (.ofNat 0) then none else some (.i k (Int.tmod a b))
 | .eql=>some (.b (Hp a b))
 | .neq=>some (.b (!Hp a b))
 | .lss=>some (.b (!Jz b a))
 | .leq=>some (.b (Jz a b))
 | .gtr=>some (.b (!Jz a b))
 | .geq=>some (.b (Jz b a))
 | op=>D5 op k a b
theorem AO7 (op:BinOp) (k:IntKind) (a b:Int):Rr op k a b=D5 op k a b:=by
 have hs:Int.sub a b=a-b:=rfl
 have hz:Hp b (.ofNat 0)=decide (b=0):=by rw [OA]; rw [Bool.eq_iff_iff]; simp
 unfold Rr
 split <;> simp only [D5,ZL,AIN,AN6,hs,AOS,OA]
 ·rw [← OA,hz]; by_cases h:b=0 <;> simp [h]
 ·rw [← OA,hz]; by_cases h:b=0 <;> simp [h]
 ·simp [bne]
 ·simp only [AJ,D.b.injEq]; rw [Bool.eq_iff_iff]; simp
 ·simp only [AJ,D.b.injEq]; rw [Bool.eq_iff_iff]; simp
def RJ:IntKind→IntKind→Bool
 | .i64,.i64=>true
 | .u8,.u8=>true
 | a,b=>decide (a=b)
theorem ANV (a b:IntKind):RJ a b=decide (a=b):=by unfold RJ; split <;> simp
noncomputable def at_ (n:Nat) (l:List D):D:=List.rec (motive:=fun _=>Nat→D) (fun _=>.u) (fun d _ ih n=>Nat.rec (motive:=fun _=>D) d (fun m _=>ih m) n) l n
theorem Oz:∀ (n:Nat) (l:List D),at_ n l=l.getD n .u
 | n,[]=>by cases n <;> rfl
 | 0,d::_=>rfl
 | n+1,_::l=>(Oz n l).trans rfl
noncomputable def look (r:List D) (c n:Nat):D:=bif Nat.ble c n then .u else at_ (Nat.pred (Nat.sub c n)) r
theorem look_eq {r:List D} {c:Nat} (h:r.length=c) (n:Nat):look r c n=(r.reverse).getD n .u:=by
 unfold look
 cases hb:Nat.ble c n with
 | true=>
  have:=Nat.le_of_ble_eq_true hb
  rw [cond_true,BP,Dd (by simp; omega)]; rfl
 | false=>
  have:¬ c≤n:=fun h=>by rw [show Nat.ble c n=true by simpa using h] at hb; cases hb
  rw [cond_false,Oz,BP,BP,List.getElem?_reverse (by omega)]
  congr 2
  show c-n-1=_
  omega
section
variable (F:Nat→List D→Option (List D))
def SI:Bool→Bool→Bool
 | true,b=>b
 | false,true=>false
 | false,false=>true
noncomputable def evG (E:Nat→D) (l:List (Nat×Bool)):Option Bool:=
 List.rec (motive:=fun _=>Option Bool) (some true) (fun x _ ih=>match E x.1 with
  | .b y=>bif SI y x.2 then ih else some false
  | _=>none) l
theorem AC4 (E:Nat→D):∀ (l:List (Nat×Bool)),evG E l=CO E l
 | []=>rfl
 | (n,want)::r=>by
  show (match E n with | .b y=>bif SI y want then evG E r else some false | _=>none)=_
  simp only [CO]
  split
  ·rename_i x h; rw [h]
   cases x <;> cases want <;> simp [AC4 E r,SI]
  ·rename_i h
   split
   ·rename_i x hx; exact absurd hx (h x)
   ·rfl
noncomputable def nth (l:List D) (n:Nat):Option D:=List.rec (motive:=fun _=>Nat→Option D) (fun _=>none) (fun d _ ih n=>Nat.rec (motive:=fun _=>Option D) (some d) (fun m _=>ih m) n) l n
theorem QA:∀ (l:List D) (n:Nat),nth l n=l[n]?
 | [],n=>rfl
 | d::l,0=>rfl
 | d::l,n+1=>(QA l n).trans (by simp)
noncomputable def Ig (l:List D) (n:Nat) (x:D):List D:=List.rec (motive:=fun _=>Nat→List D) (fun _=>[]) (fun d l ih n=>Nat.rec (motive:=fun _=>List D) (x::l) (fun m _=>d::ih m) n) l n
theorem Pd (x:D):∀ (l:List D) (n:Nat),Ig l n x=l.set n x
 | [],n=>rfl
 | d::l,0=>rfl
 | d::l,n+1=>(congrArg (d::·) (Pd x l n)).trans (by simp)
def Xu:D→Option Nat
 | .i _ (.ofNat m)=>some m
 | _=>none
noncomputable def OH (d i:D):Option D:=match d,Xu i with
 | .l xs,some m=>(nth xs m).bind known
 | _,_=>none
theorem XI (d i:D):OH d i=Cn d i:=by
 unfold OH Cn Xu
 cases d <;> cases i <;> try rfl
 rename_i xs k n
 cases n with
 | ofNat m=>simp [QA]
 | negSucc m=>simp
noncomputable def evQ (E:Nat→D):Pr→Option D
 | .bi op a b=>match ev E a,ev E b with
  | .i k a,.i k' b=>match op with
   | .shl=>BV .shl (.i k a) (.i k' b)
   | .shr=>BV .shr (.i k a) (.i k' b)
   | op=>bif RJ k k' then Rr op k a b else none
  | a,b=>BV op a b
 | .cv k a=>match ev E a with
  | .i _ n=>some (.i k (Hw k n))
  | _=>none
 | .ix a [] i=>OH (ev E a) (ev E i)
 | .iy a i=>(OH (ev E a) (ev E i)).bind Ey
 | .up n [pe] a=>bif (ev E a).one then (PE.ev E pe).bind fun i=>match E n with
   | .l xs=>(nth xs i).bind fun _=>some (.l (Ig xs i (ev E a)))
   | .g xs=>(nth xs i).bind fun _=>some (.g (Ig xs i (ev E a)))
   | _=>none
  else none
 | p=>AS E p
theorem APX (E:Nat→D) (p:Pr):evQ E p=AS E p:=by
 unfold evQ
 split
 ·rename_i op a b
  simp only [AS]
  split
  ·rename_i k x k' y h1 h2
   rw [h1,h2]
   split
   ·rfl
   ·rfl
   ·rename_i h3 h4
    rw [ANV]
    simp only [BV]
    by_cases hk:k=k' <;> simp [hk,AO7]
  ·rfl
 ·rename_i k a
  simp only [AS]
  split
  ·rename_i h; rw [h,ZL]
  ·rename_i h
   split
   ·rename_i n hn; exact absurd hn (h _ _)
   ·rfl
 ·rename_i a i
  simp [AS,DU,A9,XI]
 ·simp only [AS,XI]
 ·rename_i n pe a
  simp only [AS,List.mapM_cons,List.mapM_nil,Option.bind_eq_bind,Option.pure_def]
  cases (ev E a).one with
  | false=>simp
  | true=>
   simp only [cond_true,if_true]
   cases PE.ev E pe with
   | none=>simp
   | some i=>
    simp only [Option.bind_some]
    split
    ·rename_i xs h
     rw [h]
     simp only [Aa,QA,Pd]
     cases xs[i]? <;> simp
    ·rename_i xs h
     rw [h]
     simp only [Aa,QA,Pd]
     cases xs[i]? <;> simp
    ·rename_i h h'
     cases hE:E n with
     | l xs=>exact absurd hE (h xs)
     | g xs=>exact absurd hE (h' xs)
     | _=>simp [Aa]
 ·rfl
noncomputable def Ka (l:List D):List D→List D:=List.rec (motive:=fun _=>List D→List D) (fun r=>r) (fun d _ ih r=>ih (d::r)) l
theorem JU:∀ (l r:List D),Ka l r=l.reverse++r
 | [],r=>rfl
 | d::l,r=>(JU l (d::r)).trans (by simp)
noncomputable def us (n:Nat):List D→List D:=Nat.rec (motive:=fun _=>List D→List D) (fun r=>r) (fun _ ih r=>ih (.u::r)) n
theorem Qz:∀ (n:Nat) (r:List D),us n r=List.replicate n .u++r
 | 0,r=>rfl
 | n+1,r=>(Qz n (.u::r)).trans (by
  rw [List.replicate_succ']
  simp)
noncomputable def Nf (l:List D):Nat→Nat:=List.rec (motive:=fun _=>Nat→Nat) (fun n=>n) (fun _ _ ih n=>ih (n+1)) l
theorem RY:∀ (l:List D) (n:Nat),Nf l n=l.length+n
 | [],n=>by simp [Nf]
 | _::l,n=>(RY l (n+1)).trans (by simp; omega)
noncomputable def Zs (E:Nat→D) (l:List A):List D:=List.rec (motive:=fun _=>List D) [] (fun a _ ih=>ev E a::ih) l
theorem AAI (E:Nat→D):∀ (l:List A),Zs E l=l.map (ev E)
 | []=>rfl
 | a::l=>congrArg (ev E a::·) (AAI E l)
noncomputable def RK {α:Type} (it:It) (r:List D) (c:Nat) (k:List D→Nat→Option α):Option α:=
 match evG (look r c) it.g with
 | some true=>match it.p with
  | .nop=>k r c
  | .ca g xs m=>GA (Zs (look r c) xs) fun ds=>(F g ds).bind fun rs=>bif Nat.beq (Nf rs 0) m then F4 (Nat.add c m) fun c'=>k (Ka rs r) c' else none
  | .cd ..=>none
  | .sp ..=>none
  | .sw ..=>none
  | .mo ..=>none
  | .tk n=>(IX (look r c n)).bind fun d=>fV d fun d=>F4 (Nat.succ (Nat.succ c)) fun c'=>k (.g [.u]::d::r) c'
  | p=>(evQ (look r c) p).bind fun d=>(bif deep p then fD d else fT d) fun d=>F4 (Nat.succ c) fun c'=>k (d::r) c'
 | some false=>F4 (Nat.add c it.p.np) fun c'=>(match it.z with | []=>k (us it.p.np r) c' | z=>k (Ka (CR (look r c) z it.p.np) r) c')
 | none=>none
noncomputable def R4 {α:Type} (its:List It) (r:List D) (c:Nat) (k:List D→Nat→Option α):Option α:=
 List.rec (motive:=fun _=>List D→Nat→Option α) k (fun it _ ih r c=>RK F it r c ih) its r c
noncomputable def TV (E:Nat→D) (l:List (Option Nat)):List D:=List.rec (motive:=fun _=>List D) [] (fun x _ ih=>(match x with | some n=>E n | none=>.u)::ih) l
theorem RW (e:Env):∀ (l:List (Option Nat)),TV e.E l=DE l e
 | []=>rfl
 | some n::l=>congrArg (e.E n::·) (RW e l)
 | none::l=>congrArg (D.u::·) (RW e l)
noncomputable def Nd (R:Env→Option (X×Env)) (n:Nat):Env→Option (X×Env):=
 Nat.rec (motive:=fun _=>Env→Option (X×Env)) (fun _=>none) (fun _ ih e=>(R e).bind fun r=>match r with
  | (.n,e1)=>ih e1
  | r=>some r) n
noncomputable def EG (n:Nat) (s:S):Env→Option (X×Env):=
 S.rec (motive:=fun _=>Env→Option (X×Env)) (fun e=>some (.n,e))
  (fun its out e=>F4 (Nf e 0) fun c=>R4 F its (Ka e []) c fun r c=>GA (TV (look r c) out) fun e2=>some (.n,e2))
  (fun _ _ ia ib e=>(ia e).bind fun r=>match r with
   | (.n,e1)=>ib e1
   | r=>some r)
  (fun c _ _ ix iy e=>match at_ c e with
   | .b true=>GA (Ig e c .u) fun e=>ix e
   | .b false=>GA (Ig e c .u) fun e=>iy e
   | _=>none)
  (fun id _ ib e=>(ib e).bind fun r=>match r with
   | (.ex j,e1)=>bif Nat.beq j id then some (.n,e1) else some (.ex j,e1)
   | r=>some r)
  (fun _ ib e=>Nd ib n e)
  (fun id e=>some (.ex id,e)) (fun e=>some (.r,e)) s
end
variable {F:Nat→List D→Option (List D)} {K:Nat→List D→List D→Prop}
theorem Tb {E:Nat→D}:∀ (n:Nat),CR E [] n=List.replicate n .u
 | 0=>rfl
 | n+1=>by rw [CR,Tb n]; rfl
theorem AO2 {α:Type} (hF:∀ g ds rs,F g ds=some rs→K g ds rs) {it:It} {r:List D} {c:Nat} {k:List D→Nat→Option α} {x:α} (hc:r.length=c) {Q:Env→Prop} (h:RK F it r c k=some x)
  (q:∀ r' c',r'.length=c'→k r' c'=some x→Q r'.reverse):GG K it r.reverse Q:=by
 have hE:look r c=Env.E r.reverse:=funext fun n=>look_eq hc n
 unfold RK at h
 unfold GG
 rw [hE,AC4] at h
 split at h
 ·rename_i hg; rw [hg]
  split at h
  ·rename_i hp; rw [hp]; exact q _ _ hc h
  ·rename_i g xs m hp; rw [hp]
   simp only [Nb,AQ,AAI,Hq,RY] at h
   obtain ⟨rs,h1,h2⟩:=h
   cases hb:Nat.beq (rs.length+0) m with
   | false=>rw [hb,cond_false] at h2; cases h2
   | true=>
    rw [hb,cond_true] at h2
    have hm:rs.length=m:=by simpa using Nat.eq_of_beq_eq_true hb
    refine ⟨rs,hF _ _ _ h1,hm,?_⟩
    have:=q _ _ ?_ h2
    ·rw [JU] at this; simpa using this
    ·rw [JU]; simp only [Ad,List.length_reverse,hm,hc]; show _=c+m; omega
  ·cases h
  ·cases h
  ·cases h
  ·cases h
  ·rename_i n hp; rw [hp]
   simp only [AQ,XU,Hq] at h
   obtain ⟨d,h1,h2⟩:=h
   have:=q _ _ (by simp [hc]) h2
   show match IX (Env.E r.reverse n) with | some d=>Q (r.reverse++[d,.g [.u]]) | none=>False
   rw [h1]; simpa using this
  ·rename_i p h1 h2 h5 h7 h8 h9 h6
   have hfd:∀ (d:D) (k:D→Option α),(bif deep it.p then fD d else fT d) k=k d:=fun d k=>by cases deep it.p <;> simp [Rp,AIJ]
   simp only [AQ,hfd,Hq,APX] at h
   obtain ⟨d,h3,h4⟩:=h
   have:=q _ _ (by simp [hc]) h4
   show AY K it.p r.reverse Q
   unfold AY
   split
   ·rename_i hp; exact (h1 hp).elim
   ·rename_i hp; exact (h2 _ _ _ hp).elim
   ·rename_i hp; exact (h5 _ _ _ _ hp).elim
   ·rename_i hp; exact (h6 _ hp).elim
   ·rename_i hp; exact (h7 _ _ _ hp).elim
   ·rename_i hp; exact (h8 _ hp).elim
   ·rename_i hp; exact (h9 _ _ _ hp).elim
   ·rw [h3]; simpa using this
 ·rename_i hg; rw [hg]
  simp only [Hq] at h
  split at h
  ·rename_i hz
   have:=q _ _ ?_ h
   ·rw [hz,Tb]; rw [Qz] at this; simpa using this
   ·rw [Qz]; simp only [Ad,List.length_replicate,hc]; show _=c+_; omega
  ·rename_i z hz
   have:=q _ _ ?_ h
   ·rw [JU] at this; simpa using this
   ·rw [JU]; simp only [Ad,List.length_reverse,Jh,hc]; show _=c+_; omega
 ·cases h
theorem ACB {α:Type} (hF:∀ g ds rs,F g ds=some rs→K g ds rs):∀ {its:List It} {r:List D} {c:Nat} {k:List D→Nat→Option α} {x:α} (_:r.length=c) {Q:Env→Prop} (_:R4 F its r c k=some x)
  (_:∀ r' c',r'.length=c'→k r' c'=some x→Q r'.reverse),DZ K its r.reverse Q
 | [],r,c,k,x,hc,Q,h,q=>q _ _ hc h
 | it::its,r,c,k,x,hc,Q,h,q=>AO2 hF hc h fun r' c' hc' h'=>ACB hF hc' h' q
theorem AN0 (R:Env→Option (X×Env)) (n:Nat) (e:Env):Nd R (n+1) e=(R e).bind fun r=>match r with
  | (.n,e1)=>Nd R n e1
  | r=>some r:=rfl
theorem ANL (n:Nat) (e:Env):EG F n .skip e=some (.n,e):=rfl
theorem AJ1 (n:Nat) (its:List It) (out:List (Option Nat)) (e:Env):EG F n (.reg its out) e=F4 (Nf e 0) fun c=>R4 F its (Ka e []) c fun r c=>GA (TV (look r c) out) fun e2=>some (.n,e2):=rfl
theorem AOF (n:Nat) (a b:S) (e:Env):EG F n (.seq a b) e=(EG F n a e).bind fun r=>match r with
  | (.n,e1)=>EG F n b e1
  | r=>some r:=rfl
theorem AMY (n c:Nat) (a b:S) (e:Env):EG F n (.cond c a b) e=match at_ c e with
  | .b true=>GA (Ig e c .u) fun e=>EG F n a e
  | .b false=>GA (Ig e c .u) fun e=>EG F n b e
  | _=>none:=rfl
theorem AL1 (n id:Nat) (b:S) (e:Env):EG F n (.block id b) e=(EG F n b e).bind fun r=>match r with
  | (.ex j,e1)=>bif Nat.beq j id then some (.n,e1) else some (.ex j,e1)
  | r=>some r:=rfl
theorem ANH (n:Nat) (b:S) (e:Env):EG F n (.loop b) e=Nd (EG F n b) n e:=rfl
theorem AL7 (n id:Nat) (e:Env):EG F n (.exit id) e=some (.ex id,e):=rfl
theorem AM1 (n:Nat) (e:Env):EG F n .ret e=some (.r,e):=rfl
theorem Zy {R:Env→Option (X×Env)} {W:(X→Env→Prop)→Env→Prop} (hR:∀ e x e' Q,R e=some (x,e')→Q x e'→W Q e):∀ (n:Nat) {e e':Env} {x:X} {Q:X→Env→Prop},
  Nd R n e=some (x,e')→Q x e'→Cz W n Q e
 | 0,_,_,_,_,h,_=>by cases h
 | n+1,e,e',x,Q,h,q=>by
  simp only [AN0,AQ] at h
  obtain ⟨⟨y,e1⟩,h1,h2⟩:=h
  refine hR _ _ _ _ h1 ?_
  cases y with
  | n=>exact Zy hR n h2 q
  | ex j=>simp only [AJ,AI] at h2; obtain ⟨rfl,rfl⟩:=h2; exact q
  | r=>simp only [AJ,AI] at h2; obtain ⟨rfl,rfl⟩:=h2; exact q
theorem Ir (hF:∀ g ds rs,F g ds=some rs→K g ds rs) (n:Nat):∀ (s:S) {e e':Env} {x:X} {Q:X→Env→Prop} (_:EG F n s e=some (x,e')) (_:Q x e'),wpS K s Q e
 | .skip,e,e',x,Q,h,q=>by simp only [ANL,AJ,AI] at h; obtain ⟨rfl,rfl⟩:=h; exact q
 | .reg its out,e,e',x,Q,h,q=>by
  simp only [AJ1,Hq,Nb,RY,JU] at h
  have:=ACB (r:=e.reverse++[]) (Q:=fun e1=>Q .n (DE out e1)) hF (by simp) h ?_
  ·simp only [List.append_nil,List.reverse_reverse] at this
   exact this
  ·intro r' c' hc' h'
   simp only [AJ,AI] at h'
   obtain ⟨rfl,rfl⟩:=h'
   have hE:look r' c'=Env.E r'.reverse:=funext fun n=>look_eq hc' n
   rw [hE,RW] at q
   exact q
 | .seq a b,e,e',x,Q,h,q=>by
  simp only [AOF,AQ] at h
  obtain ⟨⟨y,e1⟩,h1,h2⟩:=h
  refine Ir hF n a h1 ?_
  cases y with
  | n=>exact Ir hF n b h2 q
  | ex j=>simp only [AJ,AI] at h2; obtain ⟨rfl,rfl⟩:=h2; exact q
  | r=>simp only [AJ,AI] at h2; obtain ⟨rfl,rfl⟩:=h2; exact q
 | .cond c a b,e,e',x,Q,h,q=>by
  simp only [AMY,Nb,Oz,Pd] at h
  simp only [wpS]
  change (match e.E c with | .b true=>_ | .b false=>_ | _=>_)=_ at h
  split at h
  ·rename_i hg; rw [hg]; exact Ir hF n a h q
  ·rename_i hg; rw [hg]; exact Ir hF n b h q
  ·cases h
 | .block id b,e,e',x,Q,h,q=>by
  simp only [AL1,AQ] at h
  obtain ⟨⟨y,e1⟩,h1,h2⟩:=h
  refine Ir hF n b h1 ?_
  cases y with
  | n=>simp only [AJ,AI] at h2; obtain ⟨rfl,rfl⟩:=h2; exact q
  | ex j=>
   simp only at h2
   cases hb:Nat.beq j id with
   | true=>
    rw [hb,cond_true] at h2
    have hj:=Nat.eq_of_beq_eq_true hb
    simp only [AJ,AI] at h2; obtain ⟨rfl,rfl⟩:=h2
    show if j=id then _ else _
    rw [if_pos hj]; exact q
   | false=>
    rw [hb,cond_false] at h2
    have hj:=Nat.ne_of_beq_eq_false hb
    simp only [AJ,AI] at h2; obtain ⟨rfl,rfl⟩:=h2
    show if j=id then _ else _
    rw [if_neg hj]; exact q
  | r=>simp only [AJ,AI] at h2; obtain ⟨rfl,rfl⟩:=h2; exact q
 | .loop b,e,e',x,Q,h,q=>by
  simp only [ANH] at h
  exact ⟨n,Zy (W:=wpS K b) (fun e x e' Q h q=>Ir hF n b h q) n h q⟩
 | .exit id,e,e',x,Q,h,q=>by simp only [AL7,AJ,AI] at h; obtain ⟨rfl,rfl⟩:=h; exact q
 | .ret,e,e',x,Q,h,q=>by simp only [AM1,AJ,AI] at h; obtain ⟨rfl,rfl⟩:=h; exact q
noncomputable def Pt (F:Nat→List D→Option (List D)) (n:Nat) (f:IF) (ds:List D):Option (List D):=
 if ds.length=f.np then (EG F n f.body (ds++List.replicate (f.nv-f.np) .u)).bind fun r=>match r with
  | (.ex _,_)=>none
  | (_,e)=>bif GK f.cl (f.res.map fun n=>at_ n e) then some (f.res.map fun n=>at_ n e) else none
 else none
theorem AJU (hF:∀ g ds rs,F g ds=some rs→K g ds rs) {n:Nat} {f:IF} {ds rs:List D} (h:Pt F n f ds=some rs):Body K f ds rs:=by
 unfold Pt at h
 split at h
 ·rename_i hl
  simp only [AQ] at h
  obtain ⟨⟨x,e⟩,h1,h2⟩:=h
  have h3:(∀ j,x≠.ex j)∧GK f.cl rs=true∧rs=f.res.map fun n=>at_ n e:=by
   cases x with
   | ex j=>cases h2
   | n=>
    simp only at h2
    cases hc:GK f.cl (f.res.map fun n=>at_ n e) with
    | true=>rw [hc,cond_true,AJ] at h2; exact ⟨by simp,by rw [← h2]; exact hc,h2.symm⟩
    | false=>rw [hc,cond_false] at h2; cases h2
   | r=>
    simp only at h2
    cases hc:GK f.cl (f.res.map fun n=>at_ n e) with
    | true=>rw [hc,cond_true,AJ] at h2; exact ⟨by simp,by rw [← h2]; exact hc,h2.symm⟩
    | false=>rw [hc,cond_false] at h2; cases h2
  obtain ⟨h4,h5,h6⟩:=h3
  refine ⟨⟨hl,h5⟩,Ir hF n _ h1 ?_⟩
  have he:rs=f.res.map (Env.E e):=h6.trans (List.map_congr_left fun n _=>Oz n e)
  cases x with
  | ex j=>exact (h4 j rfl).elim
  | n=>exact ⟨trivial,he⟩
  | r=>exact ⟨trivial,he⟩
 ·cases h
noncomputable def Ji (T:Nat→Option IF) (n d:Nat):Nat→List D→Option (List D):=
 Nat.rec (motive:=fun _=>Nat→List D→Option (List D)) (fun _ _=>none) (fun _ ih k ds=>(T k).bind fun f=>Pt ih n f ds) d
theorem WK {T:Nat→Option IF} (hT:∀ k f ds rs,T k=some f→Body K f ds rs→K k ds rs) (n:Nat):∀ (d k:Nat) (ds rs:List D),Ji T n d k ds=some rs→K k ds rs
 | 0,_,_,_,h=>by cases h
 | d+1,k,ds,rs,h=>by
  change ((T k).bind fun f=>Pt (Ji T n d) n f ds)=some rs at h
  simp only [AQ] at h
  obtain ⟨f,h1,h2⟩:=h
  exact hT _ _ _ _ h1 (AJU (WK hT n d) h2)
end Go.Cat
namespace Go.Cat
class Has (K:Nat→List D→List D→Prop) (k:Nat) (f:outParam IF):Prop where
 h:∀ ds rs,Body K f ds rs→K k ds rs
class NQ (K:Nat→List D→List D→Prop) (l:List (Nat×IF)):Prop where
 h:∀ k f,(k,f)∈l→∀ ds rs,Body K f ds rs→K k ds rs
instance {K:Nat→List D→List D→Prop}:NQ K []:=⟨by simp⟩
instance {K:Nat→List D→List D→Prop} {k:Nat} {f:IF} {l:List (Nat×IF)} [a:Has K k f] [b:NQ K l]:NQ K ((k,f)::l):=by
 refine ⟨fun k' f' h=>?_⟩
 rcases A5.1 h with h | h
 ·cases h; exact a.h
 ·exact b.h _ _ h
noncomputable def JL (l:List (Nat×IF)) (k:Nat):Option IF:=
 List.rec (motive:=fun _=>Option IF) none (fun x _ ih=>bif Nat.beq x.1 k then some x.2 else ih) l
theorem Uk {k:Nat} {f:IF}:∀ {l:List (Nat×IF)},JL l k=some f→(k,f)∈l
 | [],h=>by cases h
 | (j,g)::r,h=>by
  change (bif Nat.beq j k then some g else JL r k)=some f at h
  cases hb:Nat.beq j k with
  | true=>rw [hb,cond_true] at h; cases h; rw [Nat.eq_of_beq_eq_true hb]; simp
  | false=>rw [hb,cond_false] at h; exact BC _ (Uk h)
theorem run {K:Nat→List D→List D→Prop} (l:List (Nat×IF)) [NQ K l] (n d k:Nat) {ds rs:List D} (h:Ji (JL l) n d k ds=some rs):K k ds rs:=
 WK (fun k f ds rs hk hb=>NQ.h k f (Uk hk) ds rs hb) n d k ds rs h
end Go.Cat
namespace Go.Cat
section
variable {K:Nat→List D→List D→Prop}
theorem Yi {p:Pr} {e:Env} {Q Q':Env→Prop} (hQ:∀ e,Q e→Q' e) (h:AY K p e Q):AY K p e Q':=by
 unfold AY at*
 split at h
 ·exact hQ _ h
 ·obtain ⟨rs,h1,h2,h3⟩:=h; exact ⟨rs,h1,h2,hQ _ h3⟩
 ·obtain ⟨h0,rs,h1,h2,h3⟩:=h; exact ⟨h0,rs,h1,h2,hQ _ h3⟩
 ·split at h
  ·exact hQ _ h
  ·exact h.elim
 ·split at h
  ·exact hQ _ h
  ·exact h.elim
 ·split at h
  ·exact hQ _ h
  ·exact h.elim
 ·split at h
  ·exact hQ _ h
  ·exact h.elim
 ·split at h
  ·exact hQ _ h
  ·exact h.elim
theorem O1:∀ {its:List It} {e:Env} {Q Q':Env→Prop} (_:∀ e,Q e→Q' e) (_:DZ K its e Q),DZ K its e Q'
 | [],e,Q,Q',hQ,h=>hQ _ h
 | it::its,e,Q,Q',hQ,h=>by
  simp only [DZ,GG] at*
  split at h
  ·exact Yi (fun e h=>O1 hQ h) h
  ·exact O1 hQ h
  ·exact h
theorem V0 {R:(X→Env→Prop)→Env→Prop} (hR:∀ Q Q' e,(∀ x e,Q x e→Q' x e)→R Q e→R Q' e):∀ (n:Nat) {e:Env} {Q Q':X→Env→Prop} (_:∀ x e,Q x e→Q' x e) (_:Cz R n Q e),Cz R n Q' e
 | 0,_,_,_,_,h=>h.elim
 | n+1,e,Q,Q',hQ,h=>by
  simp only [Cz] at*
  refine hR _ _ _ ?_ h
  intro x e h
  cases x with
  | n=>exact V0 hR n hQ h
  | ex j=>exact hQ _ _ h
  | r=>exact hQ _ _ h
theorem Ck:∀ (s:S) {e:Env} {Q Q':X→Env→Prop} (_:∀ x e,Q x e→Q' x e) (_:wpS K s Q e),wpS K s Q' e
 | .skip,e,Q,Q',hQ,h=>hQ _ _ h
 | .reg its out,e,Q,Q',hQ,h=>O1 (fun e h=>hQ _ _ h) h
 | .seq a b,e,Q,Q',hQ,h=>by
  refine Ck a ?_ h
  intro x e h
  cases x with
  | n=>exact Ck b hQ h
  | ex j=>exact hQ _ _ h
  | r=>exact hQ _ _ h
 | .cond c a b,e,Q,Q',hQ,h=>by
  simp only [wpS] at*
  split at h
  ·exact Ck a hQ h
  ·exact Ck b hQ h
  ·exact h
 | .block id b,e,Q,Q',hQ,h=>by
  refine Ck b ?_ h
  intro x e h
  cases x with
  | n=>exact hQ _ _ h
  | ex j=>
   show if j=id then _ else _
   have h':if j=id then Q .n e else Q (.ex j) e:=h
   split
   ·rename_i hj; rw [if_pos hj] at h'; exact hQ _ _ h'
   ·rename_i hj; rw [if_neg hj] at h'; exact hQ _ _ h'
  | r=>exact hQ _ _ h
 | .loop b,e,Q,Q',hQ,h=>by
  obtain ⟨n,h⟩:=h
  exact ⟨n,V0 (R:=wpS K b) (fun Q Q' e hQ h=>Ck b hQ h) n hQ h⟩
 | .exit id,e,Q,Q',hQ,h=>hQ _ _ h
 | .ret,e,Q,Q',hQ,h=>hQ _ _ h
theorem AGQ {b:S} {Q:X→Env→Prop} {e:Env} (I:Nat→Env→Prop) (m:Nat) (h0:I m e)
  (step:∀ m e,I m e→wpS K b (fun x e'=>match x with | .n=>∃ m',m' < m∧I m' e' | x=>Q x e') e):wpS K (.loop b) Q e:=by
 suffices ∀ (m:Nat) (e:Env),I m e→∃ n,Cz (wpS K b) n Q e by exact this m e h0
 intro m
 induction m using Nat.strongRecOn with
 | ind m ih=>
  intro e hI
  have hs:=step m e hI
  -- all rounds that may follow have a bound; take the number for each,and the largest: by choice of one end,since a body may end in many ways,the bound is m
  suffices ∀ (m:Nat) (e:Env),I m e→Cz (wpS K b) (m+1) Q e from ⟨m+1,this m e hI⟩
  clear hs hI ih e m
  intro m
  induction m using Nat.strongRecOn with
  | ind m ih=>
   intro e hI
   simp only [Cz]
   refine Ck b ?_ (step m e hI)
   intro x e h
   cases x with
   | n=>
    obtain ⟨m',hm,h⟩:=h
    have:=ih m' hm e h
    exact wpLoop_le (by omega) this
   | ex j=>exact h
   | r=>exact h
where
 wpLoop_le {b:S} {Q:X→Env→Prop}:∀ {n n':Nat} {e:Env} (_:n≤n') (_:Cz (wpS K b) n Q e),Cz (wpS K b) n' Q e
  | 0,_,_,_,h=>h.elim
  | n+1,0,_,hn,_=>by omega
  | n+1,n'+1,e,hn,h=>by
   simp only [Cz] at*
   refine Ck b ?_ h
   intro x e h
   cases x with
   | n=>exact wpLoop_le (by omega) h
   | ex j=>exact h
   | r=>exact h
end
noncomputable def Ez (n:Nat) (p:Nat→Bool):Bool:=Nat.rec (motive:=fun _=>Bool) true (fun n ih=>bif p n then ih else false) n
theorem Ep {p:Nat→Bool}:∀ {n:Nat},Ez n p=true→∀ i,i<n→p i=true
 | 0,_,i,hi=>by omega
 | n+1,h,i,hi=>by
  change (bif p n then Ez n p else false)=true at h
  cases hp:p n with
  | false=>rw [hp,cond_false] at h; cases h
  | true=>
  rw [hp,cond_true] at h
  rcases CC i n with k | k
  ·exact Ep h i k
  ·have:i=n:=by omega
   subst this; exact hp
end Go.Cat
