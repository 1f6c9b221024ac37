/-
 A search by breadth over rotations: what it reaches.
-/
import Derived.Test.YtnjjceodpbhlmaaGreatPfOrdM
import Derived.Test.YtnjjceodpbhlmaaGreatIrHas
set_option linter.unusedSimpArgs false
set_option linter.unusedVariables false
namespace Go.Cat
theorem S8:∀ {x z:BT} {v:Nat},v<x.n→BB x (v:Nat)=some z→∃ u:Nat,u<x.n∧Bk z (u:Nat)=some x
 | .lf,_,v,h,_=>by simp [BT.n] at h
 | .nd l r,z,v,h,hz=>by
  have h':=h
  simp only [BT.n] at h'
  simp only [BB] at hz
  rw [if_neg (by omega)] at hz
  by_cases q:(v:Int)<l.n
  ·rw [if_pos q] at hz
   obtain ⟨y,hy,rfl⟩:=A7.1 hz
   obtain ⟨u,hu,e⟩:=S8 (by omega) hy
   have hn:=Dx hy
   refine ⟨u,by simp only [BT.n]; omega,?_⟩
   simp only [Bk]
   rw [if_neg (by omega),if_pos (by omega),e]; rfl
  ·rw [if_neg q] at hz
   by_cases q2:(v:Int)=l.n
   ·rw [if_pos q2] at hz
    cases l with
    | lf=>cases hz
    | nd a b=>
     simp only [AJ] at hz
     subst hz
     refine ⟨a.n,by simp only [BT.n]; omega,?_⟩
     simp only [Bk]
     rw [if_neg (by omega),if_neg (by omega),if_pos trivial]
   ·rw [if_neg q2] at hz
    obtain ⟨y,hy,rfl⟩:=A7.1 hz
    rw [show (v:Int)-l.n-1=((v-l.n-1:Nat):Int) by omega] at hy
    obtain ⟨u,hu,e⟩:=S8 (by omega) hy
    refine ⟨u+l.n+1,by simp only [BT.n]; omega,?_⟩
    simp only [Bk]
    rw [if_neg (by omega),if_neg (by omega),if_neg (by omega),show ((u+l.n+1:Nat):Int)-l.n-1=(u:Nat) by omega,e]; rfl
theorem ACR {x z:BT} {v:Nat} (hv:v<x.n) (h:BB x (v:Nat)=some z):z∈Bu x:=by
 simp only [Bu,CV,A8,List.mem_filterMap,List.mem_range]
 exact .inl ⟨v,hv,h⟩
theorem AOE {x z:BT} {v:Nat} (hv:v<x.n) (h:Bk x (v:Nat)=some z):z∈Bu x:=by
 simp only [Bu,CV,A8,List.mem_filterMap,List.mem_range]
 exact .inr ⟨v,hv,h⟩
theorem KM {x z:BT} (h:z∈Bu x):z.n=x.n:=by
 simp only [Bu,CV,A8,List.mem_filterMap,List.mem_range] at h
 rcases h with ⟨v,_,h⟩ | ⟨v,_,h⟩
 ·exact Dx h
 ·exact Hg h
def E7:Nat→BT
 | 0=>.lf
 | n+1=>.nd .lf (E7 n)
theorem UG:∀ {n:Nat},(E7 n).n=n
 | 0=>rfl
 | n+1=>by simp only [E7,BT.n,UG]; omega
theorem ZD:∀ {n i:Nat},i<n→AD (E7 n).w (i:Nat)=(n:Int)-1-i
 | 0,i,h=>by omega
 | n+1,0,_=>by simp [E7,BT.w,AD,UG]
 | n+1,i+1,h=>by
  have:=ZD (n:=n) (i:=i) (by omega)
  simp [E7,BT.w,AD] at this ⊢
  rw [this]; omega
theorem ALJ {x:BT}:C9 x (E7 x.n):=by
 refine ⟨UG.symm,fun i hi=>?_⟩
 have:=FK hi
 rw [ZD hi]
 omega
theorem Re {P:BT→Prop} (hc:∀ z u,P z→u∈Bu z→P u):∀ (k:Nat) (x:BT),(E7 x.n).w.sum-x.w.sum≤k→(P x→P (E7 x.n))∧(P (E7 x.n)→P x)
 | k,x,hk=>by
  by_cases q:x=E7 x.n
  ·rw [← q]; exact ⟨id,id⟩
  ·obtain ⟨v,z,hv,hz,hl⟩:=Vo (x:=x) (y:=E7 x.n) ALJ (fun e=>q (PU e))
   have h1:=ZT hv hz
   have h2:=Mf hl
   have hn:=Dx hz
   obtain ⟨u,hu,e⟩:=S8 hv hz
   cases k with
   | zero=>omega
   | succ k=>
    have ih:=Re hc k z (by rw [hn]; omega)
    rw [hn] at ih
    exact ⟨fun h=>ih.1 (hc _ _ h (ACR hv hz)),fun h=>hc _ _ (ih.2 h) (AOE (by omega) e)⟩
theorem conn {P:BT→Prop} (hc:∀ z u,P z→u∈Bu z→P u) {a b:BT} (ha:P a) (hn:b.n=a.n):P b:=by
 have h1:=Re hc ((E7 a.n).w.sum-a.w.sum).toNat a (by omega)
 have h2:=Re hc ((E7 b.n).w.sum-b.w.sum).toNat b (by omega)
 exact h2.2 (by rw [hn]; exact h1.1 ha)
def Ft:Nat→Nat→List BT
 | 0,_=>[]
 | _+1,0=>[.lf]
 | f+1,n+1=>(List.range (n+1)).flatMap fun i=>(Ft f i).flatMap fun l=>(Ft f (n-i)).map fun r=>.nd l r
theorem Lz:∀ {x:BT} {f:Nat},x.n<f→x∈Ft f x.n
 | .lf,f+1,_=>by simp [BT.n,Ft]
 | .nd l r,f+1,h=>by
  have h':=h
  simp only [BT.n] at h'
  simp only [BT.n,Ft,List.mem_flatMap,List.mem_range,List.mem_map]
  refine ⟨l.n,by omega,l,Lz (by omega),r,?_,rfl⟩
  rw [show l.n+r.n-l.n=r.n by omega]
  exact Lz (by omega)
theorem AQQ:∀ n,n≤5→(Ft 6 n).length≤42:=by decide
theorem Qa:∀ {l m:List (List Nat)},l.Nodup→(∀ x∈l,x∈m)→l.length≤m.length
 | [],m,_,_=>by simp
 | a::l,m,h,hs=>by
  have ha:=hs a (List.mem_cons_self ..)
  have h2:=List.nodup_cons.1 h
  have:=Qa (l:=l) (m:=m.erase a) h2.2 (fun x hx=>by
   have hne:x≠a:=by rintro rfl; exact h2.1 hx
   exact (List.mem_erase_of_ne hne).2 (hs x (BC _ hx)))
  have e:=List.length_erase_of_mem ha
  have:0<m.length:=List.length_pos_of_mem ha
  simp only [A6]
  omega
def AX (l:List BT) (i:Nat):BT:=l.getD i .lf
theorem H8 {l:List BT} {i:Nat} (h:i<l.length):AX l i=l[i]:=by simp [AX,h]
theorem FO {l:List BT} {i:Nat} (h:i<l.length):AX l i∈l:=by rw [H8 h]; exact List.getElem_mem h
theorem EL {l m:List BT} {i:Nat} (h:i<l.length):AX (l++m) i=AX l i:=by simp only [AX,BP]; rw [D4 h]
theorem IJ {l m:List Int} {i:Nat} (h:i<l.length):AD (l++m) (i:Nat)=AD l (i:Nat):=by simp only [AD,CB,BP]; rw [D4 h]
theorem Gj {l:List BT} {i:Nat} (h:i<l.length):AL (l.map BT.t) (i:Nat)=(AX l i).t:=by simp [AL,AX,h]
def Bv (i:Nat) (S:List BT×List Int) (u:BT):List BT×List Int:=if u.t∈S.1.map BT.t then S else (S.1++[u],S.2++[(i:Int)])
def bfR (i:Nat) (S:List BT×List Int):List BT×List Int:=(Bu (AX S.1 i)).foldl (Bv i) S
def AO (a:BT):Nat→List BT×List Int
 | 0=>([a],[-1])
 | i+1=>bfR i (AO a i)
def Du (S T:List BT×List Int):Prop:=∃ r q,T.1=S.1++r∧T.2=S.2++q
theorem Du.R3 {S:List BT×List Int}:Du S S:=⟨[],[],by simp,by simp⟩
theorem Du.tr {S T U:List BT×List Int} (h:Du S T) (h2:Du T U):Du S U:=by
 obtain ⟨r,q,e1,e2⟩:=h
 obtain ⟨r2,q2,e3,e4⟩:=h2
 exact ⟨r++r2,q++q2,by rw [e3,e1,Bw],by rw [e4,e2,Bw]⟩
theorem AEX {i:Nat} {S:List BT×List Int} {u:BT}:Du S (Bv i S u):=by
 unfold Bv
 split
 ·exact Du.R3
 ·exact ⟨[u],[(i:Int)],rfl,rfl⟩
theorem Pk {i:Nat}:∀ {l:List BT} {S:List BT×List Int},Du S (l.foldl (Bv i) S)
 | [],S=>Du.R3
 | _::l,S=>AEX.tr (Pk (l:=l))
theorem Yj {a:BT} {i:Nat}:∀ {j:Nat},Du (AO a i) (AO a (i+j))
 | 0=>Du.R3
 | j+1=>(Yj (j:=j)).tr Pk
theorem MD {a:BT} {i j:Nat} (h:i≤j):Du (AO a i) (AO a j):=by
 have:=Yj (a:=a) (i:=i) (j:=j-i)
 rwa [show i+(j-i)=j by omega] at this
structure BI (a:BT) (S:List BT×List Int):Prop where
 len:S.2.length=S.1.length
 ns:∀ z∈S.1,z.n=a.n
 nd:(S.1.map BT.t).Nodup
 hd:AX S.1 0=a∧AD S.2 0=-1∧0<S.1.length
 par:∀ k:Nat,0<k→k<S.1.length→0≤AD S.2 (k:Nat)∧AD S.2 (k:Nat)<k
theorem BI.add {a:BT} {S:List BT×List Int} {i:Nat} {u:BT} (h:BI a S) (hu:u.n=a.n) (hi:i<S.1.length):BI a (Bv i S u):=by
 obtain ⟨h1,h2,h3,⟨h4,h5,h6⟩,h7⟩:=h
 unfold Bv
 split
 ·exact ⟨h1,h2,h3,⟨h4,h5,h6⟩,h7⟩
 ·rename_i hn
  refine ⟨by simp [h1],fun z hz=>?_,?_,⟨?_,?_,by simp⟩,fun k hk hk2=>?_⟩
  ·rcases A8.1 hz with q | q
   ·exact h2 z q
   ·rw [List.mem_singleton.1 q]; exact hu
  ·simp only [List.map_append,List.map_cons,List.map_nil]
   refine List.nodup_append.2 ⟨h3,by simp,?_⟩
   intro x hx y hy
   rw [List.mem_singleton.1 hy]
   rintro rfl
   exact hn hx
  ·rw [EL h6]; exact h4
  ·have:=IJ (l:=S.2) (m:=[(i:Int)]) (i:=0) (by omega)
   simp only [Int.ofNat_eq_natCast,Int.natCast_zero] at this
   exact this.trans h5
  ·simp only [Ad,A6,Aq] at hk2
   by_cases q:k<S.1.length
   ·rw [IJ (by omega)]; exact h7 k hk q
   ·have e:AD (S.2++[(i:Int)]) (k:Nat)=i:=by
     obtain rfl:k=S.2.length:=by omega
     simp [AD]
    rw [e]; omega
theorem BI.fold {a:BT} {i:Nat}:∀ {l:List BT} {S:List BT×List Int},BI a S→(∀ u∈l,u.n=a.n)→i<S.1.length→BI a (l.foldl (Bv i) S)
 | [],S,h,_,_=>h
 | u::l,S,h,hl,hi=>by
  refine BI.fold (l:=l) (h.add (hl u (List.mem_cons_self ..)) hi) (fun x hx=>hl x (BC _ hx)) ?_
  obtain ⟨r,q,e1,_⟩:=AEX (i:=i) (S:=S) (u:=u)
  rw [e1,Ad]; omega
theorem ANS:Bu .lf=[]:=rfl
theorem E5 {a:BT}:∀ i,BI a (AO a i)
 | 0=>⟨rfl,by simp [AO],by simp [AO],⟨rfl,rfl,by simp [AO]⟩,fun k h h2=>by simp [AO] at h2; omega⟩
 | i+1=>by
  have h:=E5 (a:=a) i
  simp only [AO,bfR]
  by_cases q:i<(AO a i).1.length
  ·exact h.fold (fun u hu=>(KM hu).trans (h.ns _ (FO q))) q
  ·have e:AX (AO a i).1 i=.lf:=by simp [AX,Nat.le_of_not_lt q]
   rw [e,ANS]
   exact h
theorem BI.KL {a:BT} {S:List BT×List Int} (h:BI a S) (ha:a.n≤5):S.1.length≤42:=by
 have h1:=Qa (l:=S.1.map BT.t) (m:=(Ft 6 a.n).map BT.t) h.nd (fun x hx=>by
  obtain ⟨z,hz,rfl⟩:=List.mem_map.1 hx
  refine List.mem_map.2 ⟨z,?_,rfl⟩
  have:=Lz (x:=z) (f:=6) (by have:=h.ns z hz; omega)
  rw [h.ns z hz] at this
  exact this)
 have h2:=AQQ a.n ha
 simp only [List.length_map] at h1
 omega
theorem AJ0 {i:Nat} {S:List BT×List Int} {u:BT}:u.t∈(Bv i S u).1.map BT.t:=by
 unfold Bv
 split
 ·assumption
 ·simp
theorem Du.mem {S T:List BT×List Int} (h:Du S T) {t:List Nat} (ht:t∈S.1.map BT.t):t∈T.1.map BT.t:=by
 obtain ⟨r,q,e,_⟩:=h
 rw [e,List.map_append]
 exact Ay _ ht
theorem XV {i:Nat} {u:BT}:∀ {l:List BT} {S:List BT×List Int},u∈l→u.t∈(l.foldl (Bv i) S).1.map BT.t
 | v::l,S,h=>by
  rcases A5.1 h with rfl | h
  ·exact (Pk (l:=l)).mem AJ0
  ·exact XV (l:=l) h
theorem AMB {a:BT} {i j:Nat} (h:j<i) (hj:j<(AO a j).1.length) {u:BT} (hu:u∈Bu (AX (AO a i).1 j)):u.t∈(AO a i).1.map BT.t:=by
 obtain ⟨r,q,e,_⟩:=MD (a:=a) (i:=j) (j:=i) (by omega)
 rw [e,EL hj] at hu
 have h2:u.t∈(AO a (j+1)).1.map BT.t:=by
  simp only [AO,bfR]
  exact XV hu
 exact (MD (a:=a) (i:=j+1) (j:=i) (by omega)).mem h2
theorem S0 {P:Nat→Prop}:∀ {n:Nat},P n→∃ m,m≤n∧P m∧∀ j,j<m→¬ P j
 | n,h=>by
  by_cases q:∃ j,j<n∧P j
  ·obtain ⟨j,hj,hp⟩:=q
   obtain ⟨m,h1,h2,h3⟩:=S0 hp
   exact ⟨m,by omega,h2,h3⟩
  ·exact ⟨n,Nat.le_refl _,h,fun j hj hp=>q ⟨j,hj,hp⟩⟩
termination_by n=>n
theorem Yw {a:BT} (ha:a.n≤5):∃ N,N≤42∧(AO a N).1.length=N∧(∀ j,j<N→j<(AO a j).1.length)∧∀ b:BT,b.n=a.n→b.t∈(AO a N).1.map BT.t:=by
 obtain ⟨N,h1,h2,h3⟩:=S0 (P:=fun N=>(AO a N).1.length≤N) (n:=42) ((E5 42).KL ha)
 have hN:(AO a N).1.length=N:=by
  have h0:N≠0:=by
   rintro rfl
   simp [AO] at h2
  obtain ⟨M,rfl⟩:∃ M,N=M+1:=⟨N-1,by omega⟩
  have h4:=h3 M (by omega)
  obtain ⟨r,q,e,_⟩:=MD (a:=a) (i:=M) (j:=M+1) (by omega)
  have h5:(AO a (M+1)).1.length=(AO a M).1.length+r.length:=by rw [e,Ad]
  omega
 have h3':∀ j,j<N→j<(AO a j).1.length:=fun j hj=>by have:=h3 j hj; omega
 refine ⟨N,h1,hN,h3',fun b hb=>?_⟩
 refine conn (P:=fun z=>z.t∈(AO a N).1.map BT.t) (fun z u hz hu=>?_) (a:=a) ?_ hb
 ·obtain ⟨y,hy,e⟩:=List.mem_map.1 hz
  rw [← Jq e] at hu
  obtain ⟨j,hj,e2⟩:=List.getElem_of_mem hy
  rw [← e2,← H8 hj] at hu
  exact AMB (by omega) (h3' j (by omega)) hu
 ·have:=(E5 (a:=a) N).hd
  have h5:=FO this.2.2
  rw [this.1] at h5
  exact List.mem_map.2 ⟨a,h5,rfl⟩
def CM (S:List BT×List Int):Nat→Nat→List (List Nat)
 | 0,_=>[]
 | f+1,k=>(if AD S.2 (k:Nat)<0 then [] else CM S f (AD S.2 (k:Nat)).toNat)++[(AX S.1 k).t]
theorem KV {S:List BT×List Int}:∀ {f k:Nat},(CM S f k).length≤f
 | 0,_=>by simp [CM]
 | f+1,k=>by
  simp only [CM,Ad,A6,Aq]
  split
  ·simp
  ·have:=KV (S:=S) (f:=f) (k:=(AD S.2 (k:Nat)).toNat); omega
theorem P9 {a:BT} {S:List BT×List Int} (h:BI a S):∀ {f k:Nat},k<f→k<S.1.length→CM S f k=CM S (k+1) k
 | f+1,k,hf,hk=>by
  simp only [CM]
  by_cases q:AD S.2 (k:Nat)<0
  ·rw [if_pos q,if_pos q]
  ·rw [if_neg q,if_neg q]
   have hk0:0<k:=by
    rcases Nat.eq_zero_or_pos k with rfl | h0
    ·exact absurd (show AD S.2 ((0:Nat):Int)<0 by have:=h.hd.2.1; simp only [Int.ofNat_eq_natCast,Int.natCast_zero]; omega) q
    ·exact h0
   have hp:=h.par k hk0 hk
   rw [P9 h (f:=f) (by omega) (by omega),P9 h (f:=k) (by omega) (by omega)]
termination_by f=>f
theorem ADO {a:BT} {S T:List BT×List Int} (h:BI a S) (hp:Du S T):∀ {f k:Nat},k<S.1.length→CM S f k=CM T f k
 | 0,_,_=>rfl
 | f+1,k,hk=>by
  obtain ⟨r,q,e1,e2⟩:=hp
  simp only [CM]
  have hl:=h.len
  have ea:AD T.2 (k:Nat)=AD S.2 (k:Nat):=by rw [e2,IJ (by omega)]
  have eb:AX T.1 k=AX S.1 k:=by rw [e1,EL hk]
  rw [ea,eb]
  by_cases q:AD S.2 (k:Nat)<0
  ·rw [if_pos q,if_pos q]
  ·rw [if_neg q,if_neg q]
   have hk0:0<k:=by
    rcases Nat.eq_zero_or_pos k with rfl | h0
    ·exact absurd (show AD S.2 ((0:Nat):Int)<0 by have:=h.hd.2.1; simp only [Int.ofNat_eq_natCast,Int.natCast_zero]; omega) q
    ·exact h0
   have hp2:=h.par k hk0 hk
   rw [ADO h ⟨r,_,e1,e2⟩ (f:=f) (by omega)]
end Go.Cat
namespace Go.Cat
variable {K:Nat→List D→List D→Prop}
def Er (x y:BT):Bool:=decide (x.n=y.n)&&(List.range x.n).all fun i:Nat=>decide (AD x.w (i:Nat)≤AD y.w (i:Nat))
theorem FL {x y:BT}:Er x y=true↔C9 x y:=by
 simp only [Er,C9,Ac,Aj,BD,List.mem_range]
theorem ACZ {x y:BT} {i:Nat} (h:i<x.n) (h2:AD y.w (i:Nat)<AD x.w (i:Nat)):Er x y=false:=by
 rw [Bool.eq_false_iff]
 intro q
 have:=(FL.1 q).2 i h
 omega
theorem AF1 {x y:BT} (h:x.n≠y.n):Er x y=false:=by
 rw [Bool.eq_false_iff]
 exact fun q=>h (FL.1 q).1
theorem Ja [HA K] {x y:BT} {m:Int} (h:x.n≤8) (h2:y.n≤8) (hm:0≤m∧m≤8):K 367 [.s x.t,.s y.t,.n m] [.b (decide ((x.n:Int)≤m)&&decide (x.n=y.n))]:=by
 refine AG (f:=Dl) rfl ?_; simp only [Dl,zu]
 simp (disch:=omega) only [AA]
 refine AE (G1 (K:=K) h) rfl ?_
 by_cases h3:(x.n:Int)≤m
 ·simp (disch:=omega) only [AA]
  refine AE (G1 (K:=K) h2) rfl ?_
  simp (disch:=omega) only [AA]
  by_cases h4:x.n=y.n
  ·simp [h3,h4]
  ·simp [h3,h4]
   omega
 ·rw [decide_eq_false h3]
  simp (disch:=omega) only [AA]
theorem QU [HA K] {x y:BT} (h:x.n≤8) (h2:y.n≤8):K 350 [.s x.t,.s y.t] [.b (Er x y)]:=by
 have lx:=CJ (x:=x)
 have ly:=CJ (x:=y)
 refine AG (f:=GW) rfl ?_; simp only [GW,zu]
 simp (disch:=omega) only [AA]
 refine AE (Ja (K:=K) (m:=8) h h2 (by omega)) rfl ?_
 have e8:decide ((x.n:Int)≤8)=true:=decide_eq_true (by omega)
 by_cases h3:x.n=y.n
 ·have e9:decide (x.n=y.n)=true:=decide_eq_true h3
  rw [e8,e9]
  simp (disch:=omega) only [AA]
  refine AE (w_i (K:=K) h) rfl ?_
  simp (disch:=omega) only [AA]
  refine AE (w_i (K:=K) h2) rfl ?_
  simp (disch:=omega) only [AA]
  refine Ag (fun i=>∀ j:Nat,j<i→AD x.w (j:Nat)≤AD y.w (j:Nat)) (fun i=>[.u,.u,.u,LI x.w,LI y.w,.u,.u,.n x.w.length,.n i,.u,.u]) x.w.length (by omega) rfl (fun i hi hP=>?_) (fun hP=>?_)
  ·by_cases q:AD x.w (i:Nat)≤AD y.w (i:Nat)
   ·simp (disch:=omega) only [AA]
    exact CH hP q
   ·simp (disch:=omega) only [AA]
    rw [ACZ (i:=i) (by omega) (by omega)]
  ·simp (disch:=omega) only [AA]
   rw [FL.2 ⟨h3,fun i hi=>hP i (by omega)⟩]
 ·have e9:decide (x.n=y.n)=false:=decide_eq_false h3
  rw [e8,e9]
  simp (disch:=omega) only [AA]
  rw [AF1 h3]
theorem KP [HA K] {x y:BT} (h:x.n≤8) (h2:y.n≤8):K 365 [.s x.t,.s y.t] [.b (decide (x.n=y.n))]:=by
 have tx:=BT.tl x
 have ty:=BT.tl y
 refine AG (f:=Gb) rfl ?_; simp only [Gb,zu]
 simp (disch:=omega) only [AA]
 refine AE (G6 (K:=K) (s:=x.t)) rfl ?_
 simp (disch:=omega) only [AA,F1 h]
 refine AE (G6 (K:=K) (s:=y.t)) rfl ?_
 simp (disch:=omega) only [AA,F1 h2]
 by_cases h4:x.n=y.n
 ·simp [h4,tx,ty]
 ·simp [h4,tx,ty]
  omega
theorem L0 [HA K] {x y:BT} (h:x.n≤8) (h2:y.n≤8):K 349 [.s x.t,.s y.t] [.b (Er x y)]:=by
 have lx:=CJ (x:=x)
 have ly:=CJ (x:=y)
 refine AG (f:=G0) rfl ?_; simp only [G0,zu]
 simp (disch:=omega) only [AA]
 refine AE (KP (K:=K) h h2) rfl ?_
 by_cases h3:x.n=y.n
 ·have e9:decide (x.n=y.n)=true:=decide_eq_true h3
  rw [e9]
  simp (disch:=omega) only [AA]
  refine AE (w_s (K:=K) h) rfl ?_
  simp (disch:=omega) only [AA]
  refine AE (w_s (K:=K) h2) rfl ?_
  simp (disch:=omega) only [AA]
  refine Ag (fun i=>∀ j:Nat,j<i→AD x.w (j:Nat)≤AD y.w (j:Nat)) (fun i=>[.u,.u,.u,LI x.w,LI y.w,.n i,.u,.u,.u]) x.w.length (by omega) rfl (fun i hi hP=>?_) (fun hP=>?_)
  ·by_cases q:AD x.w (i:Nat)≤AD y.w (i:Nat)
   ·simp (disch:=omega) only [AA]
    exact CH hP q
   ·simp (disch:=omega) only [AA]
    rw [ACZ (i:=i) (by omega) (by omega)]
  ·simp (disch:=omega) only [AA]
   rw [FL.2 ⟨h3,fun i hi=>hP i (by omega)⟩]
 ·have e9:decide (x.n=y.n)=false:=decide_eq_false h3
  rw [e9]
  simp (disch:=omega) only [AA]
  rw [AF1 h3]
theorem AIF [HA K] {a b:List Nat} {m:Int} (h:BU a=false):K 367 [.s a,.s b,.n m] [.b false]:=by
 refine AG (f:=Dl) rfl ?_; simp only [Dl,zu]
 simp (disch:=omega) only [AA]
 refine AE (JS (K:=K) h) rfl ?_
 simp (disch:=omega) only [AA]
theorem ASD [HA K] {x:BT} {b:List Nat} (hx:x.n≤8) (h:BU b=false):K 367 [.s x.t,.s b,.n 8] [.b false]:=by
 refine AG (f:=Dl) rfl ?_; simp only [Dl,zu]
 simp (disch:=omega) only [AA]
 refine AE (G1 (K:=K) hx) rfl ?_
 simp (disch:=omega) only [AA]
 refine AE (JS (K:=K) h) rfl ?_
 simp (disch:=omega) only [AA]
theorem SQ [HA K] {a b:List Nat} (h:BU a=false):K 365 [.s a,.s b] [.b false]:=by
 refine AG (f:=Gb) rfl ?_; simp only [Gb,zu]
 simp (disch:=omega) only [AA]
 refine AE (G6 (K:=K) (s:=a)) rfl ?_
 simp (disch:=omega) only [AA,h]
theorem R6 [HA K] {x:BT} {b:List Nat} (hx:x.n≤8) (h:BU b=false):K 365 [.s x.t,.s b] [.b false]:=by
 refine AG (f:=Gb) rfl ?_; simp only [Gb,zu]
 simp (disch:=omega) only [AA]
 refine AE (G6 (K:=K) (s:=x.t)) rfl ?_
 simp (disch:=omega) only [AA,F1 hx]
 refine AE (G6 (K:=K) (s:=b)) rfl ?_
 simp (disch:=omega) only [AA,h]
end Go.Cat
