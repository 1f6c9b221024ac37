/-
 A search by breadth over rotations: what it reaches.
-/
import Derived.Test.YtihgdjeahjfhfaaGreatPfOrdS
set_option linter.unusedSimpArgs false
set_option linter.unusedVariables false
namespace Go.Cat
theorem rl_rr:∀ {x z:BT} {v:Nat},v<x.n→rrB x (v:Nat)=some z→∃ u:Nat,u<x.n∧rlB z (u:Nat)=some x
 | .lf,_,v,h,_=>by simp [BT.n] at h
 | .nd l r,z,v,h,hz=>by
  have h':=h
  simp only [BT.n] at h'
  simp only [rrB] at hz
  rw [if_neg (by omega)] at hz
  by_cases q:(v:Int)<l.n
  ·rw [if_pos q] at hz
   obtain ⟨y,hy,rfl⟩:=qms.1 hz
   obtain ⟨u,hu,e⟩:=rl_rr (by omega) hy
   have hn:=rrB_n hy
   refine ⟨u,by simp only [BT.n]; omega,?_⟩
   simp only [rlB]
   rw [if_neg (by omega),if_pos (by omega),e]; rfl
  ·rw [if_neg q] at hz
   by_cases q2:(v:Int)=l.n
   ·rw [if_pos q2] at hz
    cases l with
    | lf=>cases hz
    | nd a b=>
     simp only [qsj] at hz
     subst hz
     refine ⟨a.n,by simp only [BT.n]; omega,?_⟩
     simp only [rlB]
     rw [if_neg (by omega),if_neg (by omega),if_pos trivial]
   ·rw [if_neg q2] at hz
    obtain ⟨y,hy,rfl⟩:=qms.1 hz
    rw [show (v:Int)-l.n-1=((v-l.n-1:Nat):Int) by omega] at hy
    obtain ⟨u,hu,e⟩:=rl_rr (by omega) hy
    refine ⟨u+l.n+1,by simp only [BT.n]; omega,?_⟩
    simp only [rlB]
    rw [if_neg (by omega),if_neg (by omega),if_neg (by omega),show ((u+l.n+1:Nat):Int)-l.n-1=(u:Nat) by omega,e]; rfl
theorem nbL_r {x z:BT} {v:Nat} (hv:v<x.n) (h:rrB x (v:Nat)=some z):z∈nbL x:=by
 simp only [nbL,roL,qma,List.mem_filterMap,List.mem_range]
 exact .inl ⟨v,hv,h⟩
theorem nbL_l {x z:BT} {v:Nat} (hv:v<x.n) (h:rlB x (v:Nat)=some z):z∈nbL x:=by
 simp only [nbL,roL,qma,List.mem_filterMap,List.mem_range]
 exact .inr ⟨v,hv,h⟩
theorem nbL_n {x z:BT} (h:z∈nbL x):z.n=x.n:=by
 simp only [nbL,roL,qma,List.mem_filterMap,List.mem_range] at h
 rcases h with ⟨v,_,h⟩ | ⟨v,_,h⟩
 ·exact rrB_n h
 ·exact rlB_n h
def topB:Nat→BT
 | 0=>.lf
 | n+1=>.nd .lf (topB n)
theorem topB_n:∀ {n:Nat},(topB n).n=n
 | 0=>rfl
 | n+1=>by simp only [topB,BT.n,topB_n]; omega
theorem topB_w:∀ {n i:Nat},i<n→atI (topB n).w (i:Nat)=(n:Int)-1-i
 | 0,i,h=>by omega
 | n+1,0,_=>by simp [topB,BT.w,atI,topB_n]
 | n+1,i+1,h=>by
  have:=topB_w (n:=n) (i:=i) (by omega)
  simp [topB,BT.w,atI] at this ⊢
  rw [this]; omega
theorem leW_top {x:BT}:leW x (topB x.n):=by
 refine ⟨topB_n.symm,fun i hi=>?_⟩
 have:=w_end hi
 rw [topB_w hi]
 omega
theorem conn_up {P:BT→Prop} (hc:∀ z u,P z→u∈nbL z→P u):∀ (k:Nat) (x:BT),(topB x.n).w.sum-x.w.sum≤k→(P x→P (topB x.n))∧(P (topB x.n)→P x)
 | k,x,hk=>by
  by_cases q:x=topB x.n
  ·rw [← q]; exact ⟨id,id⟩
  ·obtain ⟨v,z,hv,hz,hl⟩:=up_ex (x:=x) (y:=topB x.n) leW_top (fun e=>q (w_inj e))
   have h1:=rr_sum hv hz
   have h2:=leW_sum hl
   have hn:=rrB_n hz
   obtain ⟨u,hu,e⟩:=rl_rr hv hz
   cases k with
   | zero=>omega
   | succ k=>
    have ih:=conn_up hc k z (by rw [hn]; omega)
    rw [hn] at ih
    exact ⟨fun h=>ih.1 (hc _ _ h (nbL_r hv hz)),fun h=>hc _ _ (ih.2 h) (nbL_l (by omega) e)⟩
theorem conn {P:BT→Prop} (hc:∀ z u,P z→u∈nbL z→P u) {a b:BT} (ha:P a) (hn:b.n=a.n):P b:=by
 have h1:=conn_up hc ((topB a.n).w.sum-a.w.sum).toNat a (by omega)
 have h2:=conn_up hc ((topB b.n).w.sum-b.w.sum).toNat b (by omega)
 exact h2.2 (by rw [hn]; exact h1.1 ha)
def aTf:Nat→Nat→List BT
 | 0,_=>[]
 | _+1,0=>[.lf]
 | f+1,n+1=>(List.range (n+1)).flatMap fun i=>(aTf f i).flatMap fun l=>(aTf f (n-i)).map fun r=>.nd l r
theorem aTf_mem:∀ {x:BT} {f:Nat},x.n<f→x∈aTf f x.n
 | .lf,f+1,_=>by simp [BT.n,aTf]
 | .nd l r,f+1,h=>by
  have h':=h
  simp only [BT.n] at h'
  simp only [BT.n,aTf,List.mem_flatMap,List.mem_range,List.mem_map]
  refine ⟨l.n,by omega,l,aTf_mem (by omega),r,?_,rfl⟩
  rw [show l.n+r.n-l.n=r.n by omega]
  exact aTf_mem (by omega)
theorem aTf_len:∀ n,n≤5→(aTf 6 n).length≤42:=by decide
theorem nd_len:∀ {l m:List (List Nat)},l.Nodup→(∀ x∈l,x∈m)→l.length≤m.length
 | [],m,_,_=>by simp
 | a::l,m,h,hs=>by
  have ha:=hs a (List.mem_cons_self ..)
  have h2:=List.nodup_cons.1 h
  have:=nd_len (l:=l) (m:=m.erase a) h2.2 (fun x hx=>by
   have hne:x≠a:=by rintro rfl; exact h2.1 hx
   exact (List.mem_erase_of_ne hne).2 (hs x (qmc _ hx)))
  have e:=List.length_erase_of_mem ha
  have:0<m.length:=List.length_pos_of_mem ha
  simp only [qlc]
  omega
def btG (l:List BT) (i:Nat):BT:=l.getD i .lf
theorem btG_eq {l:List BT} {i:Nat} (h:i<l.length):btG l i=l[i]:=by simp [btG,h]
theorem btG_mem {l:List BT} {i:Nat} (h:i<l.length):btG l i∈l:=by rw [btG_eq h]; exact List.getElem_mem h
theorem btG_app {l m:List BT} {i:Nat} (h:i<l.length):btG (l++m) i=btG l i:=by simp only [btG,qgd]; rw [qgl h]
theorem atI_ap0 {l m:List Int} {i:Nat} (h:i<l.length):atI (l++m) (i:Nat)=atI l (i:Nat):=by simp only [atI,qtn,qgd]; rw [qgl h]
theorem atS_mapG {l:List BT} {i:Nat} (h:i<l.length):atS (l.map BT.t) (i:Nat)=(btG l i).t:=by simp [atS,btG,h]
def bfA (i:Nat) (S:List BT×List Int) (u:BT):List BT×List Int:=if u.t∈S.1.map BT.t then S else (S.1++[u],S.2++[(i:Int)])
def bfR (i:Nat) (S:List BT×List Int):List BT×List Int:=(nbL (btG S.1 i)).foldl (bfA i) S
def bfS (a:BT):Nat→List BT×List Int
 | 0=>([a],[-1])
 | i+1=>bfR i (bfS a i)
def Pre (S T:List BT×List Int):Prop:=∃ r q,T.1=S.1++r∧T.2=S.2++q
theorem Pre.rfl' {S:List BT×List Int}:Pre S S:=⟨[],[],by simp,by simp⟩
theorem Pre.tr {S T U:List BT×List Int} (h:Pre S T) (h2:Pre T U):Pre S U:=by
 obtain ⟨r,q,e1,e2⟩:=h
 obtain ⟨r2,q2,e3,e4⟩:=h2
 exact ⟨r++r2,q++q2,by rw [e3,e1,qaa],by rw [e4,e2,qaa]⟩
theorem bfA_pre {i:Nat} {S:List BT×List Int} {u:BT}:Pre S (bfA i S u):=by
 unfold bfA
 split
 ·exact Pre.rfl'
 ·exact ⟨[u],[(i:Int)],rfl,rfl⟩
theorem bfF_pre {i:Nat}:∀ {l:List BT} {S:List BT×List Int},Pre S (l.foldl (bfA i) S)
 | [],S=>Pre.rfl'
 | _::l,S=>bfA_pre.tr (bfF_pre (l:=l))
theorem bfS_pre {a:BT} {i:Nat}:∀ {j:Nat},Pre (bfS a i) (bfS a (i+j))
 | 0=>Pre.rfl'
 | j+1=>(bfS_pre (j:=j)).tr bfF_pre
theorem bfS_le {a:BT} {i j:Nat} (h:i≤j):Pre (bfS a i) (bfS a j):=by
 have:=bfS_pre (a:=a) (i:=i) (j:=j-i)
 rwa [show i+(j-i)=j by omega] at this
structure BI (a:BT) (S:List BT×List Int):Prop where
 len:S.2.length=S.1.length
 ns:∀ z∈S.1,z.n=a.n
 nd:(S.1.map BT.t).Nodup
 hd:btG S.1 0=a∧atI S.2 0=-1∧0<S.1.length
 par:∀ k:Nat,0<k→k<S.1.length→0≤atI S.2 (k:Nat)∧atI S.2 (k:Nat)<k
theorem BI.add {a:BT} {S:List BT×List Int} {i:Nat} {u:BT} (h:BI a S) (hu:u.n=a.n) (hi:i<S.1.length):BI a (bfA i S u):=by
 obtain ⟨h1,h2,h3,⟨h4,h5,h6⟩,h7⟩:=h
 unfold bfA
 split
 ·exact ⟨h1,h2,h3,⟨h4,h5,h6⟩,h7⟩
 ·rename_i hn
  refine ⟨by simp [h1],fun z hz=>?_,?_,⟨?_,?_,by simp⟩,fun k hk hk2=>?_⟩
  ·rcases qma.1 hz with q | q
   ·exact h2 z q
   ·rw [List.mem_singleton.1 q]; exact hu
  ·simp only [List.map_append,List.map_cons,List.map_nil]
   refine List.nodup_append.2 ⟨h3,by simp,?_⟩
   intro x hx y hy
   rw [List.mem_singleton.1 hy]
   rintro rfl
   exact hn hx
  ·rw [btG_app h6]; exact h4
  ·have:=atI_ap0 (l:=S.2) (m:=[(i:Int)]) (i:=0) (by omega)
   simp only [Int.ofNat_eq_natCast,Int.natCast_zero] at this
   exact this.trans h5
  ·simp only [qla,qlc,qln] at hk2
   by_cases q:k<S.1.length
   ·rw [atI_ap0 (by omega)]; exact h7 k hk q
   ·have e:atI (S.2++[(i:Int)]) (k:Nat)=i:=by
     obtain rfl:k=S.2.length:=by omega
     simp [atI]
    rw [e]; omega
theorem BI.fold {a:BT} {i:Nat}:∀ {l:List BT} {S:List BT×List Int},BI a S→(∀ u∈l,u.n=a.n)→i<S.1.length→BI a (l.foldl (bfA i) S)
 | [],S,h,_,_=>h
 | u::l,S,h,hl,hi=>by
  refine BI.fold (l:=l) (h.add (hl u (List.mem_cons_self ..)) hi) (fun x hx=>hl x (qmc _ hx)) ?_
  obtain ⟨r,q,e1,_⟩:=bfA_pre (i:=i) (S:=S) (u:=u)
  rw [e1,qla]; omega
theorem nbL_lf:nbL .lf=[]:=rfl
theorem bfS_inv {a:BT}:∀ i,BI a (bfS a i)
 | 0=>⟨rfl,by simp [bfS],by simp [bfS],⟨rfl,rfl,by simp [bfS]⟩,fun k h h2=>by simp [bfS] at h2; omega⟩
 | i+1=>by
  have h:=bfS_inv (a:=a) i
  simp only [bfS,bfR]
  by_cases q:i<(bfS a i).1.length
  ·exact h.fold (fun u hu=>(nbL_n hu).trans (h.ns _ (btG_mem q))) q
  ·have e:btG (bfS a i).1 i=.lf:=by simp [btG,Nat.le_of_not_lt q]
   rw [e,nbL_lf]
   exact h
theorem BI.l42 {a:BT} {S:List BT×List Int} (h:BI a S) (ha:a.n≤5):S.1.length≤42:=by
 have h1:=nd_len (l:=S.1.map BT.t) (m:=(aTf 6 a.n).map BT.t) h.nd (fun x hx=>by
  obtain ⟨z,hz,rfl⟩:=List.mem_map.1 hx
  refine List.mem_map.2 ⟨z,?_,rfl⟩
  have:=aTf_mem (x:=z) (f:=6) (by have:=h.ns z hz; omega)
  rw [h.ns z hz] at this
  exact this)
 have h2:=aTf_len a.n ha
 simp only [List.length_map] at h1
 omega
theorem bfA_has {i:Nat} {S:List BT×List Int} {u:BT}:u.t∈(bfA i S u).1.map BT.t:=by
 unfold bfA
 split
 ·assumption
 ·simp
theorem Pre.mem {S T:List BT×List Int} (h:Pre S T) {t:List Nat} (ht:t∈S.1.map BT.t):t∈T.1.map BT.t:=by
 obtain ⟨r,q,e,_⟩:=h
 rw [e,List.map_append]
 exact qal _ ht
theorem bfF_has {i:Nat} {u:BT}:∀ {l:List BT} {S:List BT×List Int},u∈l→u.t∈(l.foldl (bfA i) S).1.map BT.t
 | v::l,S,h=>by
  rcases qmn.1 h with rfl | h
  ·exact (bfF_pre (l:=l)).mem bfA_has
  ·exact bfF_has (l:=l) h
theorem bfS_cl {a:BT} {i j:Nat} (h:j<i) (hj:j<(bfS a j).1.length) {u:BT} (hu:u∈nbL (btG (bfS a i).1 j)):u.t∈(bfS a i).1.map BT.t:=by
 obtain ⟨r,q,e,_⟩:=bfS_le (a:=a) (i:=j) (j:=i) (by omega)
 rw [e,btG_app hj] at hu
 have h2:u.t∈(bfS a (j+1)).1.map BT.t:=by
  simp only [bfS,bfR]
  exact bfF_has hu
 exact (bfS_le (a:=a) (i:=j+1) (j:=i) (by omega)).mem h2
theorem leastN {P:Nat→Prop}:∀ {n:Nat},P n→∃ m,m≤n∧P m∧∀ j,j<m→¬ P j
 | n,h=>by
  by_cases q:∃ j,j<n∧P j
  ·obtain ⟨j,hj,hp⟩:=q
   obtain ⟨m,h1,h2,h3⟩:=leastN hp
   exact ⟨m,by omega,h2,h3⟩
  ·exact ⟨n,Nat.le_refl _,h,fun j hj hp=>q ⟨j,hj,hp⟩⟩
termination_by n=>n
theorem bf_end {a:BT} (ha:a.n≤5):∃ N,N≤42∧(bfS a N).1.length=N∧(∀ j,j<N→j<(bfS a j).1.length)∧∀ b:BT,b.n=a.n→b.t∈(bfS a N).1.map BT.t:=by
 obtain ⟨N,h1,h2,h3⟩:=leastN (P:=fun N=>(bfS a N).1.length≤N) (n:=42) ((bfS_inv 42).l42 ha)
 have hN:(bfS a N).1.length=N:=by
  have h0:N≠0:=by
   rintro rfl
   simp [bfS] at h2
  obtain ⟨M,rfl⟩:∃ M,N=M+1:=⟨N-1,by omega⟩
  have h4:=h3 M (by omega)
  obtain ⟨r,q,e,_⟩:=bfS_le (a:=a) (i:=M) (j:=M+1) (by omega)
  have h5:(bfS a (M+1)).1.length=(bfS a M).1.length+r.length:=by rw [e,qla]
  omega
 have h3':∀ j,j<N→j<(bfS a j).1.length:=fun j hj=>by have:=h3 j hj; omega
 refine ⟨N,h1,hN,h3',fun b hb=>?_⟩
 refine conn (P:=fun z=>z.t∈(bfS a N).1.map BT.t) (fun z u hz hu=>?_) (a:=a) ?_ hb
 ·obtain ⟨y,hy,e⟩:=List.mem_map.1 hz
  rw [← oc_inj e] at hu
  obtain ⟨j,hj,e2⟩:=List.getElem_of_mem hy
  rw [← e2,← btG_eq hj] at hu
  exact bfS_cl (by omega) (h3' j (by omega)) hu
 ·have:=(bfS_inv (a:=a) N).hd
  have h5:=btG_mem this.2.2
  rw [this.1] at h5
  exact List.mem_map.2 ⟨a,h5,rfl⟩
def wayF (S:List BT×List Int):Nat→Nat→List (List Nat)
 | 0,_=>[]
 | f+1,k=>(if atI S.2 (k:Nat)<0 then [] else wayF S f (atI S.2 (k:Nat)).toNat)++[(btG S.1 k).t]
theorem wayF_len {S:List BT×List Int}:∀ {f k:Nat},(wayF S f k).length≤f
 | 0,_=>by simp [wayF]
 | f+1,k=>by
  simp only [wayF,qla,qlc,qln]
  split
  ·simp
  ·have:=wayF_len (S:=S) (f:=f) (k:=(atI S.2 (k:Nat)).toNat); omega
theorem wayF_fu {a:BT} {S:List BT×List Int} (h:BI a S):∀ {f k:Nat},k<f→k<S.1.length→wayF S f k=wayF S (k+1) k
 | f+1,k,hf,hk=>by
  simp only [wayF]
  by_cases q:atI S.2 (k:Nat)<0
  ·rw [if_pos q,if_pos q]
  ·rw [if_neg q,if_neg q]
   have hk0:0<k:=by
    rcases Nat.eq_zero_or_pos k with rfl | h0
    ·exact absurd (show atI S.2 ((0:Nat):Int)<0 by have:=h.hd.2.1; simp only [Int.ofNat_eq_natCast,Int.natCast_zero]; omega) q
    ·exact h0
   have hp:=h.par k hk0 hk
   rw [wayF_fu h (f:=f) (by omega) (by omega),wayF_fu h (f:=k) (by omega) (by omega)]
termination_by f=>f
theorem wayF_pre {a:BT} {S T:List BT×List Int} (h:BI a S) (hp:Pre S T):∀ {f k:Nat},k<S.1.length→wayF S f k=wayF T f k
 | 0,_,_=>rfl
 | f+1,k,hk=>by
  obtain ⟨r,q,e1,e2⟩:=hp
  simp only [wayF]
  have hl:=h.len
  have ea:atI T.2 (k:Nat)=atI S.2 (k:Nat):=by rw [e2,atI_ap0 (by omega)]
  have eb:btG T.1 k=btG S.1 k:=by rw [e1,btG_app hk]
  rw [ea,eb]
  by_cases q:atI S.2 (k:Nat)<0
  ·rw [if_pos q,if_pos q]
  ·rw [if_neg q,if_neg q]
   have hk0:0<k:=by
    rcases Nat.eq_zero_or_pos k with rfl | h0
    ·exact absurd (show atI S.2 ((0:Nat):Int)<0 by have:=h.hd.2.1; simp only [Int.ofNat_eq_natCast,Int.natCast_zero]; omega) q
    ·exact h0
   have hp2:=h.par k hk0 hk
   rw [wayF_pre h ⟨r,_,e1,e2⟩ (f:=f) (by omega)]
end Go.Cat
