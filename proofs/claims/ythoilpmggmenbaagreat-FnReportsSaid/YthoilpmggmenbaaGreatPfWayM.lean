/-
 A search by breadth over rotations: what it reaches.
-/
import Derived.Test.YthoilpmggmenbaaGreatQd0LawReports
import Derived.Test.YthoilpmggmenbaaGreatQd1LawReports
import Derived.Test.YthoilpmggmenbaaGreatQd2LawReports
import Derived.Test.YthoilpmggmenbaaGreatQd3LawReports
import Derived.Test.YthoilpmggmenbaaGreatPfOrdM
set_option linter.unusedSimpArgs false
set_option linter.unusedVariables false
namespace Go.Cat
theorem TN:∀{x z:BT}{v:Nat},v<x.n→BF x (v:Nat)=some z→∃u:Nat,u<x.n∧By z (u:Nat)=some x
 |.lf,_,v,h,_=>by simp[BT.n]at h
 |.nd l r,z,v,h,hz=>by
  have h':=h
  simp only[BT.n]at h'
  simp only[BF]at hz
  rw[if_neg (by omega)]at hz
  by_cases q:(v:Int)<l.n
  ·rw[if_pos q]at hz
   obtain⟨y,hy,rfl⟩:=A9.1 hz
   obtain⟨u,hu,e⟩:=TN (by omega) hy
   have hn:=Fa hy
   refine⟨u,by simp only[BT.n];omega,?_⟩
   simp only[By]
   rw[if_neg (by omega),if_pos (by omega),e];rfl
  ·rw[if_neg q]at hz
   by_cases q2:(v:Int)=l.n
   ·rw[if_pos q2]at hz
    cases l with
    |lf=>cases hz
    |nd a b=>
     simp only[AI]at hz
     subst hz
     refine⟨a.n,by simp only[BT.n];omega,?_⟩
     simp only[By]
     rw[if_neg (by omega),if_neg (by omega),if_pos trivial]
   ·rw[if_neg q2]at hz
    obtain⟨y,hy,rfl⟩:=A9.1 hz
    rw[show(v:Int)-l.n-1=((v-l.n-1:Nat):Int) by omega]at hy
    obtain⟨u,hu,e⟩:=TN (by omega) hy
    refine⟨u+l.n+1,by simp only[BT.n];omega,?_⟩
    simp only[By]
    rw[if_neg (by omega),if_neg (by omega),if_neg (by omega),show((u+l.n+1:Nat):Int)-l.n-1=(u:Nat) by omega,e];rfl
theorem AXQ{x z:BT}{v:Nat}(hv:v<x.n)(h:BF x (v:Nat)=some z):z∈Cy x:=by simp only[Cy,C4,Af,List.mem_filterMap,List.mem_range];exact .inl ⟨v,hv,h⟩
theorem ASW{x z:BT}{v:Nat}(hv:v<x.n)(h:By x (v:Nat)=some z):z∈Cy x:=by simp only[Cy,C4,Af,List.mem_filterMap,List.mem_range];exact .inr ⟨v,hv,h⟩
theorem VY{x z:BT}(h:z∈Cy x):z.n=x.n:=by
 simp only[Cy,C4,Af,List.mem_filterMap,List.mem_range]at h;rcases h with⟨v,_,h⟩|⟨v,_,h⟩
 ·exact Fa h
 ·exact J8 h
def FP:Nat→BT
 |0=>.lf
 |n+1=>.nd .lf (FP n)
theorem Tf:∀{n:Nat},(FP n).n=n
 |0=>rfl
 |n+1=>by simp only[FP,BT.n,Tf];omega
theorem Zl:∀{n i:Nat},i<n→AE (FP n).w (i:Nat)=(n:Int)-1-i
 |0,i,h=>by omega
 |n+1,0,_=>by simp[FP,BT.w,AE,Tf]
 |n+1,i+1,h=>by
  have:=Zl (n:=n) (i:=i) (by omega)
  simp[FP,BT.w,AE]at this⊢
  rw[this];omega
theorem AUC{x:BT}:Ll x (FP x.n):=by refine⟨Tf.symm,fun i hi=>?_⟩;have:=Fs hi;rw[Zl hi];omega
theorem Sv{P:BT→Prop}(hc:∀z u,P z→u∈Cy z→P u):∀(k:Nat)(x:BT),(FP x.n).w.sum-x.w.sum≤k→(P x→P (FP x.n))∧(P (FP x.n)→P x)
 |k,x,hk=>by
  by_cases q:x=FP x.n
  ·rw[←q];exact⟨id,id⟩
  ·obtain⟨v,z,hv,hz,hl⟩:=AdY (x:=x) (y:=FP x.n) AUC (fun e=>q (VK e))
   have h1:=AbY hv hz
   have h2:=Ab3 hl
   have hn:=Fa hz
   obtain⟨u,hu,e⟩:=TN hv hz
   cases k with
   |zero=>omega
   |succ k=>
    have ih:=Sv hc k z (by rw[hn];omega)
    rw[hn]at ih
    exact⟨fun h=>ih.1 (hc _ _ h (AXQ hv hz)),fun h=>hc _ _ (ih.2 h) (ASW (by omega) e)⟩
theorem conn{P:BT→Prop}(hc:∀z u,P z→u∈Cy z→P u){a b:BT}(ha:P a)(hn:b.n=a.n):P b:=by have h1:=Sv hc ((FP a.n).w.sum-a.w.sum).toNat a (by omega);have h2:=Sv hc ((FP b.n).w.sum-b.w.sum).toNat b (by omega);exact h2.2 (by rw[hn];exact h1.1 ha)
def KC:Nat→Nat→List BT
 |0,_=>[]
 |_+1,0=>[.lf]
 |f+1,n+1=>(List.range (n+1)).flatMap fun i=>(KC f i).flatMap fun l=>(KC f (n-i)).map fun r=>.nd l r
theorem V4:∀{x:BT}{f:Nat},x.n<f→x∈KC f x.n
 |.lf,f+1,_=>by simp[BT.n,KC]
 |.nd l r,f+1,h=>by
  have h':=h
  simp only[BT.n]at h'
  simp only[BT.n,KC,List.mem_flatMap,List.mem_range,List.mem_map]
  refine⟨l.n,by omega,l,V4 (by omega),r,?_,rfl⟩
  rw[show l.n+r.n-l.n=r.n by omega]
  exact V4 (by omega)
theorem AYN:∀n,n≤5→(KC 6 n).length≤42:=by decide
theorem AEU:∀{l m:List (List Nat)},l.Nodup→(∀x∈l,x∈m)→l.length≤m.length
 |[],m,_,_=>by simp
 |a::l,m,h,hs=>by
  have ha:=hs a (List.mem_cons_self ..)
  have h2:=List.nodup_cons.1 h
  have:=AEU (l:=l) (m:=m.erase a) h2.2 (fun x hx=>by
   have hne:x≠a:=by rintro rfl;exact h2.1 hx
   exact(List.mem_erase_of_ne hne).2 (hs x (BK _ hx)))
  have e:=List.length_erase_of_mem ha
  have:0<m.length:=List.length_pos_of_mem ha
  simp only[AY]
  omega
def A4(l:List BT)(i:Nat):BT:=l.getD i .lf
theorem HJ{l:List BT}{i:Nat}(h:i<l.length):A4 l i=l[i]:=by simp[A4,h]
theorem FE{l:List BT}{i:Nat}(h:i<l.length):A4 l i∈l:=by rw[HJ h];exact List.getElem_mem h
theorem JK{l m:List BT}{i:Nat}(h:i<l.length):A4 (l++m) i=A4 l i:=by simp only[A4,Al];rw[DC h]
theorem MV{l m:List Int}{i:Nat}(h:i<l.length):AE (l++m) (i:Nat)=AE l (i:Nat):=by simp only[AE,BH,Al];rw[DC h]
theorem F1{l:List BT}{i:Nat}(h:i<l.length):AO (l.map BT.t) (i:Nat)=(A4 l i).t:=by simp[AO,A4,h]
def DQ(i:Nat)(S:List BT×List Int)(u:BT):List BT×List Int:=if u.t∈S.1.map BT.t then S else(S.1++[u],S.2++[(i:Int)])
def bfR(i:Nat)(S:List BT×List Int):List BT×List Int:=(Cy (A4 S.1 i)).foldl (DQ i) S
def AS(a:BT):Nat→List BT×List Int
 |0=>([a],[-1])
 |i+1=>bfR i (AS a i)
def Ec(S T:List BT×List Int):Prop:=∃r q,T.1=S.1++r∧T.2=S.2++q
theorem Ec.SF{S:List BT×List Int}:Ec S S:=⟨[],[],by simp,by simp⟩
theorem Ec.tr{S T U:List BT×List Int}(h:Ec S T)(h2:Ec T U):Ec S U:=by obtain⟨r,q,e1,e2⟩:=h;obtain⟨r2,q2,e3,e4⟩:=h2;exact⟨r++r2,q++q2,by rw[e3,e1,CI],by rw[e4,e2,CI]⟩
theorem AOX{i:Nat}{S:List BT×List Int}{u:BT}:Ec S (DQ i S u):=by
 unfold DQ;split
 ·exact Ec.SF
 ·exact⟨[u],[(i:Int)],rfl,rfl⟩
theorem OU{i:Nat}:∀{l:List BT}{S:List BT×List Int},Ec S (l.foldl (DQ i) S)
 |[],S=>Ec.SF
 |_::l,S=>AOX.tr (OU (l:=l))
theorem AND{a:BT}{i:Nat}:∀{j:Nat},Ec (AS a i) (AS a (i+j))
 |0=>Ec.SF
 |j+1=>(AND (j:=j)).tr OU
theorem OR{a:BT}{i j:Nat}(h:i≤j):Ec (AS a i) (AS a j):=by have:=AND (a:=a) (i:=i) (j:=j-i);rwa [show i+(j-i)=j by omega]at this
structure BI(a:BT)(S:List BT×List Int):Prop where
 len:S.2.length=S.1.length
 ns:∀z∈S.1,z.n=a.n
 nd:(S.1.map BT.t).Nodup
 hd:A4 S.1 0=a∧AE S.2 0=-1∧0<S.1.length
 par:∀k:Nat,0<k→k<S.1.length→0≤AE S.2 (k:Nat)∧AE S.2 (k:Nat)<k
theorem BI.add{a:BT}{S:List BT×List Int}{i:Nat}{u:BT}(h:BI a S)(hu:u.n=a.n)(hi:i<S.1.length):BI a (DQ i S u):=by
 obtain⟨h1,h2,h3,⟨h4,h5,h6⟩,h7⟩:=h;unfold DQ;split
 ·exact⟨h1,h2,h3,⟨h4,h5,h6⟩,h7⟩
 ·rename_i hn;refine⟨by simp[h1],fun z hz=>?_,?_,⟨?_,?_,by simp⟩,fun k hk hk2=>?_⟩
  ·rcases Af.1 hz with q|q
   ·exact h2 z q
   ·rw[List.mem_singleton.1 q];exact hu
  ·simp only[List.map_append,List.map_cons,List.map_nil];refine List.nodup_append.2 ⟨h3,by simp,?_⟩;intro x hx y hy;rw[List.mem_singleton.1 hy];rintro rfl;exact hn hx
  ·rw[JK h6];exact h4
  ·have:=MV (l:=S.2) (m:=[(i:Int)]) (i:=0) (by omega);simp only[Int.ofNat_eq_natCast,Int.natCast_zero]at this;exact this.trans h5
  ·simp only[A7,AY,Ap]at hk2;by_cases q:k<S.1.length
   ·rw[MV (by omega)];exact h7 k hk q
   ·have e:AE (S.2++[(i:Int)]) (k:Nat)=i:=by
     obtain rfl:k=S.2.length:=by omega
     simp[AE]
    rw[e];omega
theorem BI.fold{a:BT}{i:Nat}:∀{l:List BT}{S:List BT×List Int},BI a S→(∀u∈l,u.n=a.n)→i<S.1.length→BI a (l.foldl (DQ i) S)
 |[],S,h,_,_=>h
 |u::l,S,h,hl,hi=>by
  refine BI.fold (l:=l) (h.add (hl u (List.mem_cons_self ..)) hi) (fun x hx=>hl x (BK _ hx)) ?_
  obtain⟨r,q,e1,_⟩:=AOX (i:=i) (S:=S) (u:=u)
  rw[e1,A7];omega
theorem AcY:Cy .lf=[]:=rfl
theorem Hm{a:BT}:∀i,BI a (AS a i)
 |0=>⟨rfl,by simp[AS],by simp[AS],⟨rfl,rfl,by simp[AS]⟩,fun k h h2=>by simp[AS]at h2;omega⟩
 |i+1=>by
  have h:=Hm (a:=a) i
  simp only[AS,bfR]
  by_cases q:i<(AS a i).1.length
  ·exact h.fold (fun u hu=>(VY hu).trans (h.ns _ (FE q))) q
  ·have e:A4 (AS a i).1 i=.lf:=by simp[A4,Nat.le_of_not_lt q]
   rw[e,AcY]
   exact h
theorem BI.L7{a:BT}{S:List BT×List Int}(h:BI a S)(ha:a.n≤5):S.1.length≤42:=by have h1:=AEU (l:=S.1.map BT.t) (m:=(KC 6 a.n).map BT.t) h.nd (fun x hx=>by obtain⟨z,hz,rfl⟩:=List.mem_map.1 hx;refine List.mem_map.2 ⟨z,?_,rfl⟩;have:=V4 (x:=z) (f:=6) (by have:=h.ns z hz;omega);rw[h.ns z hz]at this;exact this);have h2:=AYN a.n ha;simp only[List.length_map]at h1;omega
theorem AWR{i:Nat}{S:List BT×List Int}{u:BT}:u.t∈(DQ i S u).1.map BT.t:=by
 unfold DQ;split
 ·assumption
 ·simp
theorem Ec.mem{S T:List BT×List Int}(h:Ec S T){t:List Nat}(ht:t∈S.1.map BT.t):t∈T.1.map BT.t:=by obtain⟨r,q,e,_⟩:=h;rw[e,List.map_append];exact BJ _ ht
theorem Wi{i:Nat}{u:BT}:∀{l:List BT}{S:List BT×List Int},u∈l→u.t∈(l.foldl (DQ i) S).1.map BT.t
 |v::l,S,h=>by
  rcases Aa.1 h with rfl|h
  ·exact(OU (l:=l)).mem AWR
  ·exact Wi (l:=l) h
theorem AS4{a:BT}{i j:Nat}(h:j<i)(hj:j<(AS a j).1.length){u:BT}(hu:u∈Cy (A4 (AS a i).1 j)):u.t∈(AS a i).1.map BT.t:=by
 obtain⟨r,q,e,_⟩:=OR (a:=a) (i:=j) (j:=i) (by omega);rw[e,JK hj]at hu;have h2:u.t∈(AS a (j+1)).1.map BT.t:=by simp only[AS,bfR];exact Wi hu
 exact(OR (a:=a) (i:=j+1) (j:=i) (by omega)).mem h2
theorem Lw{P:Nat→Prop}:∀{n:Nat},P n→∃m,m≤n∧P m∧∀j,j<m→¬P j
 |n,h=>by
  by_cases q:∃j,j<n∧P j
  ·obtain⟨j,hj,hp⟩:=q
   obtain⟨m,h1,h2,h3⟩:=Lw hp
   exact⟨m,by omega,h2,h3⟩
  ·exact⟨n,Nat.le_refl _,h,fun j hj hp=>q ⟨j,hj,hp⟩⟩
termination_by n=>n
theorem AU2{a:BT}(ha:a.n≤5):∃N,N≤42∧(AS a N).1.length=N∧(∀j,j<N→j<(AS a j).1.length)∧∀b:BT,b.n=a.n→b.t∈(AS a N).1.map BT.t:=by
 obtain⟨N,h1,h2,h3⟩:=Lw (P:=fun N=>(AS a N).1.length≤N) (n:=42) ((Hm 42).L7 ha);have hN:(AS a N).1.length=N:=by
  have h0:N≠0:=by rintro rfl;simp[AS]at h2
  obtain⟨M,rfl⟩:∃M,N=M+1:=⟨N-1,by omega⟩;have h4:=h3 M (by omega);obtain⟨r,q,e,_⟩:=OR (a:=a) (i:=M) (j:=M+1) (by omega);have h5:(AS a (M+1)).1.length=(AS a M).1.length+r.length:=by rw[e,A7]
  omega
 have h3':∀j,j<N→j<(AS a j).1.length:=fun j hj=>by have:=h3 j hj;omega
 refine⟨N,h1,hN,h3',fun b hb=>?_⟩;refine conn (P:=fun z=>z.t∈(AS a N).1.map BT.t) (fun z u hz hu=>?_) (a:=a) ?_ hb
 ·obtain⟨y,hy,e⟩:=List.mem_map.1 hz;rw[←Uk e]at hu;obtain⟨j,hj,e2⟩:=List.getElem_of_mem hy;rw[←e2,←HJ hj]at hu;exact AS4 (by omega) (h3' j (by omega)) hu
 ·have:=(Hm (a:=a) N).hd;have h5:=FE this.2.2;rw[this.1]at h5;exact List.mem_map.2 ⟨a,h5,rfl⟩
def DD(S:List BT×List Int):Nat→Nat→List (List Nat)
 |0,_=>[]
 |f+1,k=>(if AE S.2 (k:Nat)<0 then []else DD S f (AE S.2 (k:Nat)).toNat)++[(A4 S.1 k).t]
theorem RE{S:List BT×List Int}:∀{f k:Nat},(DD S f k).length≤f
 |0,_=>by simp[DD]
 |f+1,k=>by
  simp only[DD,A7,AY,Ap]
  split
  ·simp
  ·have:=RE (S:=S) (f:=f) (k:=(AE S.2 (k:Nat)).toNat);omega
theorem O3{a:BT}{S:List BT×List Int}(h:BI a S):∀{f k:Nat},k<f→k<S.1.length→DD S f k=DD S (k+1) k
 |f+1,k,hf,hk=>by
  simp only[DD]
  by_cases q:AE S.2 (k:Nat)<0
  ·rw[if_pos q,if_pos q]
  ·rw[if_neg q,if_neg q]
   have hk0:0<k:=by
    rcases Nat.eq_zero_or_pos k with rfl|h0
    ·exact absurd (show AE S.2 ((0:Nat):Int)<0 by have:=h.hd.2.1;simp only[Int.ofNat_eq_natCast,Int.natCast_zero];omega) q
    ·exact h0
   have hp:=h.par k hk0 hk
   rw[O3 h (f:=f) (by omega) (by omega),O3 h (f:=k) (by omega) (by omega)]
termination_by f=>f
theorem APK{a:BT}{S T:List BT×List Int}(h:BI a S)(hp:Ec S T):∀{f k:Nat},k<S.1.length→DD S f k=DD T f k
 |0,_,_=>rfl
 |f+1,k,hk=>by
  obtain⟨r,q,e1,e2⟩:=hp
  simp only[DD]
  have hl:=h.len
  have ea:AE T.2 (k:Nat)=AE S.2 (k:Nat):=by rw[e2,MV (by omega)]
  have eb:A4 T.1 k=A4 S.1 k:=by rw[e1,JK hk]
  rw[ea,eb]
  by_cases q:AE S.2 (k:Nat)<0
  ·rw[if_pos q,if_pos q]
  ·rw[if_neg q,if_neg q]
   have hk0:0<k:=by
    rcases Nat.eq_zero_or_pos k with rfl|h0
    ·exact absurd (show AE S.2 ((0:Nat):Int)<0 by have:=h.hd.2.1;simp only[Int.ofNat_eq_natCast,Int.natCast_zero];omega) q
    ·exact h0
   have hp2:=h.par k hk0 hk
   rw[APK h ⟨r,_,e1,e2⟩ (f:=f) (by omega)]
end Go.Cat
