/-
 Ways of rotations, on both sides.
-/
import Derived.Test.YthoilpmggmenbaaGreatPfWayM
import Derived.Test.YthoilpmggmenbaaGreatPfOrdM
import Derived.Test.YthoilpmggmenbaaGreatQd0LawReports
import Derived.Test.YthoilpmggmenbaaGreatQd1LawReports
import Derived.Test.YthoilpmggmenbaaGreatQd2LawReports
import Derived.Test.YthoilpmggmenbaaGreatQd3LawReports
set_option linter.unusedSimpArgs false
set_option linter.unusedVariables false
namespace Go.Cat
variable{K:Nat→List D→List D→Prop}
theorem ATM[HA K]{ws:List (List Nat)}{k:List Nat}(h:ws.length≤100000):K 378 [LS ws,.s k] [.b (decide (k∈ws))]:=by
 refine qb OY rfl ?_;simp only[OY];simp(disch:=omega) only[AA];refine AL (fun i=>k∉ws.take i) (fun i=>[LS ws,.s k,.u,.n i,.u,.u]) ws.length (by simp) rfl (fun i hi hP=>?_) (fun hP=>?_)
 ·have et:ws.take (i+1)=ws.take i++[AO ws i]:=by
   rw[CU hi];simp[AO,hi]
  have hm:AO ws i∈ws:=by simp[AO,hi]
  cases hc:(AO ws i==k)
  ·simp(disch:=omega) only[AA,hc]
   rw[et]
   intro q
   rcases Af.1 q with q|q
   ·exact hP q
   ·simp only[List.mem_singleton]at q
    rw[q]at hc
    simp at hc
  ·have e:AO ws i=k:=by simpa using hc
   simp(disch:=omega) only[AA,hc]
   rw[←e]
   simp[hm]
 ·rw[List.take_length]at hP;simp(disch:=omega) only[AA];simp[hP]
theorem AaL[HA K]{a:List (List Nat)}(h:a.length≤1000000000):K 368 [LS a] [LS a.reverse]:=by
 refine qb Ym rfl ?_;simp only[Ym];simp(disch:=first|omega|simp only[vl];omega) only[AA]
 refine Be (fun(x:Nat×List (List Nat))=>2*x.1≤a.length+1∧x.2.length=a.length∧∀j:Nat,j<a.length→AO x.2 j=if j<x.1∨a.length≤j+x.1 then AO a (a.length-1-j:Nat)else AO a j)
  (fun x=>[LS x.2,.n x.1,.n ((a.length:Int)-1-x.1),.u]) (fun x=>a.length-x.1) (0,a) ⟨by simp,rfl,by intro j hj;rw[if_neg (by omega)]⟩ (by simp(disch:=first|omega|simp only[vl];omega) only[AA,Int.sub_zero]) ?_
 rintro⟨i,o⟩ ⟨h1,h2,h3⟩;simp only at h1 h2 h3;by_cases hc:2*i+1<a.length
 ·simp(disch:=first|omega|simp only[vl];omega) only[AA];have e:((a.length-1-i:Nat):Int)=(a.length:Int)-1-i:=by omega
  rw[←e];refine⟨(i+1,Fb (Fb o i (AO o ((a.length-1-i:Nat):Int))) ((a.length-1-i:Nat):Int) (AO o i)),?_,⟨?_,?_,?_⟩,?_⟩;rotate_left 4
  ·have:((a.length-1-i:Nat):Int)-1=(a.length:Int)-1-((i+1:Nat):Int):=by omega
   rw[this];rfl
  ·show a.length-(i+1)<a.length-i;omega
  ·show 2*(i+1)≤a.length+1;omega
  ·show(Fb (Fb o i _) _ _).length=a.length;rw[NJ,NJ,h2]
  ·intro j hj;show AO (Fb (Fb o i _) (a.length-1-i:Nat) _) j=_;rw[AI2 (by rw[NJ];omega),AI2 (by omega)];have a1:=h3 i (by omega);have a2:=h3 (a.length-1-i) (by omega);rw[if_neg (by omega)]at a1 a2;by_cases j1:a.length-1-i=j
   ·rw[if_pos j1,if_pos (by omega),a1];congr 2;omega
   ·rw[if_neg j1];by_cases j2:i=j
    ·rw[if_pos j2,if_pos (by omega),a2];congr 2;omega
    ·rw[if_neg j2,h3 j hj];by_cases j3:j<i∨a.length≤j+i
     ·rw[if_pos j3,if_pos (by omega)]
     ·rw[if_neg j3,if_neg (by omega)]
 ·simp(disch:=first|omega|simp only[vl];omega) only[AA];have e:o=a.reverse:=by
   refine List.ext_getElem (by simp[h2]) fun j hj hj2=>?_;have:=h3 j (by omega);simp only[AO,BH,Al]at this;rw[En (by omega),En (by omega),En (by omega)]at this;simp only[Option.getD_some]at this;rw[this,List.getElem_reverse];split
   ·rfl
   ·congr 1;omega
  rw[e]
theorem AVD[HA K]{a:BT}{N:Nat}(ha:a.n≤5)(h1:N≤42)(h2:(AS a N).1.length=N)(h3:∀j,j<N→j<(AS a j).1.length):K 366 [.s a.t] [LS ((AS a N).1.map BT.t),LI (AS a N).2]:=by
 refine qb AN8 rfl ?_;simp only[AN8];simp(disch:=first|omega|simp only[vl];omega) only[AA];refine AL (fun i=>True) (fun i=>[.u,.u,.u,LS ((AS a i).1.map BT.t),LI (AS a i).2,.n i,.u,.u,.u,.u,.u]) N trivial rfl (fun i hi _=>?_) (fun _=>?_)
 ·have hv:=Hm (a:=a) i;have hl:=hv.L7 ha;have hii:=h3 i hi;have hn:=hv.ns _ (FE hii);have es:=F1 hii;have hnb:=N5 (x:=A4 (AS a i).1 i);simp(disch:=first|omega|simp only[vl];omega) only[AA,List.length_map,es];refine AD (AHD (K:=K) (x:=A4 (AS a i).1 i) (by omega)) rfl ?_;simp(disch:=first|omega|simp only[vl];omega) only[AA];obtain⟨l,hll⟩:∃l,l=Cy (A4 (AS a i).1 i):=⟨_,rfl⟩;have hmem:∀u∈l,u.n=a.n:=fun u hu=>by rw[hll]at hu;exact(VY hu).trans hn
  have hR:AS a (i+1)=l.foldl (DQ i) (AS a i):=by rw[hll];rfl
  rw[←hll]at hnb⊢;refine Au (fun k (S:List BT×List Int)=>S=(l.take k).foldl (DQ i) (AS a i)) (fun k S=>[.u,.u,.u,LS (S.1.map BT.t),LI S.2,.n i,DK l,.n k,.u,.u,.u]) l.length (AS a i) rfl rfl (fun k S hk hS=>?_) (fun S hS=>?_)
  ·have hvS:BI a S:=by
    rw[hS]
    exact hv.fold (fun u hu=>hmem u (List.mem_of_mem_take hu)) hii
   have hlS:=hvS.L7 ha
   have hls:=hvS.len
   have et:l.take (k+1)=l.take k++[A4 l k]:=by
    rw[CU hk,HJ hk]
   have ek:=F1 hk
   have tl:=BT.tl (A4 l k)
   have tn:=hmem _ (FE hk)
   simp(disch:=first|omega|simp only[vl];omega) only[AA,List.length_map,ek]
   have k15:=ATM (K:=K) (ws:=S.1.map BT.t) (k:=(A4 l k).t) (by rw[List.length_map];omega)
   refine AD (k15) rfl ?_
   by_cases hc:(A4 l k).t∈S.1.map BT.t
   ·rw[decide_eq_true hc]
    simp(disch:=first|omega|simp only[vl];omega) only[AA]
    refine⟨S,?_,rfl⟩
    rw[et,List.foldl_append,←hS]
    simp only[List.foldl_cons,List.foldl_nil,DQ,if_pos hc]
   ·rw[decide_eq_false hc]
    simp(disch:=first|omega|simp only[vl];omega) only[AA,List.length_map,ek]
    refine⟨(S.1++[A4 l k],S.2++[(i:Int)]),?_,by simp⟩
    rw[et,List.foldl_append,←hS]
    simp only[List.foldl_cons,List.foldl_nil,DQ,if_neg hc]
  ·rw[List.take_length,←hR]at hS;subst hS;simp(disch:=first|omega|simp only[vl];omega) only[AA,List.length_map]
 ·simp(disch:=first|omega|simp only[vl];omega) only[AA,List.length_map,h2]
theorem Ws{a:BT}{S:List BT×List Int}(h:BI a S){b:BT}(hb:b.t∈S.1.map BT.t):∃k,k<S.1.length∧A4 S.1 k=b∧∀j,j<k→¬(A4 S.1 j).t=b.t:=by obtain⟨y,hy,e⟩:=List.mem_map.1 hb;obtain rfl:=Uk e;obtain⟨j,hj,e2⟩:=List.getElem_of_mem hy;obtain⟨m,h1,h2,h3⟩:=Lw (P:=fun j=>j<S.1.length∧(A4 S.1 j).t=y.t) (n:=j) ⟨hj,by rw[HJ hj,e2]⟩;exact⟨m,h2.1,Uk h2.2,fun j hj q=>h3 j hj ⟨by omega,q⟩⟩
theorem ATQ[HA K]{a b:BT}{N k:Nat}(ha:a.n≤5)(hb:b.n=a.n)(h1:N≤42)(h2:(AS a N).1.length=N)(h3:∀j,j<N→j<(AS a j).1.length)(hk:k<N)(hk2:A4 (AS a N).1 k=b)(hk3:∀j,j<k→¬(A4 (AS a N).1 j).t=b.t):K 347 [.s a.t,.s b.t] [LS (DD (AS a N) (k+1) k),.b true]:=by
 have hv:=Hm (a:=a) N;have hl2:=hv.len;have ed:decide (a.n=b.n)=true:=decide_eq_true hb.symm;refine qb HT rfl ?_;simp only[HT];simp(disch:=first|omega|simp only[vl];omega) only[AA];refine AD (Hu (K:=K) (x:=a) (y:=b) (by omega) (by omega)) rfl ?_;rw[ed];simp(disch:=first|omega|simp only[vl];omega) only[AA];refine AD (Dz (K:=K) (x:=a) (by omega)) rfl ?_;simp(disch:=first|omega|simp only[vl];omega) only[AA];refine AD (AVD (K:=K) ha h1 h2 h3) rfl ?_;simp(disch:=first|omega|simp only[vl];omega) only[AA];refine AL (fun i=>True) (fun i=>[.u,.s b.t,.u,.u,LS ((AS a N).1.map BT.t),LI (AS a N).2,.n i,.u,.u,.u,.u,.u,.u]) k trivial rfl (fun i hi _=>?_) (fun _=>?_)
 ·have es:=F1 (l:=(AS a N).1) (i:=i) (by omega);have hne:((A4 (AS a N).1 i).t==b.t)=false:=by rw[beq_eq_false_iff_ne];exact hk3 i hi
  simp(disch:=first|omega|simp only[vl];omega) only[AA,List.length_map,es,hne]
 ·have es:=F1 (l:=(AS a N).1) (i:=k) (by omega);rw[hk2]at es;have heq:(b.t==b.t)=true:=by simp
  simp(disch:=first|omega|simp only[vl];omega) only[AA,List.length_map,es,heq];refine Be (fun(x:Int×List (List Nat))=>-1≤x.1∧x.1<N∧(if x.1<0 then []else DD (AS a N) (x.1.toNat+1) x.1.toNat)++x.2=DD (AS a N) (k+1) k) (fun x=>[.u,.u,.u,.u,LS ((AS a N).1.map BT.t),LI (AS a N).2,.u,LS x.2,.n x.1,.u,.u,.u,.u]) (fun x=>(x.1+1).toNat) ((k:Int),[]) ⟨by simp only;omega,by simp only;omega,by simp only[List.append_nil,BH];rw[if_neg (by omega)]⟩ rfl ?_;rintro⟨j,out⟩ ⟨g1,g2,g3⟩;simp only at g1 g2 g3⊢;by_cases hj:0≤j
  ·obtain⟨m,rfl⟩:∃m:Nat,j=m:=⟨j.toNat,by omega⟩;have hmN:m<(AS a N).1.length:=by omega
   have em:=F1 hmN;have g4:out.length≤k+1:=by have:=congrArg List.length g3;rw[A7]at this;have:=RE (S:=AS a N) (f:=k+1) (k:=k);omega
   have hp:-1≤AE (AS a N).2 (m:Nat)∧AE (AS a N).2 (m:Nat)<m:=by
    rcases Nat.eq_zero_or_pos m with rfl|h0
    ·have:=hv.hd.2.1;simp only[Int.ofNat_eq_natCast,Int.natCast_zero];omega
    ·have:=hv.par m h0 hmN;omega
   rw[if_neg (by omega),BH,show DD (AS a N) (m+1) m=(if AE (AS a N).2 (m:Nat)<0 then []else DD (AS a N) m (AE (AS a N).2 (m:Nat)).toNat)++[(A4 (AS a N).1 m).t]from rfl]at g3;simp(disch:=first|omega|simp only[vl];omega) only[AA,List.length_map,em];refine⟨(AE (AS a N).2 (m:Nat),(A4 (AS a N).1 m).t::out),by simp only;omega,⟨by simp only;omega,by simp only;omega,?_⟩,rfl⟩;rw[←g3];simp only;by_cases q:AE (AS a N).2 (m:Nat)<0
   ·rw[if_pos q,if_pos q];simp
   ·rw[if_neg q,if_neg q,O3 hv (f:=m) (by omega) (by omega)];simp
  ·rw[if_pos (by omega),List.nil_append]at g3;simp(disch:=first|omega|simp only[vl];omega) only[AA];rw[g3]
def IK(m:List (List Nat×List Nat))(S:List BT×List Int):Prop:=
 (∀j,j<S.1.length→C1 (A4 S.1 j).t m=some (if AE S.2 (j:Nat)<0 then []else(A4 S.1 (AE S.2 (j:Nat)).toNat).t))∧∀t,t∉S.1.map BT.t→C1 t m=none
theorem TS{α:Type}{k k':List Nat}{v:α}:∀{m:List (List Nat×α)},C1 k' (FV k v m)=if k'=k then some v else C1 k' m
 |[]=>by simp[FV,C1]
 |(j,x)::m=>by
  simp only[FV]
  by_cases h:k=j
  ·rw[if_pos h]
   subst h
   simp only[C1]
   by_cases q:k'=k
   ·rw[if_pos q,if_pos q]
   ·rw[if_neg q,if_neg q,if_neg q]
  ·rw[if_neg h]
   simp only[C1]
   rw[TS]
   by_cases q:k'=j
   ·subst q
    rw[if_pos rfl,if_neg (fun e=>h e.symm),if_pos rfl]
   ·rw[if_neg q,if_neg q]
theorem IK.has{m:List (List Nat×List Nat)}{S:List BT×List Int}(h:IK m S){t:List Nat}:(C1 t m).isSome=decide (t∈S.1.map BT.t):=by
 by_cases q:t∈S.1.map BT.t
 ·obtain⟨y,hy,e⟩:=List.mem_map.1 q;obtain⟨j,hj,e2⟩:=List.getElem_of_mem hy;have:=h.1 j hj;rw[HJ hj,e2,e]at this;rw[this,decide_eq_true q];rfl
 ·rw[h.2 t q,decide_eq_false q];rfl
theorem IK.put{m:List (List Nat×List Nat)}{a:BT}{S:List BT×List Int}(h:IK m S)(hv:BI a S){u:BT}{i:Nat}(hu:u.t∉S.1.map BT.t)(hi:i<S.1.length):IK (FV u.t (A4 S.1 i).t m) (S.1++[u],S.2++[(i:Int)]):=by
 have hl:=hv.len;refine⟨fun j hj=>?_,fun t ht=>?_⟩
 ·simp only[A7,AY,Ap]at hj⊢;rw[TS];by_cases q:j<S.1.length
  ·have hne:¬(A4 S.1 j).t=u.t:=fun e=>hu (by rw[←e];exact List.mem_map.2 ⟨_,FE q,rfl⟩);rw[JK q,if_neg hne,MV (by omega),h.1 j q];by_cases q2:AE S.2 (j:Nat)<0
   ·rw[if_pos q2,if_pos q2]
   ·have hj0:0<j:=by
     rcases Nat.eq_zero_or_pos j with rfl|h0
     ·exact absurd (show AE S.2 ((0:Nat):Int)<0 by have:=hv.hd.2.1;simp only[Int.ofNat_eq_natCast,Int.natCast_zero];omega) q2
     ·exact h0
    have:=hv.par j hj0 q
    rw[if_neg q2,if_neg q2,JK (by omega)]
  ·obtain rfl:j=S.1.length:=by omega
   have e1:A4 (S.1++[u]) S.1.length=u:=by simp[A4]
   have e2:AE (S.2++[(i:Int)]) (S.1.length:Nat)=i:=by rw[←hl];simp[AE]
   rw[e1,if_pos rfl,e2,if_neg (by omega),BH,JK hi]
 ·simp only[List.map_append,List.map_cons,List.map_nil,Af,List.mem_singleton,not_or]at ht;rw[TS,if_neg ht.2,h.2 t ht.1]
def TB(j:Nat)(R:Env→Prop):X→Env→Prop:=fun x e=>x=.ex j∧R e
theorem Y3{j:Nat}{R:Env→Prop}{e:Env}:TB j R (.ex j) e=R e:=by simp[TB]
theorem AWS{b:S}{Q:X→Env→Prop}{e:Env}(j:Nat)(R:Env→Prop)(h:wpS K (.loop b) (TB j R) e)(h2:∀e,R e→Q (.ex j) e):wpS K (.loop b) Q e:=by refine DH _ (fun x e h=>?_) h;obtain⟨rfl,h⟩:=h;exact h2 e h
theorem Aa8{l:List (List Nat)}(h:l.Nodup){i j:Nat}(hi:i<l.length)(hj:j<l.length)(e:l[i]=l[j]):i=j:=by
 rcases Nat.lt_trichotomy i j with q|q|q
 ·exact absurd e (List.pairwise_iff_getElem.1 h i j hi hj q)
 ·exact q
 ·exact absurd e.symm (List.pairwise_iff_getElem.1 h j i hj hi q)
theorem ASP[HA K][El K]{a b:BT}{N k:Nat}(ha:a.n≤5)(hb:b.n=a.n)(h1:N≤42)(h2:(AS a N).1.length=N)(h3:∀j,j<N→j<(AS a j).1.length)(hk:k<N)(hk2:A4 (AS a N).1 k=b)(hk4:b.t∈(AS a N).1.map BT.t):K 348 [.s a.t,.s b.t] [LS (DD (AS a N) (k+1) k),.b true]:=by
 have ed:(decide ((a.n:Int)≤5)&&decide (a.n=b.n))=true:=by rw[decide_eq_true (by omega),decide_eq_true hb.symm];rfl
 refine qb Nf rfl ?_;simp only[Nf];simp(disch:=first|omega|simp only[vl];omega) only[AA];refine AD (Hv (K:=K) (x:=a) (y:=b) (m:=5) (by omega) (by omega) (by omega)) rfl ?_;rw[ed];simp(disch:=first|omega|simp only[vl];omega) only[AA];refine AWS 0 (fun e=>∃i m,i≤N∧IK m (AS a i)∧b.t∈(AS a i).1.map BT.t∧e=[.u,.s b.t,.u,.u,MS m,LS ((AS a i).1.map BT.t),.n i,.u,.u,.u,.u,.u,.u,.u,.u,.u,.u,.u,.u,.u,.u]) ?_ ?_
 ·refine Au (fun i m=>IK m (AS a i)) (fun i m=>[.u,.s b.t,.u,.u,MS m,LS ((AS a i).1.map BT.t),.n i,.u,.u,.u,.u,.u,.u,.u,.u,.u,.u,.u,.u,.u,.u]) N [(a.t,[])] ⟨fun j hj=>by
    simp only[AS,AY,Ap]at hj
    obtain rfl:j=0:=by omega
    simp[AS,A4,C1,AE],fun t ht=>by
    simp only[AS,List.map_cons,List.map_nil,List.mem_singleton]at ht
    simp[C1,ht]⟩ rfl (fun i m hi hm=>?_) (fun m hm=>?_)
  ·have hv:=Hm (a:=a) i
   have hl:=hv.L7 ha
   have hii:=h3 i hi
   have hn:=hv.ns _ (FE hii)
   have es:=F1 hii
   have hh:=hm.has (t:=b.t)
   by_cases hf:b.t∈(AS a i).1.map BT.t
   ·rw[decide_eq_true hf]at hh
    simp(disch:=first|omega|simp only[vl];omega) only[AA,List.length_map,hh,Y3]
    exact⟨i,m,by omega,hm,hf,rfl⟩
   ·rw[decide_eq_false hf]at hh
    have hnb:=N5 (x:=A4 (AS a i).1 i)
    simp(disch:=first|omega|simp only[vl];omega) only[AA,List.length_map,hh,es]
    refine AD (ADU (K:=K) (x:=A4 (AS a i).1 i) (by omega)) rfl ?_
    simp(disch:=first|omega|simp only[vl];omega) only[AA]
    obtain⟨l,hll⟩:∃l,l=Cy (A4 (AS a i).1 i):=⟨_,rfl⟩
    have hmem:∀u∈l,u.n=a.n:=fun u hu=>by rw[hll]at hu;exact(VY hu).trans hn
    have hR:AS a (i+1)=l.foldl (DQ i) (AS a i):=by rw[hll];rfl
    rw[←hll]at hnb⊢
    refine Au (fun k m=>IK m ((l.take k).foldl (DQ i) (AS a i))) (fun k m=>[.u,.s b.t,.u,.u,MS m,LS (((l.take k).foldl (DQ i) (AS a i)).1.map BT.t),.n i,.u,.u,.u,.u,.u,.u,.u,.u,DK l,.n l.length,.n k,.u,.u,.u]) l.length m hm (by simp) (fun k m hk hM=>?_) (fun m hM=>?_)
    ·obtain⟨S,hS⟩:∃S,S=(l.take k).foldl (DQ i) (AS a i):=⟨_,rfl⟩
     have hp:Ec (AS a i) S:=by rw[hS];exact OU
     rw[←hS]at hM⊢
     have hvS:BI a S:=by
      rw[hS]
      exact hv.fold (fun u hu=>hmem u (List.mem_of_mem_take hu)) hii
     have hlS:=hvS.L7 ha
     have hls:=hvS.len
     have et:l.take (k+1)=l.take k++[A4 l k]:=by
      rw[CU hk,HJ hk]
     have ek:=F1 hk
     have tl:=BT.tl (A4 l k)
     have tn:=hmem _ (FE hk)
     have hiS:i<S.1.length:=by
      obtain⟨r,q,e,_⟩:=hp
      rw[e,A7];omega
     have esS:=F1 hiS
     have hh2:=hM.has (t:=(A4 l k).t)
     by_cases hc:(A4 l k).t∈S.1.map BT.t
     ·rw[decide_eq_true hc]at hh2
      simp(disch:=first|omega|simp only[vl];omega) only[AA,List.length_map,ek,hh2]
      refine⟨m,?_,?_⟩
      ·rw[et,List.foldl_append,←hS]
       simp only[List.foldl_cons,List.foldl_nil,DQ,if_pos hc]
       exact hM
      ·rw[et,List.foldl_append,←hS]
       simp only[List.foldl_cons,List.foldl_nil,DQ,if_pos hc]
     ·rw[decide_eq_false hc]at hh2
      simp(disch:=first|omega|simp only[vl];omega) only[AA,List.length_map,ek,hh2,esS]
      refine⟨FV (A4 l k).t (A4 S.1 i).t m,?_,?_⟩
      ·rw[et,List.foldl_append,←hS]
       simp only[List.foldl_cons,List.foldl_nil,DQ,if_neg hc]
       exact hM.put hvS hc hiS
      ·rw[et,List.foldl_append,←hS]
       simp only[List.foldl_cons,List.foldl_nil,DQ,if_neg hc,List.map_append,List.map_cons,List.map_nil]
    ·rw[List.take_length,←hR]at hM⊢
     simp(disch:=first|omega|simp only[vl];omega) only[AA,List.length_map]
     exact⟨m,hM,rfl⟩
  ·simp(disch:=first|omega|simp only[vl];omega) only[AA,List.length_map,h2,Y3]
   exact⟨N,m,Nat.le_refl _,hm,hk4,rfl⟩
 ·rintro _ ⟨i,m,hi,hm,hbm,rfl⟩;have hv:=Hm (a:=a) i;have hpre:=OR (a:=a) hi;obtain⟨k',hk',e',e''⟩:=Ws hv hbm;have hlen:=hv.L7 ha;have hkk:k'=k:=by
   obtain⟨r,q,e,_⟩:=hpre;have hN:=(Hm (a:=a) N).nd;have q1:(A4 (AS a N).1 k').t=b.t:=by rw[e,JK hk',e']
   have q2:(A4 (AS a N).1 k).t=b.t:=by rw[hk2]
   have hle:(AS a i).1.length≤(AS a N).1.length:=by rw[e,A7];omega
   refine Aa8 hN (by rw[List.length_map];omega) (by rw[List.length_map];omega) ?_;rw[List.getElem_map,List.getElem_map,←HJ,←HJ,q1,q2]
  subst hkk;have ew:DD (AS a N) (k'+1) k'=DD (AS a i) (k'+1) k':=(APK hv hpre hk').symm;rw[ew];have hwl:=RE (S:=AS a i) (f:=k'+1) (k:=k');simp(disch:=first|omega|simp only[vl];omega) only[AA];refine Be (fun(x:Int×List (List Nat))=>-1≤x.1∧x.1<(AS a i).1.length∧(if x.1<0 then []else DD (AS a i) (x.1.toNat+1) x.1.toNat)++x.2.reverse=DD (AS a i) (k'+1) k') (fun x=>[.u,.u,.u,.u,MS m,.u,.u,.u,.u,.u,LS x.2,.s (if x.1<0 then []else(A4 (AS a i).1 x.1.toNat).t),.u,.u,.u,.u,.u,.u,.u,.u,.u]) (fun x=>(x.1+1).toNat) ((k':Int),[]) ⟨by simp only;omega,by simp only;omega,by simp only[List.reverse_nil,List.append_nil,BH];rw[if_neg (by omega)]⟩ (by simp only[BH];rw[if_neg (by omega),e'];rfl) ?_;rintro⟨j,out⟩ ⟨g1,g2,g3⟩;simp only at g1 g2 g3⊢;have g4:out.length≤k'+1:=by have:=congrArg List.length g3;rw[A7,List.length_reverse]at this;omega
  by_cases hj:0≤j
  ·obtain⟨n,rfl⟩:∃n:Nat,j=n:=⟨j.toNat,by omega⟩;have hmN:n<(AS a i).1.length:=by omega
   have tl:=BT.tl (A4 (AS a i).1 n);have hne:((A4 (AS a i).1 n).t==[])=false:=by rw[beq_eq_false_iff_ne];intro q;rw[q]at tl;simp at tl
   have hp:-1≤AE (AS a i).2 (n:Nat)∧AE (AS a i).2 (n:Nat)<n:=by
    rcases Nat.eq_zero_or_pos n with rfl|h0
    ·have:=hv.hd.2.1;simp only[Int.ofNat_eq_natCast,Int.natCast_zero];omega
    ·have:=hv.par n h0 hmN;omega
   have hg:=hm.1 n hmN;rw[if_neg (by omega),BH]at g3⊢;rw[show DD (AS a i) (n+1) n=(if AE (AS a i).2 (n:Nat)<0 then []else DD (AS a i) n (AE (AS a i).2 (n:Nat)).toNat)++[(A4 (AS a i).1 n).t]from rfl]at g3;simp(disch:=first|omega|simp only[vl];omega) only[AA,hne,hg,Option.getD_some];refine⟨(AE (AS a i).2 (n:Nat),out++[(A4 (AS a i).1 n).t]),by simp only;omega,⟨by simp only;omega,by simp only;omega,?_⟩,rfl⟩;rw[←g3];simp only[List.reverse_append,List.reverse_cons,List.reverse_nil,List.nil_append,List.cons_append];by_cases q:AE (AS a i).2 (n:Nat)<0
   ·rw[if_pos q,if_pos q];simp
   ·rw[if_neg q,if_neg q,O3 hv (f:=n) (by omega) (by omega)];simp
  ·rw[if_pos (by omega),List.nil_append]at g3;rw[if_pos (by omega)];have e0:((([]:List Nat))==[])=true:=rfl;simp(disch:=first|omega|simp only[vl];omega) only[AA,e0];refine AD (AaL (K:=K) (a:=out) (by omega)) rfl ?_;simp(disch:=first|omega|simp only[vl];omega) only[AA];rw[g3]
end Go.Cat
namespace Go.Cat
variable{K:Nat→List D→List D→Prop}
theorem Qw[HA K]{a b:List Nat}(h1:K 367 [.s a,.s b,.n 5] [.b false]):K 348 [.s a,.s b] [LS [],.b false]:=by refine qb Nf rfl ?_;simp only[Nf];simp(disch:=omega) only[AA];refine AD (h1) rfl ?_;simp(disch:=omega) only[AA];rfl
theorem Oz[HA K][El K](a b:List Nat):∃(t:List (List Nat))(r:Bool),t.length≤43∧(r=true→0<t.length)∧K 348 [.s a,.s b] [LS t,.b r]∧K 347 [.s a,.s b] [LS t,.b r]:=by
 cases ha:Ct a with
 |false=>
  refine⟨[],false,by simp,by simp,Qw ?_,?_⟩
  ·refine qb Gp rfl ?_;simp only[Gp]
   simp(disch:=omega) only[AA]
   refine AD (N8 (K:=K) ha) rfl ?_
   simp(disch:=omega) only[AA]
  ·refine qb HT rfl ?_;simp only[HT]
   simp(disch:=omega) only[AA]
   refine AD (AFW (K:=K) (a:=a) (b:=b) ha) rfl ?_
   simp(disch:=omega) only[AA]
   rfl
 |true=>
  obtain⟨x,rfl,hx⟩:=JM ha
  cases hb:Ct b with
  |false=>
   refine⟨[],false,by simp,by simp,Qw ?_,?_⟩
   ·refine qb Gp rfl ?_;simp only[Gp]
    simp(disch:=omega) only[AA]
    refine AD (Fk (K:=K) hx) rfl ?_
    by_cases h5:(x.n:Int)≤5
    ·simp(disch:=omega) only[AA]
     refine AD (N8 (K:=K) hb) rfl ?_
     simp(disch:=omega) only[AA]
    ·simp(disch:=omega) only[AA]
   ·refine qb HT rfl ?_;simp only[HT]
    simp(disch:=omega) only[AA]
    refine AD (ACA (K:=K) (x:=x) (b:=b) hx hb) rfl ?_
    simp(disch:=omega) only[AA]
    rfl
  |true=>
   obtain⟨y,rfl,hy⟩:=JM hb
   by_cases h5:x.n≤5
   ·by_cases hn:x.n=y.n
    ·obtain⟨N,h1,h2,h3,h4⟩:=AU2 h5
     have h4':=h4 y hn.symm
     obtain⟨k,hk,hk2,hk3⟩:=Ws (Hm (a:=x) N) h4'
     rw[h2]at hk
     have hl:=RE (S:=AS x N) (f:=k+1) (k:=k)
     refine⟨DD (AS x N) (k+1) k,true,by omega,fun _=>by simp[DD],ASP h5 hn.symm h1 h2 h3 hk hk2 h4',ATQ h5 hn.symm h1 h2 h3 hk hk2 hk3⟩
    ·have k1:=Hv (K:=K) (x:=x) (y:=y) (m:=5) hx hy (by omega)
     rw[decide_eq_false hn,Bool.and_false]at k1
     refine⟨[],false,by simp,by simp,Qw k1,?_⟩
     have k2:=Hu (K:=K) hx hy
     rw[decide_eq_false hn]at k2
     refine qb HT rfl ?_;simp only[HT]
     simp(disch:=omega) only[AA]
     refine AD (k2) rfl ?_
     simp(disch:=omega) only[AA]
     rfl
   ·have k1:=Hv (K:=K) (x:=x) (y:=y) (m:=5) hx hy (by omega)
    rw[decide_eq_false (p:=(x.n:Int)≤5) (by omega),Bool.false_and]at k1
    refine⟨[],false,by simp,by simp,Qw k1,?_⟩
    have k2:=Hu (K:=K) hx hy
    refine qb HT rfl ?_;simp only[HT]
    simp(disch:=omega) only[AA]
    refine AD (k2) rfl ?_
    by_cases hn:x.n=y.n
    ·rw[decide_eq_true hn]
     simp(disch:=omega) only[AA]
     refine AD (Dz (K:=K) hx) rfl ?_
     simp(disch:=omega) only[AA]
     rfl
    ·rw[decide_eq_false hn]
     simp(disch:=omega) only[AA]
     rfl
theorem AXO[HA K][El K](a b:List Nat):∃v:Int,-1≤v∧v≤43∧K 617 [.s a,.s b] [.n v]∧K 612 [.s a,.s b] [.n v]:=by
 obtain⟨t,r,h1,h2,ki,ks⟩:=Oz (K:=K) a b
 cases r with
 |false=>
  refine⟨-1,by omega,by omega,?_,?_⟩
  ·refine qb QH rfl ?_;simp only[QH]
   simp(disch:=omega) only[AA]
   refine AD (ki) rfl ?_
   simp(disch:=omega) only[AA]
  ·refine qb Qj rfl ?_;simp only[Qj]
   simp(disch:=omega) only[AA]
   refine AD (ks) rfl ?_
   simp(disch:=omega) only[AA]
 |true=>
  refine⟨(t.length:Int)-1,by omega,by omega,?_,?_⟩
  ·refine qb QH rfl ?_;simp only[QH]
   simp(disch:=omega) only[AA]
   refine AD (ki) rfl ?_
   simp(disch:=omega) only[AA]
  ·refine qb Qj rfl ?_;simp only[Qj]
   simp(disch:=omega) only[AA]
   refine AD (ks) rfl ?_
   simp(disch:=omega) only[AA]
end Go.Cat
