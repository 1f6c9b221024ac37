/-
 Ways of rotations, on both sides.
-/
import Derived.Test.YtnjjceodpbhlmaaGreatPfWayM
import Derived.Test.YtnjjceodpbhlmaaGreatIrHas
set_option linter.unusedSimpArgs false
set_option linter.unusedVariables false
namespace Go.Cat
variable {K:Nat→List D→List D→Prop}
theorem UO [HA K] {ws:List (List Nat)} {k:List Nat} (h:ws.length≤100000):K 378 [LS ws,.s k] [.b (decide (k∈ws))]:=by
 refine AG (f:=M4) rfl ?_; simp only [M4,zu]
 simp (disch:=omega) only [AA]
 refine Ag (fun i=>k∉ws.take i) (fun i=>[LS ws,.s k,.u,.n i,.u,.u]) ws.length (by simp) rfl (fun i hi hP=>?_) (fun hP=>?_)
 ·have et:ws.take (i+1)=ws.take i++[AL ws i]:=by
   rw [ED hi]; simp [AL,hi]
  have hm:AL ws i∈ws:=by simp [AL,hi]
  cases hc:(AL ws i == k)
  ·simp (disch:=omega) only [AA,hc]
   rw [et]
   intro q
   rcases A8.1 q with q | q
   ·exact hP q
   ·simp only [List.mem_singleton] at q
    rw [q] at hc
    simp at hc
  ·have e:AL ws i=k:=by simpa using hc
   simp (disch:=omega) only [AA,hc]
   rw [← e]
   simp [hm]
 ·rw [List.take_length] at hP
  simp (disch:=omega) only [AA]
  simp [hP]
theorem AQY [HA K] {a:List (List Nat)} (h:a.length≤1000000000):K 368 [LS a] [LS a.reverse]:=by
 refine AG (f:=K7) rfl ?_; simp only [K7,zu]
 simp (disch:=first|omega|simp only[vl];omega) only [AA]
 refine B9 (fun (x:Nat×List (List Nat))=>2*x.1≤a.length+1∧x.2.length=a.length∧∀ j:Nat,j<a.length→AL x.2 j=if j<x.1∨a.length≤j+x.1 then AL a (a.length-1-j:Nat) else AL a j)
  (fun x=>[LS x.2,.n x.1,.n ((a.length:Int)-1-x.1),.u]) (fun x=>a.length-x.1) (0,a) ⟨by simp,rfl,by intro j hj; rw [if_neg (by omega)]⟩ (by simp (disch:=first|omega|simp only[vl];omega) only [AA,Int.sub_zero]) ?_
 rintro ⟨i,o⟩ ⟨h1,h2,h3⟩
 simp only at h1 h2 h3
 by_cases hc:2*i+1<a.length
 ·simp (disch:=first|omega|simp only[vl];omega) only [AA]
  have e:((a.length-1-i:Nat):Int)=(a.length:Int)-1-i:=by omega
  rw [← e]
  refine ⟨(i+1,Em (Em o i (AL o ((a.length-1-i:Nat):Int))) ((a.length-1-i:Nat):Int) (AL o i)),?_,⟨?_,?_,?_⟩,?_⟩
  rotate_left 4
  ·have:((a.length-1-i:Nat):Int)-1=(a.length:Int)-1-((i+1:Nat):Int):=by omega
   rw [this]; rfl
  ·show a.length-(i+1)<a.length-i; omega
  ·show 2*(i+1)≤a.length+1; omega
  ·show (Em (Em o i _) _ _).length=a.length
   rw [Mt,Mt,h2]
  ·intro j hj
   show AL (Em (Em o i _) (a.length-1-i:Nat) _) j=_
   rw [ZW (by rw [Mt]; omega),ZW (by omega)]
   have a1:=h3 i (by omega)
   have a2:=h3 (a.length-1-i) (by omega)
   rw [if_neg (by omega)] at a1 a2
   by_cases j1:a.length-1-i=j
   ·rw [if_pos j1,if_pos (by omega),a1]
    congr 2; omega
   ·rw [if_neg j1]
    by_cases j2:i=j
    ·rw [if_pos j2,if_pos (by omega),a2]
     congr 2; omega
    ·rw [if_neg j2,h3 j hj]
     by_cases j3:j<i∨a.length≤j+i
     ·rw [if_pos j3,if_pos (by omega)]
     ·rw [if_neg j3,if_neg (by omega)]
 ·simp (disch:=first|omega|simp only[vl];omega) only [AA]
  have e:o=a.reverse:=by
   refine List.ext_getElem (by simp [h2]) fun j hj hj2=>?_
   have:=h3 j (by omega)
   simp only [AL,CB,BP] at this
   rw [GC (by omega),GC (by omega),GC (by omega)] at this
   simp only [Option.getD_some] at this
   rw [this,List.getElem_reverse]
   split
   ·rfl
   ·congr 1; omega
  rw [e]
theorem AGK [HA K] {a:BT} {N:Nat} (ha:a.n≤5) (h1:N≤42) (h2:(AO a N).1.length=N) (h3:∀ j,j<N→j<(AO a j).1.length):K 366 [.s a.t] [LS ((AO a N).1.map BT.t),LI (AO a N).2]:=by
 refine AG (f:=MZ) rfl ?_; simp only [MZ,zu]
 simp (disch:=first|omega|simp only[vl];omega) only [AA]
 refine Ag (fun i=>True) (fun i=>[.u,.u,.u,LS ((AO a i).1.map BT.t),LI (AO a i).2,.n i,.u,.u,.u,.u,.u]) N trivial rfl (fun i hi _=>?_) (fun _=>?_)
 ·have hv:=E5 (a:=a) i
  have hl:=hv.KL ha
  have hii:=h3 i hi
  have hn:=hv.ns _ (FO hii)
  have es:=Gj hii
  have hnb:=PF (x:=AX (AO a i).1 i)
  simp (disch:=first|omega|simp only[vl];omega) only [AA,List.length_map,es]
  refine AE (ACF (K:=K) (x:=AX (AO a i).1 i) (by omega)) rfl ?_
  simp (disch:=first|omega|simp only[vl];omega) only [AA]
  obtain ⟨l,hll⟩:∃ l,l=Bu (AX (AO a i).1 i):=⟨_,rfl⟩
  have hmem:∀ u∈l,u.n=a.n:=fun u hu=>by rw [hll] at hu; exact (KM hu).trans hn
  have hR:AO a (i+1)=l.foldl (Bv i) (AO a i):=by rw [hll]; rfl
  rw [← hll] at hnb ⊢
  refine CK (fun k (S:List BT×List Int)=>S=(l.take k).foldl (Bv i) (AO a i)) (fun k S=>[.u,.u,.u,LS (S.1.map BT.t),LI S.2,.n i,G8 l,.n k,.u,.u,.u]) l.length (AO a i) rfl rfl (fun k S hk hS=>?_) (fun S hS=>?_)
  ·have hvS:BI a S:=by
    rw [hS]
    exact hv.fold (fun u hu=>hmem u (List.mem_of_mem_take hu)) hii
   have hlS:=hvS.KL ha
   have hls:=hvS.len
   have et:l.take (k+1)=l.take k++[AX l k]:=by
    rw [ED hk,H8 hk]
   have ek:=Gj hk
   have tl:=BT.tl (AX l k)
   have tn:=hmem _ (FO hk)
   simp (disch:=first|omega|simp only[vl];omega) only [AA,List.length_map,ek]
   have k15:=UO (K:=K) (ws:=S.1.map BT.t) (k:=(AX l k).t) (by rw [List.length_map]; omega)
   refine AE (k15) rfl ?_
   by_cases hc:(AX l k).t∈S.1.map BT.t
   ·rw [decide_eq_true hc]
    simp (disch:=first|omega|simp only[vl];omega) only [AA]
    refine ⟨S,?_,rfl⟩
    rw [et,List.foldl_append,← hS]
    simp only [List.foldl_cons,List.foldl_nil,Bv,if_pos hc]
   ·rw [decide_eq_false hc]
    simp (disch:=first|omega|simp only[vl];omega) only [AA,List.length_map,ek]
    refine ⟨(S.1++[AX l k],S.2++[(i:Int)]),?_,by simp⟩
    rw [et,List.foldl_append,← hS]
    simp only [List.foldl_cons,List.foldl_nil,Bv,if_neg hc]
  ·rw [List.take_length,← hR] at hS
   subst hS
   simp (disch:=first|omega|simp only[vl];omega) only [AA,List.length_map]
 ·simp (disch:=first|omega|simp only[vl];omega) only [AA,List.length_map,h2]
theorem Rs {a:BT} {S:List BT×List Int} (h:BI a S) {b:BT} (hb:b.t∈S.1.map BT.t):∃ k,k<S.1.length∧AX S.1 k=b∧∀ j,j<k→¬ (AX S.1 j).t=b.t:=by
 obtain ⟨y,hy,e⟩:=List.mem_map.1 hb
 obtain rfl:=Jq e
 obtain ⟨j,hj,e2⟩:=List.getElem_of_mem hy
 obtain ⟨m,h1,h2,h3⟩:=S0 (P:=fun j=>j<S.1.length∧(AX S.1 j).t=y.t) (n:=j) ⟨hj,by rw [H8 hj,e2]⟩
 exact ⟨m,h2.1,Jq h2.2,fun j hj q=>h3 j hj ⟨by omega,q⟩⟩
theorem AA5 [HA K] {a b:BT} {N k:Nat} (ha:a.n≤5) (hb:b.n=a.n) (h1:N≤42) (h2:(AO a N).1.length=N) (h3:∀ j,j<N→j<(AO a j).1.length) (hk:k<N) (hk2:AX (AO a N).1 k=b) (hk3:∀ j,j<k→¬ (AX (AO a N).1 j).t=b.t):K 347 [.s a.t,.s b.t] [LS (CM (AO a N) (k+1) k),.b true]:=by
 have hv:=E5 (a:=a) N
 have hl2:=hv.len
 have ed:decide (a.n=b.n)=true:=decide_eq_true hb.symm
 refine AG (f:=DA) rfl ?_; simp only [DA,zu]
 simp (disch:=first|omega|simp only[vl];omega) only [AA]
 refine AE (KP (K:=K) (x:=a) (y:=b) (by omega) (by omega)) rfl ?_
 rw [ed]
 simp (disch:=first|omega|simp only[vl];omega) only [AA]
 refine AE (Ef (K:=K) (x:=a) (by omega)) rfl ?_
 simp (disch:=first|omega|simp only[vl];omega) only [AA]
 refine AE (AGK (K:=K) ha h1 h2 h3) rfl ?_
 simp (disch:=first|omega|simp only[vl];omega) only [AA]
 refine Ag (fun i=>True) (fun i=>[.u,.s b.t,.u,.u,LS ((AO a N).1.map BT.t),LI (AO a N).2,.n i,.u,.u,.u,.u,.u,.u]) k trivial rfl (fun i hi _=>?_) (fun _=>?_)
 ·have es:=Gj (l:=(AO a N).1) (i:=i) (by omega)
  have hne:((AX (AO a N).1 i).t == b.t)=false:=by rw [beq_eq_false_iff_ne]; exact hk3 i hi
  simp (disch:=first|omega|simp only[vl];omega) only [AA,List.length_map,es,hne]
 ·have es:=Gj (l:=(AO a N).1) (i:=k) (by omega)
  rw [hk2] at es
  have heq:(b.t == b.t)=true:=by simp
  simp (disch:=first|omega|simp only[vl];omega) only [AA,List.length_map,es,heq]
  refine B9 (fun (x:Int×List (List Nat))=>-1≤x.1∧x.1<N∧(if x.1<0 then [] else CM (AO a N) (x.1.toNat+1) x.1.toNat)++x.2=CM (AO a N) (k+1) k) (fun x=>[.u,.u,.u,.u,LS ((AO a N).1.map BT.t),LI (AO a N).2,.u,LS x.2,.n x.1,.u,.u,.u,.u]) (fun x=>(x.1+1).toNat) ((k:Int),[]) ⟨by simp only; omega,by simp only; omega,by simp only [List.append_nil,CB]; rw [if_neg (by omega)]⟩ rfl ?_
  rintro ⟨j,out⟩ ⟨g1,g2,g3⟩
  simp only at g1 g2 g3 ⊢
  by_cases hj:0≤j
  ·obtain ⟨m,rfl⟩:∃ m:Nat,j=m:=⟨j.toNat,by omega⟩
   have hmN:m<(AO a N).1.length:=by omega
   have em:=Gj hmN
   have g4:out.length≤k+1:=by
    have:=congrArg List.length g3
    rw [Ad] at this
    have:=KV (S:=AO a N) (f:=k+1) (k:=k)
    omega
   have hp:-1≤AD (AO a N).2 (m:Nat)∧AD (AO a N).2 (m:Nat)<m:=by
    rcases Nat.eq_zero_or_pos m with rfl | h0
    ·have:=hv.hd.2.1
     simp only [Int.ofNat_eq_natCast,Int.natCast_zero]
     omega
    ·have:=hv.par m h0 hmN
     omega
   rw [if_neg (by omega),CB,show CM (AO a N) (m+1) m=(if AD (AO a N).2 (m:Nat)<0 then [] else CM (AO a N) m (AD (AO a N).2 (m:Nat)).toNat)++[(AX (AO a N).1 m).t] from rfl] at g3
   simp (disch:=first|omega|simp only[vl];omega) only [AA,List.length_map,em]
   refine ⟨(AD (AO a N).2 (m:Nat),(AX (AO a N).1 m).t::out),by simp only; omega,⟨by simp only; omega,by simp only; omega,?_⟩,rfl⟩
   rw [← g3]
   simp only
   by_cases q:AD (AO a N).2 (m:Nat)<0
   ·rw [if_pos q,if_pos q]; simp
   ·rw [if_neg q,if_neg q,P9 hv (f:=m) (by omega) (by omega)]; simp
  ·rw [if_pos (by omega),List.nil_append] at g3
   simp (disch:=first|omega|simp only[vl];omega) only [AA]
   rw [g3]
def HT (m:List (List Nat×List Nat)) (S:List BT×List Int):Prop:=
 (∀ j,j<S.1.length→Co (AX S.1 j).t m=some (if AD S.2 (j:Nat)<0 then [] else (AX S.1 (AD S.2 (j:Nat)).toNat).t))∧∀ t,t∉S.1.map BT.t→Co t m=none
theorem Sy {α:Type} {k k':List Nat} {v:α}:∀ {m:List (List Nat×α)},Co k' (Fm k v m)=if k'=k then some v else Co k' m
 | []=>by simp [Fm,Co]
 | (j,x)::m=>by
  simp only [Fm]
  by_cases h:k=j
  ·rw [if_pos h]
   subst h
   simp only [Co]
   by_cases q:k'=k
   ·rw [if_pos q,if_pos q]
   ·rw [if_neg q,if_neg q,if_neg q]
  ·rw [if_neg h]
   simp only [Co]
   rw [Sy]
   by_cases q:k'=j
   ·subst q
    rw [if_pos rfl,if_neg (fun e=>h e.symm),if_pos rfl]
   ·rw [if_neg q,if_neg q]
theorem HT.has {m:List (List Nat×List Nat)} {S:List BT×List Int} (h:HT m S) {t:List Nat}:(Co t m).isSome=decide (t∈S.1.map BT.t):=by
 by_cases q:t∈S.1.map BT.t
 ·obtain ⟨y,hy,e⟩:=List.mem_map.1 q
  obtain ⟨j,hj,e2⟩:=List.getElem_of_mem hy
  have:=h.1 j hj
  rw [H8 hj,e2,e] at this
  rw [this,decide_eq_true q]; rfl
 ·rw [h.2 t q,decide_eq_false q]; rfl
theorem HT.put {m:List (List Nat×List Nat)} {a:BT} {S:List BT×List Int} (h:HT m S) (hv:BI a S) {u:BT} {i:Nat} (hu:u.t∉S.1.map BT.t) (hi:i<S.1.length):HT (Fm u.t (AX S.1 i).t m) (S.1++[u],S.2++[(i:Int)]):=by
 have hl:=hv.len
 refine ⟨fun j hj=>?_,fun t ht=>?_⟩
 ·simp only [Ad,A6,Aq] at hj ⊢
  rw [Sy]
  by_cases q:j<S.1.length
  ·have hne:¬ (AX S.1 j).t=u.t:=fun e=>hu (by rw [← e]; exact List.mem_map.2 ⟨_,FO q,rfl⟩)
   rw [EL q,if_neg hne,IJ (by omega),h.1 j q]
   by_cases q2:AD S.2 (j:Nat)<0
   ·rw [if_pos q2,if_pos q2]
   ·have hj0:0<j:=by
     rcases Nat.eq_zero_or_pos j with rfl | h0
     ·exact absurd (show AD S.2 ((0:Nat):Int)<0 by have:=hv.hd.2.1; simp only [Int.ofNat_eq_natCast,Int.natCast_zero]; omega) q2
     ·exact h0
    have:=hv.par j hj0 q
    rw [if_neg q2,if_neg q2,EL (by omega)]
  ·obtain rfl:j=S.1.length:=by omega
   have e1:AX (S.1++[u]) S.1.length=u:=by simp [AX]
   have e2:AD (S.2++[(i:Int)]) (S.1.length:Nat)=i:=by rw [← hl]; simp [AD]
   rw [e1,if_pos rfl,e2,if_neg (by omega),CB,EL hi]
 ·simp only [List.map_append,List.map_cons,List.map_nil,A8,List.mem_singleton,not_or] at ht
  rw [Sy,if_neg ht.2,h.2 t ht.1]
def Ry (j:Nat) (R:Env→Prop):X→Env→Prop:=fun x e=>x=.ex j∧R e
theorem AD2 {j:Nat} {R:Env→Prop} {e:Env}:Ry j R (.ex j) e=R e:=by simp [Ry]
theorem ANM {b:S} {Q:X→Env→Prop} {e:Env} (j:Nat) (R:Env→Prop) (h:wpS K (.loop b) (Ry j R) e) (h2:∀ e,R e→Q (.ex j) e):wpS K (.loop b) Q e:=by
 refine Ck _ (fun x e h=>?_) h
 obtain ⟨rfl,h⟩:=h
 exact h2 e h
theorem ARV {l:List (List Nat)} (h:l.Nodup) {i j:Nat} (hi:i<l.length) (hj:j<l.length) (e:l[i]=l[j]):i=j:=by
 rcases Nat.lt_trichotomy i j with q | q | q
 ·exact absurd e (List.pairwise_iff_getElem.1 h i j hi hj q)
 ·exact q
 ·exact absurd e.symm (List.pairwise_iff_getElem.1 h j i hj hi q)
theorem Uj [HA K] [Cm K 201 C7] [HA K] [CZ K] {a b:BT} {N k:Nat} (ha:a.n≤5) (hb:b.n=a.n) (h1:N≤42) (h2:(AO a N).1.length=N) (h3:∀ j,j<N→j<(AO a j).1.length) (hk:k<N) (hk2:AX (AO a N).1 k=b) (hk4:b.t∈(AO a N).1.map BT.t):K 348 [.s a.t,.s b.t] [LS (CM (AO a N) (k+1) k),.b true]:=by
 have ed:(decide ((a.n:Int)≤5)&&decide (a.n=b.n))=true:=by rw [decide_eq_true (by omega),decide_eq_true hb.symm]; rfl
 refine AG (f:=Hx) rfl ?_; simp only [Hx,zu]
 simp (disch:=first|omega|simp only[vl];omega) only [AA]
 refine AE (Ja (K:=K) (x:=a) (y:=b) (m:=5) (by omega) (by omega) (by omega)) rfl ?_
 rw [ed]
 simp (disch:=first|omega|simp only[vl];omega) only [AA]
 refine ANM 0 (fun e=>∃ i m,i≤N∧HT m (AO a i)∧b.t∈(AO a i).1.map BT.t∧e=[.u,.s b.t,.u,.u,MS m,LS ((AO a i).1.map BT.t),.n i,.u,.u,.u,.u,.u,.u,.u,.u,.u,.u,.u,.u,.u,.u]) ?_ ?_
 ·refine CK (fun i m=>HT m (AO a i)) (fun i m=>[.u,.s b.t,.u,.u,MS m,LS ((AO a i).1.map BT.t),.n i,.u,.u,.u,.u,.u,.u,.u,.u,.u,.u,.u,.u,.u,.u]) N [(a.t,[])] ⟨fun j hj=>by
    simp only [AO,A6,Aq] at hj
    obtain rfl:j=0:=by omega
    simp [AO,AX,Co,AD],fun t ht=>by
    simp only [AO,List.map_cons,List.map_nil,List.mem_singleton] at ht
    simp [Co,ht]⟩ rfl (fun i m hi hm=>?_) (fun m hm=>?_)
  ·have hv:=E5 (a:=a) i
   have hl:=hv.KL ha
   have hii:=h3 i hi
   have hn:=hv.ns _ (FO hii)
   have es:=Gj hii
   have hh:=hm.has (t:=b.t)
   by_cases hf:b.t∈(AO a i).1.map BT.t
   ·rw [decide_eq_true hf] at hh
    simp (disch:=first|omega|simp only[vl];omega) only [AA,List.length_map,hh,AD2]
    exact ⟨i,m,by omega,hm,hf,rfl⟩
   ·rw [decide_eq_false hf] at hh
    have hnb:=PF (x:=AX (AO a i).1 i)
    simp (disch:=first|omega|simp only[vl];omega) only [AA,List.length_map,hh,es]
    refine AE (AEE (K:=K) (x:=AX (AO a i).1 i) (by omega)) rfl ?_
    simp (disch:=first|omega|simp only[vl];omega) only [AA]
    obtain ⟨l,hll⟩:∃ l,l=Bu (AX (AO a i).1 i):=⟨_,rfl⟩
    have hmem:∀ u∈l,u.n=a.n:=fun u hu=>by rw [hll] at hu; exact (KM hu).trans hn
    have hR:AO a (i+1)=l.foldl (Bv i) (AO a i):=by rw [hll]; rfl
    rw [← hll] at hnb ⊢
    refine CK (fun k m=>HT m ((l.take k).foldl (Bv i) (AO a i))) (fun k m=>[.u,.s b.t,.u,.u,MS m,LS (((l.take k).foldl (Bv i) (AO a i)).1.map BT.t),.n i,.u,.u,.u,.u,.u,.u,.u,.u,G8 l,.n l.length,.n k,.u,.u,.u]) l.length m hm (by simp) (fun k m hk hM=>?_) (fun m hM=>?_)
    ·obtain ⟨S,hS⟩:∃ S,S=(l.take k).foldl (Bv i) (AO a i):=⟨_,rfl⟩
     have hp:Du (AO a i) S:=by rw [hS]; exact Pk
     rw [← hS] at hM ⊢
     have hvS:BI a S:=by
      rw [hS]
      exact hv.fold (fun u hu=>hmem u (List.mem_of_mem_take hu)) hii
     have hlS:=hvS.KL ha
     have hls:=hvS.len
     have et:l.take (k+1)=l.take k++[AX l k]:=by
      rw [ED hk,H8 hk]
     have ek:=Gj hk
     have tl:=BT.tl (AX l k)
     have tn:=hmem _ (FO hk)
     have hiS:i<S.1.length:=by
      obtain ⟨r,q,e,_⟩:=hp
      rw [e,Ad]; omega
     have esS:=Gj hiS
     have hh2:=hM.has (t:=(AX l k).t)
     by_cases hc:(AX l k).t∈S.1.map BT.t
     ·rw [decide_eq_true hc] at hh2
      simp (disch:=first|omega|simp only[vl];omega) only [AA,List.length_map,ek,hh2]
      refine ⟨m,?_,?_⟩
      ·rw [et,List.foldl_append,← hS]
       simp only [List.foldl_cons,List.foldl_nil,Bv,if_pos hc]
       exact hM
      ·rw [et,List.foldl_append,← hS]
       simp only [List.foldl_cons,List.foldl_nil,Bv,if_pos hc]
     ·rw [decide_eq_false hc] at hh2
      simp (disch:=first|omega|simp only[vl];omega) only [AA,List.length_map,ek,hh2,esS]
      refine ⟨Fm (AX l k).t (AX S.1 i).t m,?_,?_⟩
      ·rw [et,List.foldl_append,← hS]
       simp only [List.foldl_cons,List.foldl_nil,Bv,if_neg hc]
       exact hM.put hvS hc hiS
      ·rw [et,List.foldl_append,← hS]
       simp only [List.foldl_cons,List.foldl_nil,Bv,if_neg hc,List.map_append,List.map_cons,List.map_nil]
    ·rw [List.take_length,← hR] at hM ⊢
     simp (disch:=first|omega|simp only[vl];omega) only [AA,List.length_map]
     exact ⟨m,hM,rfl⟩
  ·simp (disch:=first|omega|simp only[vl];omega) only [AA,List.length_map,h2,AD2]
   exact ⟨N,m,Nat.le_refl _,hm,hk4,rfl⟩
 ·rintro _ ⟨i,m,hi,hm,hbm,rfl⟩
  have hv:=E5 (a:=a) i
  have hpre:=MD (a:=a) hi
  obtain ⟨k',hk',e',e''⟩:=Rs hv hbm
  have hlen:=hv.KL ha
  have hkk:k'=k:=by
   obtain ⟨r,q,e,_⟩:=hpre
   have hN:=(E5 (a:=a) N).nd
   have q1:(AX (AO a N).1 k').t=b.t:=by rw [e,EL hk',e']
   have q2:(AX (AO a N).1 k).t=b.t:=by rw [hk2]
   have hle:(AO a i).1.length≤(AO a N).1.length:=by rw [e,Ad]; omega
   refine ARV hN (by rw [List.length_map]; omega) (by rw [List.length_map]; omega) ?_
   rw [List.getElem_map,List.getElem_map,← H8,← H8,q1,q2]
  subst hkk
  have ew:CM (AO a N) (k'+1) k'=CM (AO a i) (k'+1) k':=(ADO hv hpre hk').symm
  rw [ew]
  have hwl:=KV (S:=AO a i) (f:=k'+1) (k:=k')
  simp (disch:=first|omega|simp only[vl];omega) only [AA]
  refine B9 (fun (x:Int×List (List Nat))=>-1≤x.1∧x.1<(AO a i).1.length∧(if x.1<0 then [] else CM (AO a i) (x.1.toNat+1) x.1.toNat)++x.2.reverse=CM (AO a i) (k'+1) k') (fun x=>[.u,.u,.u,.u,MS m,.u,.u,.u,.u,.u,LS x.2,.s (if x.1<0 then [] else (AX (AO a i).1 x.1.toNat).t),.u,.u,.u,.u,.u,.u,.u,.u,.u]) (fun x=>(x.1+1).toNat) ((k':Int),[]) ⟨by simp only; omega,by simp only; omega,by simp only [List.reverse_nil,List.append_nil,CB]; rw [if_neg (by omega)]⟩ (by simp only [CB]; rw [if_neg (by omega),e']; rfl) ?_
  rintro ⟨j,out⟩ ⟨g1,g2,g3⟩
  simp only at g1 g2 g3 ⊢
  have g4:out.length≤k'+1:=by
   have:=congrArg List.length g3
   rw [Ad,List.length_reverse] at this
   omega
  by_cases hj:0≤j
  ·obtain ⟨n,rfl⟩:∃ n:Nat,j=n:=⟨j.toNat,by omega⟩
   have hmN:n<(AO a i).1.length:=by omega
   have tl:=BT.tl (AX (AO a i).1 n)
   have hne:((AX (AO a i).1 n).t == [])=false:=by
    rw [beq_eq_false_iff_ne]
    intro q
    rw [q] at tl
    simp at tl
   have hp:-1≤AD (AO a i).2 (n:Nat)∧AD (AO a i).2 (n:Nat)<n:=by
    rcases Nat.eq_zero_or_pos n with rfl | h0
    ·have:=hv.hd.2.1
     simp only [Int.ofNat_eq_natCast,Int.natCast_zero]
     omega
    ·have:=hv.par n h0 hmN
     omega
   have hg:=hm.1 n hmN
   rw [if_neg (by omega),CB] at g3 ⊢
   rw [show CM (AO a i) (n+1) n=(if AD (AO a i).2 (n:Nat)<0 then [] else CM (AO a i) n (AD (AO a i).2 (n:Nat)).toNat)++[(AX (AO a i).1 n).t] from rfl] at g3
   simp (disch:=first|omega|simp only[vl];omega) only [AA,hne,hg,Option.getD_some]
   refine ⟨(AD (AO a i).2 (n:Nat),out++[(AX (AO a i).1 n).t]),by simp only; omega,⟨by simp only; omega,by simp only; omega,?_⟩,rfl⟩
   rw [← g3]
   simp only [List.reverse_append,List.reverse_cons,List.reverse_nil,List.nil_append,List.cons_append]
   by_cases q:AD (AO a i).2 (n:Nat)<0
   ·rw [if_pos q,if_pos q]; simp
   ·rw [if_neg q,if_neg q,P9 hv (f:=n) (by omega) (by omega)]; simp
  ·rw [if_pos (by omega),List.nil_append] at g3
   rw [if_pos (by omega)]
   have e0:((([]:List Nat)) == [])=true:=rfl
   simp (disch:=first|omega|simp only[vl];omega) only [AA,e0]
   refine AE (AQY (K:=K) (a:=out) (by omega)) rfl ?_
   simp (disch:=first|omega|simp only[vl];omega) only [AA]
   rw [g3]
end Go.Cat
