/-
 The sieve: the program's objects, turned.
-/
import Derived.Test.YthoilpmggmenbaaGreatPfSvT
import Derived.Test.YthoilpmggmenbaaGreatPfWr1
import Derived.Test.YthoilpmggmenbaaGreatPfFmt
import Derived.Test.YthoilpmggmenbaaGreatPfStat
import Derived.Test.YthoilpmggmenbaaGreatQd0LawReports
import Derived.Test.YthoilpmggmenbaaGreatQd1LawReports
import Derived.Test.YthoilpmggmenbaaGreatQd2LawReports
import Derived.Test.YthoilpmggmenbaaGreatQd3LawReports
set_option linter.unusedSimpArgs false
set_option linter.unusedVariables false
namespace Go.Cat
set_option maxRecDepth 100000
variable{K:Nat→List D→List D→Prop}
theorem Nt[HA K]{f n:Nat}(hf:f<3)(hn:1≤n∧n≤5):K 571 [.s (BG f),.n n] [.n (BS f n)]:=by
 have hin:AV 1 5 n=true:=A8.2 (by omega);refine qb N4 rfl ?_;simp only[N4];simp(disch:=first|omega|simp only[vl];omega) only[AA];refine AD (CK (K:=K)) rfl ?_;rcases f3 hf with rfl|rfl|rfl
 ·simp(disch:=first|omega|simp only[vl];omega) only[AA,hin,show(BG 0==[109,97,116,99,104,105,110,103,115])=true from rfl];rfl
 ·simp(disch:=first|omega|simp only[vl];omega) only[AA,hin,show(BG 1==[109,97,116,99,104,105,110,103,115])=false from rfl,show(BG 1==[112,97,114,116,105,116,105,111,110,115])=true from rfl];rfl
 ·simp(disch:=first|omega|simp only[vl];omega) only[AA,hin,show(BG 2==[109,97,116,99,104,105,110,103,115])=false from rfl,show(BG 2==[112,97,114,116,105,116,105,111,110,115])=false from rfl,show(BG 2==[116,114,105,97,110,103,117,108,97,116,105,111,110,115])=true from rfl];rfl
theorem AR9[HA K]{s:List Nat}{n:Int}(h:AV 1 5 n=false∨(s≠BG 0∧s≠BG 1∧s≠BG 2)):K 571 [.s s,.n n] [.n (-1)]:=by
 refine qb N4 rfl ?_;simp only[N4];simp(disch:=first|omega|simp only[vl];omega) only[AA];refine AD (CK (K:=K)) rfl ?_
 cases hin:AV 1 5 n
 ·simp(disch:=first|omega|simp only[vl];omega) only[AA]
 ·rw[hin]at h;have h:=h.resolve_left (by simp);have h0:(s==[109,97,116,99,104,105,110,103,115])=false:=beq_eq_false_iff_ne.2 h.1;have h1:(s==[112,97,114,116,105,116,105,111,110,115])=false:=beq_eq_false_iff_ne.2 h.2.1;have h2:(s==[116,114,105,97,110,103,117,108,97,116,105,111,110,115])=false:=beq_eq_false_iff_ne.2 h.2.2;simp(disch:=first|omega|simp only[vl];omega) only[AA,h0,h1,h2]
theorem ART[HA K]{w:List Nat}(hd:AM w=true):K 597 [.s w] [LI (Ck w),.b true]:=by have hl:w.length≤16:=(Ah hd).l;refine qb ZW rfl ?_;simp only[ZW];simp(disch:=first|omega|simp only[vl];omega) only[AA];refine AD (Bv (K:=K) (w:=w) (by omega)) rfl ?_;rw[hd];simp(disch:=first|omega|simp only[vl];omega) only[AA];have k:=(VR (K:=K) hd).1;rw[QI hd]at k;refine AD (k) rfl ?_;simp(disch:=first|omega|simp only[vl];omega) only[AA]
noncomputable def FH(f:Nat)(w:List Nat):List Nat:=match f with
 |0=>FU (Ck w)
 |1=>Im (EW w)
 |_=>E4 (BP (Cc w))
noncomputable def JH(f n:Nat)(w:List Nat):List Nat:=match f with
 |0=>FU (H6 (Ck w) 1)
 |1=>Im (Fy (EW w))
 |_=>E4 (HU ((n:Int)+2) 1 (BP (Cc w)))
def NZ(m:List Int):Nat→List (List Int)
 |0=>[]
 |i+1=>if(i:Int)<AE m i then NZ m i++[[(i:Int),AE m i]]else NZ m i
theorem Yf{m:List Int}(h:∀j:Nat,j<m.length→0≤AE m j∧AE m j≤9):∀i,i≤m.length→i≤10→Bk m i=(NZ m i).map fun r=>[48+(AE r 0).toNat,45,48+(AE r 1).toNat]
 |0,_,_=>rfl
 |i+1,hi,h10=>by
  have ih:=Yf h i (by omega) (by omega)
  have hj:=h i (by omega)
  simp only[Bk,NZ]
  split
  ·rw[ih,List.map_append,NL (x:=(i:Int)) (by omega) (by omega),NL hj.1 hj.2]
   simp[AE]
  ·exact ih
def OW(r:List Int):Nat→List Nat
 |0=>[]
 |i+1=>OW r i++[48+(AE r i+1).toNat]
theorem Vp{r:List Int}(h:∀j:Nat,j<r.length→0≤AE r j∧AE r j≤8):∀i,i≤r.length→Df r i=OW r i
 |0,_=>rfl
 |i+1,hi=>by
  have hj:=h i (by omega)
  simp only[Df,OW]
  rw[Vp h i (by omega),NL (x:=AE r i+1) (by omega) (by omega)]
def L8(f:Nat)(w:List Nat):List Nat:=match f with
 |0=>sep 32 ((NZ (Ck w) (Ck w).length).map fun r=>[48+(AE r 0).toNat,45,48+(AE r 1).toNat])
 |1=>sep 124 ((CD (EW w)).map fun r=>OW r r.length)
 |_=>if(BP (Cc w)).length=0 then [110,111,110,101]else sep 32 ((BP (Cc w)).map fun r=>[48+(AE r 0).toNat,48+(AE r 1).toNat])
def smB(k:Int)(l:List Int):Bool:=l.all fun x=>decide (0≤x)&&decide (x≤k)
theorem XD{k:Int}{l:List Int}(h:smB k l=true){j:Nat}(hj:j<l.length):0≤AE l j∧AE l j≤k:=by
 have:=Aw.1 h l[j] (List.getElem_mem hj);simp only[AX,Aj]at this;have e:AE l (j:Nat)=l[j]:=by simp[AE,hj]
 rw[e];exact this
def Pc(w:List Nat):Bool:=(CQ (Ck w)&&(decide (0<(Ck w).length)&&(decide ((Ck w).length≤10)&&smB 9 (Ck w))))&&((CD (EW w)).all (smB 8)&&((BP (Cc w)).all Ej&&decide ((BP (Cc w)).length≤7)))
theorem obC0:BO 4 (fun n=>(AN (n+1)).all Pc)=true:=by kernel_rfl
theorem obC5:(AN 5).all Pc=true:=by kernel_rfl
theorem Qq{P:Nat→Bool}(h:BO 4 (fun n=>P (n+1))=true)(h5:P 5=true){n:Nat}(hn:1≤n∧n≤5):P n=true:=by
 rcases Bh (n-1) 4 with q|q
 ·have:=BQ h (n-1) q;rwa [show n-1+1=n by omega]at this
 ·rwa [show n=5 by omega]
theorem AOP{f n:Nat}(hf:f<3)(hn:1≤n∧n≤5){w:List Nat}(hw:w∈AN n):FH f w=L8 f w:=by
 have h:=Aw.1 (Qq (P:=fun n=>(AN n).all Pc) obC0 obC5 hn) w hw;simp only[Pc,AX,Aj]at h;obtain⟨⟨h1,h2,h3,h4⟩,h5,h6,h7⟩:=h;rcases f3 hf with rfl|rfl|rfl
 ·simp only[FH,L8,FU];rw[if_pos h1,if_neg (by omega),Te,Yf (fun j hj=>XD h4 hj) _ (Nat.le_refl _) h3]
 ·simp only[FH,L8,Im];rw[Te,EH];congr 1;refine List.map_congr_left fun r hr=>?_;exact Vp (fun j hj=>XD (Aw.1 h5 r hr) hj) _ (Nat.le_refl _)
 ·simp only[FH,L8,E4];by_cases hz:(BP (Cc w)).length=0
  ·rw[if_pos hz,if_pos hz]
  ·rw[if_neg hz,if_neg hz,if_neg (by omega),if_pos h6,Te,Cp];congr 1;refine List.map_congr_left fun r hr=>?_;have:=Aw.1 h6 r hr;simp only[Ej,AX,Aj,A8]at this;rw[NL this.2.1.1 this.2.1.2,NL this.2.2.1 this.2.2.2];rfl
def QA(f n:Nat):Bool:=(List.range (AN n).length).all fun j=>decide (((AN n).map (L8 f)).idxOf (L8 f (AO (AN n) j))=j)
theorem txN0:BO 3 (fun f=>BO 4 fun n=>QA f (n+1))=true:=by kernel_rfl
theorem txN5:BO 3 (fun f=>QA f 5)=true:=by kernel_rfl
def Nz(n:Nat):Bool:=(List.range (AN n).length).all fun j=>decide (H6 (Ck (AO (AN n) j)) 1=Ck (t15 0 n 1 (AO (AN n) j)))&&(decide (Fy (EW (AO (AN n) j))=EW (t15 1 n 1 (AO (AN n) j)))&&decide (HU ((n:Int)+2) 1 (BP (Cc (AO (AN n) j)))=BP (Cc (t15 2 n 1 (AO (AN n) j)))))
theorem tuB0:BO 4 (fun n=>Nz (n+1))=true:=by kernel_rfl
theorem tuB5:Nz 5=true:=by kernel_rfl
theorem AY3{f n:Nat}(hf:f<3)(hn:1≤n∧n≤5){i j:Nat}(hi:i<(AN n).length)(hj:j<(AN n).length)(h:FH f (AO (AN n) i)=FH f (AO (AN n) j)):i=j:=by have e:QA f n=true:=Qq (P:=fun n=>QA f n) (BQ txN0 f hf) (BQ txN5 f hf) hn;have hx:=Aw.1 e;have h1:=hx i (List.mem_range.2 hi);have h2:=hx j (List.mem_range.2 hj);simp only[Aj]at h1 h2;rw[AOP hf hn (MW hi),AOP hf hn (MW hj)]at h;rw[h]at h1;omega
theorem AYU{f n:Nat}(hf:f<3)(hn:1≤n∧n≤5){j:Nat}(hj:j<(AN n).length):JH f n (AO (AN n) j)=FH f (t15 f n 1 (AO (AN n) j)):=by
 have h:=Aw.1 (Qq (P:=Nz) tuB0 tuB5 hn) j (List.mem_range.2 hj);simp only[Nz,AX,Aj]at h;rcases f3 hf with rfl|rfl|rfl
 ·simp only[JH,FH];rw[h.1]
 ·simp only[JH,FH];rw[h.2.1]
 ·simp only[JH,FH];rw[h.2.2]
theorem ZD{α:Type}{k k':List Nat}{v:α}:∀{m:List (List Nat×α)},C1 k' (FV k v m)=if k'=k then some v else C1 k' m
 |[]=>by simp[FV,C1]
 |(j,x)::m=>by
  simp only[FV]
  by_cases h:k=j
  ·rw[if_pos h]
   subst h
   simp only[C1]
   by_cases q:k'=k
   ·rw[if_pos q,if_pos q]
   ·rw[if_neg q,if_neg q,if_neg q]
  ·rw[if_neg h]
   simp only[C1]
   rw[ZD]
   by_cases q:k'=j
   ·subst q
    rw[if_pos rfl,if_neg (fun e=>h e.symm),if_pos rfl]
   ·rw[if_neg q,if_neg q]
theorem Z0{w:List Nat}{k:Nat}(h:Kf w k=true):CJ (iter (fun _ p=>Fy p) k (EW w))=true∧0<(iter (fun _ p=>Fy p) k (EW w)).length∧(iter (fun _ p=>Fy p) k (EW w)).length≤8:=by rw[Kf,AX,Aj]at h;refine⟨h.1,h.2,?_⟩;have:=h.1;simp[CJ]at this;exact this.1
theorem XY[HA K]{f n:Nat}(hf:f<3)(hn:1≤n∧n≤5):K 587 [.s (BG f),.n n] [LI (An f n)]:=by
 have hp:=KB (n:=n) (by omega);refine qb ZL rfl ?_;simp only[ZL];simp(disch:=first|omega|simp only[vl];omega) only[AA];refine AD (pl_i (K:=K) (n:=n) (by omega)) rfl ?_;simp(disch:=first|omega|simp only[vl];omega) only[AA];refine Au (fun i (x:List (List Nat×Int)×List (List Nat))=>(∀j:Nat,j<i→C1 (FH f (AO (AN n) j)) x.1=some (j:Int))∧x.2=((AN n).take i).map (JH f n)) (fun i x=>[.s (BG f),.n n,.u,MI x.1,LS x.2,.u,.u,.u,.u,.u,.u,.u,.u,.u,.u,.u,LS (AN n),.n (AN n).length,.n i,.u,.u,.u,.u,.u,.u,.u,.u]) (AN n).length ([],[]) ⟨fun j hj=>by omega,by simp⟩ rfl (fun i x hi hP=>?_) (fun x hP=>?_)
 ·obtain⟨m,ts⟩:=x;obtain⟨p1,p2⟩:=hP;simp only at p1 p2⊢;have hw:=MW hi;obtain⟨hd,hl⟩:=ALT hn hw;obtain⟨c1,c2,c3⟩:=AOV hn hw;have E9:ts.length≤132:=by rw[p2,List.length_map,List.length_take];omega
  have et:(AN n).take (i+1)=(AN n).take i++[AO (AN n) i]:=by rw[CU hi];simp[AO,hi]
  have fin1:∀j:Nat,j<i+1→C1 (FH f (AO (AN n) j)) (FV (FH f (AO (AN n) i)) (i:Int) m)=some (j:Int):=fun j hj=>by
   rw[ZD];by_cases q:j=i
   ·subst q;rw[if_pos rfl]
   ·rw[if_neg (fun e=>q (AY3 hf hn (by omega) hi e))];exact p1 j (by omega)
  have fin2:ts++[JH f n (AO (AN n) i)]=((AN n).take (i+1)).map (JH f n):=by rw[et,List.map_append,←p2];rfl
  generalize hwe:AO (AN n) i=w at*;simp(disch:=first|omega|simp only[vl];omega) only[AA,hwe];rcases f3 hf with rfl|rfl|rfl
  ·obtain⟨m1,m2,m3⟩:=AAU hd (by omega);have kt:=ATL (K:=K) (m:=Ck w) (k:=1) m1 (by omega) (by omega) m3;rw[show((1:Nat):Int)=1 from rfl]at kt;have hl1:=XN (m:=Ck w) (k:=1);simp(disch:=first|omega|simp only[vl];omega) only[AA,show(BG 0==[109,97,116,99,104,105,110,103,115])=true from rfl];refine AD (ART (K:=K) hd) rfl ?_;simp(disch:=first|omega|simp only[vl];omega) only[AA];refine AD (kt) rfl ?_;simp(disch:=first|omega|simp only[vl];omega) only[AA];refine AD (SR (K:=K) (m:=Ck w) (by omega)) rfl ?_;simp(disch:=first|omega|simp only[vl];omega) only[AA];refine AD (SR (K:=K) (m:=H6 (Ck w) 1) (by omega)) rfl ?_;simp(disch:=first|omega|simp only[vl];omega) only[AA];exact⟨(_,_),⟨fin1,fin2⟩,rfl⟩
  ·have kp:=(N9 (K:=K) hd).1;rw[AFT hd]at kp;obtain⟨q1,q2,q3⟩:=Z0 (c3 0 (by omega));obtain⟨r1,r2,r3⟩:=Z0 (c3 1 (by omega));simp only[iter]at q1 q2 q3 r1 r2 r3;simp(disch:=first|omega|simp only[vl];omega) only[AA,show(BG 1==[109,97,116,99,104,105,110,103,115])=false from rfl,show(BG 1==[112,97,114,116,105,116,105,111,110,115])=true from rfl];refine AD (kp) rfl ?_;simp(disch:=first|omega|simp only[vl];omega) only[AA];refine AD (AR7 (K:=K) (p:=EW w) q1 q2) rfl ?_;simp(disch:=first|omega|simp only[vl];omega) only[AA];refine AD (Vc (K:=K) (p:=EW w) (by omega)) rfl ?_;simp(disch:=first|omega|simp only[vl];omega) only[AA];refine AD (Vc (K:=K) (p:=Fy (EW w)) (by omega)) rfl ?_;simp(disch:=first|omega|simp only[vl];omega) only[AA];exact⟨(_,_),⟨fin1,fin2⟩,rfl⟩
  ·simp only[RK,AX,Aj]at c1;obtain⟨a1,a2,a3⟩:=c1;have hbt:H4 w=Cc w:=by rw[←a1,KG,a1]
   have hbn:(Cc w).n≤8:=by have:=BT.pl (Cc w);rw[a1]at this;omega
   have hb:=Ya (K:=K) hd;rw[hbt]at hb;have c4:=c2 1 (by omega);simp only[OF,AX]at c4;have h3:=NR c4.2;have htl:=NM c4.1;have htl2:=NM a2;have kt:=AaX (K:=K) (n:=(n:Int)+2) (k:=((1:Nat):Int)) a2 (NR a3) (by omega);rw[show((1:Nat):Int)=1 from rfl]at kt htl h3;have hr1:∀r∈BP (Cc w),r.length≤9223372036854775807:=fun r hr=>by have:=(NR a3 r hr).1;omega
   have hr2:∀r∈HU ((n:Int)+2) 1 (BP (Cc w)),r.length≤9223372036854775807:=fun r hr=>by have:=(h3 r hr).1;omega
   simp(disch:=first|omega|simp only[vl];omega) only[AA,show(BG 2==[109,97,116,99,104,105,110,103,115])=false from rfl,show(BG 2==[112,97,114,116,105,116,105,111,110,115])=false from rfl];refine AD (hb) rfl ?_;simp(disch:=first|omega|simp only[vl];omega) only[AA];refine AD (QY (K:=K) (x:=Cc w) hbn) rfl ?_;simp(disch:=first|omega|simp only[vl];omega) only[AA];refine AD (kt) rfl ?_;simp(disch:=first|omega|simp only[vl];omega) only[AA];refine AD (Tl (K:=K) (d:=BP (Cc w)) (by omega) hr1) rfl ?_;simp(disch:=first|omega|simp only[vl];omega) only[AA];refine AD (Tl (K:=K) (d:=HU ((n:Int)+2) 1 (BP (Cc w))) (by omega) hr2) rfl ?_;simp(disch:=first|omega|simp only[vl];omega) only[AA];exact⟨(_,_),⟨fin1,fin2⟩,rfl⟩
 ·obtain⟨m,ts⟩:=x;obtain⟨p1,p2⟩:=hP;simp only at p1 p2⊢;rw[List.take_length]at p2;have E9:ts.length=(AN n).length:=by rw[p2,List.length_map]
  simp(disch:=first|omega|simp only[vl];omega) only[AA];refine AL (fun _=>True) (fun i=>[.u,.u,.u,MI m,.u,.u,.u,.u,.u,.u,.u,.u,.u,.u,LI ((An f n).take i),.u,.u,.u,.u,.u,.u,.u,.u,LS ts,.n ts.length,.n i,.u]) ts.length trivial rfl (fun i hi _=>?_) (fun _=>?_)
  ·have hi2:i<(AN n).length:=by omega
   obtain⟨k,k1,k2,k3⟩:=Nw hf hn hi2;have hL:=Ld (f:=f) (n:=n);have ea:AO ts i=FH f (AO (AN n) k):=by rw[k3,←AYU hf hn hi2,p2];simp[AO,hi2]
   have hg:=p1 k k2;have et:(An f n).take (i+1)=(An f n).take i++[(k:Int)]:=by rw[CU (by omega)];congr 2;rw[←k1];simp[AE,show i<(An f n).length by omega]
   have el:((An f n).take i).length≤132:=by rw[List.length_take];omega
   simp(disch:=first|omega|simp only[vl];omega) only[AA,ea,hg,Option.getD_some];rw[et]
  ·rw[List.take_of_length_le (by rw[Ld];omega)];simp(disch:=first|omega|simp only[vl];omega) only[AA]
def Fj(L:List Int):Nat→Int→Int
 |0,a=>a
 |k+1,a=>AE L (Fj L k a)
def fxI(L:List Int)(k:Nat):Nat:=(List.range L.length).countP fun i:Nat=>decide (Fj L k (i:Int)=i)
def OJ(f n:Nat):Bool:=(List.range (BS f n)).all fun k=>decide (fxI (An f n) k=GO f n k)
theorem fxB0:BO 3 (fun f=>BO 4 fun n=>OJ f (n+1))=true:=by kernel_rfl
theorem fxB5:BO 3 (fun f=>OJ f 5)=true:=by kernel_rfl
theorem AQY{f n k:Nat}(hf:f<3)(hn:1≤n∧n≤5)(hk:k<BS f n):fxI (An f n) k=GO f n k:=by have e:OJ f n=true:=Qq (P:=fun n=>OJ f n) (BQ fxB0 f hf) (BQ fxB5 f hf) hn;have:=Aw.1 e k (List.mem_range.2 hk);simpa using this
theorem AB1{f n:Nat}(hf:f<3)(hn:1≤n∧n≤5){i:Nat}(hi:i<(AN n).length):∀k,∃j:Nat,Fj (An f n) k (i:Nat)=j∧j<(AN n).length
 |0=>⟨i,rfl,hi⟩
 |k+1=>by
  obtain⟨j,h1,h2⟩:=AB1 hf hn hi k
  obtain⟨k',k1,k2,_⟩:=Nw hf hn h2
  exact⟨k',by simp only[Fj];rw[h1,k1],k2⟩
theorem X0[HA K]{f n k:Nat}(hf:f<3)(hn:1≤n∧n≤5)(hk:k<BS f n):K 572 [.s (BG f),.n n,.n k] [.n (GO f n k)]:=by
 have ho:=Uy hf hn.2;have hp:=KB (n:=n) (by omega);have hL:=Ld (f:=f) (n:=n);rw[←AQY hf hn hk];refine qb AK7 rfl ?_;simp only[AK7];simp(disch:=first|omega|simp only[vl];omega) only[AA];refine AD (Nt (K:=K) hf hn) rfl ?_;simp(disch:=first|omega|simp only[vl];omega) only[AA];refine AD (CK (K:=K)) rfl ?_;rw[show AV 0 ((BS f n:Int)-1) k=true from A8.2 (by omega)];simp(disch:=first|omega|simp only[vl];omega) only[AA];refine AD (XY (K:=K) hf hn) rfl ?_;simp(disch:=first|omega|simp only[vl];omega) only[AA];refine Au (fun i (c:Nat)=>c=(List.range i).countP fun i:Nat=>decide (Fj (An f n) k (i:Int)=i)) (fun i c=>[.u,.u,.n k,.u,.u,LI (An f n),.n c,.u,.u,.u,.n (An f n).length,.n i,.u,.u,.u,.u,.u]) (An f n).length 0 rfl rfl (fun i c hi hP=>?_) (fun c hP=>?_)
 ·have hc:c≤i:=by
   rw[hP]
   have:=List.countP_le_length (p:=fun i:Nat=>decide (Fj (An f n) k (i:Int)=i)) (l:=List.range i)
   simpa using this
  have hs:(List.range (i+1)).countP (fun i:Nat=>decide (Fj (An f n) k (i:Int)=i))=(List.range i).countP (fun i:Nat=>decide (Fj (An f n) k (i:Int)=i))+if Fj (An f n) k (i:Int)=i then 1 else 0:=by
   rw[List.range_succ,List.countP_append]
   simp[List.countP_cons]
  simp(disch:=first|omega|simp only[vl];omega) only[AA]
  refine AL (fun _=>True) (fun j=>[.u,.u,.n k,.u,.u,LI (An f n),.n c,.n i,.n (Fj (An f n) j i),.u,.n (An f n).length,.n i,.u,.n k,.n j,.u,.u]) k trivial rfl (fun j hj _=>?_) (fun _=>?_)
  ·obtain⟨a,a1,a2⟩:=AB1 hf hn (i:=i) (by omega) j
   have e2:Fj (An f n) (j+1) (i:Int)=AE (An f n) (a:Nat):=by simp only[Fj];rw[a1]
   rw[a1,e2]
   simp(disch:=first|omega|simp only[vl];omega) only[AA]
  ·by_cases q:Fj (An f n) k (i:Int)=i
   ·rw[if_pos q]at hs
    simp(disch:=first|omega|simp only[vl];omega) only[AA]
    exact⟨c+1,by rw[hs,hP],by simp⟩
   ·rw[if_neg q]at hs
    simp(disch:=first|omega|simp only[vl];omega) only[AA]
    exact⟨c,by rw[hs,hP,Nat.add_zero],rfl⟩
 ·simp(disch:=first|omega|simp only[vl];omega) only[AA];rw[hP];rfl
theorem Aa5[HA K]{f n:Nat}(hf:f<3)(hn:1≤n∧n≤5):K 573 [.s (BG f),.n n] [LI (G7 (An f n)),.b true]:=by
 have hp:=KB (n:=n) (by omega);have hL:=Ld (f:=f) (n:=n);have ho:=Uy hf hn.2;refine qb AIU rfl ?_;simp only[AIU];simp(disch:=first|omega|simp only[vl];omega) only[AA];refine AD (Nt (K:=K) hf hn) rfl ?_;simp(disch:=first|omega|simp only[vl];omega) only[AA];refine AD (XY (K:=K) hf hn) rfl ?_;simp(disch:=first|omega|simp only[vl];omega) only[AA];refine Au (fun i (x:List Int×List Bool)=>x=iter (Cz (An f n)) i ([],List.replicate (An f n).length false)∧x.2.length=(An f n).length∧x.1.length≤i) (fun i x=>[.u,.u,.u,.u,LI x.1,LI (An f n),LT x.2,.u,.u,.u,.u,.n (An f n).length,.n i,.u,.u,.u]) (An f n).length ([],List.replicate (An f n).length false) ⟨rfl,by simp,by simp⟩ (by simp[Sp];rfl) (fun i x hi hP=>?_) (fun x hP=>?_)
 ·obtain⟨out,B⟩:=x;obtain⟨p1,p2,p3⟩:=hP;simp only at p1 p2 p3⊢;simp(disch:=first|omega|simp only[vl];omega) only[AA]
  refine Be (fun(y:Nat×List Bool×Nat×Nat)=>y.2.1.length=(An f n).length∧y.2.2.1<(An f n).length∧Gx y.2.1≤y.1∧y.2.2.2+y.1≤132∧E5 (An f n) y.1 y.2.1 y.2.2.1 y.2.2.2=E5 (An f n) (An f n).length B i 0)
   (fun y=>[.u,.u,.u,.u,LI out,LI (An f n),LT y.2.1,.u,.n y.2.2.2,.n y.2.2.1,.u,.n (An f n).length,.n i,.u,.u,.u]) (fun y=>y.1) ((An f n).length,B,i,0) ⟨p2,hi,by have:=WA (B:=B);simp only;omega,by simp only;omega,rfl⟩ rfl ?_
  rintro⟨g,B',a,s⟩ ⟨q1,q2,q3,q4,q5⟩;simp only at q1 q2 q3 q4 q5⊢
  cases hB':CM B' a
  ·have hu:=Ng (B:=B') (a:=a) (by omega) hB'
   cases g with
   |zero=>omega
   |succ g=>
    obtain⟨k,k1,k2,k3⟩:=Nw hf hn (j:=a) (by omega)
    simp(disch:=first|omega|simp only[vl];omega) only[AA,hB',k1]
    refine⟨(g,CR B' a true,k,s+1),by simp,⟨by rw[Fe];exact q1,by simp only;omega,by simp only;omega,by simp only;omega,?_⟩,by simp⟩
    rw[←q5,E5,if_neg (by rw[hB'];simp),k1];rfl
  ·rw[NS hB']at q5;have hinv:=(P6 (L:=An f n) (f:=(An f n).length) (a:=i) (s:=0) (B:=B)).1;by_cases hs:0<s
   ·simp(disch:=first|omega|simp only[vl];omega) only[AA,hB'];refine⟨Cz (An f n) i (out,B),⟨by rw[iter,←p1],?_,?_⟩,?_⟩
    ·simp only[Cz];rw[hinv];exact p2
    ·simp only[Cz,←q5,if_pos hs,A7,AY,Ap];omega
    ·simp only[Cz,←q5,if_pos hs]
   ·simp(disch:=first|omega|simp only[vl];omega) only[AA,hB'];refine⟨Cz (An f n) i (out,B),⟨by rw[iter,←p1],?_,?_⟩,?_⟩
    ·simp only[Cz];rw[hinv];exact p2
    ·simp only[Cz,←q5,if_neg hs];omega
    ·simp only[Cz,←q5,if_neg hs]
 ·obtain⟨out,B⟩:=x;obtain⟨p1,_,_⟩:=hP;simp(disch:=first|omega|simp only[vl];omega) only[AA];have e:G7 (An f n)=(iter (Cz (An f n)) (An f n).length ([],List.replicate (An f n).length false)).1:=rfl;rw[e,←p1]
end Go.Cat
