/-
 Texts of plane trees, partitions, matchings; permutations of paths.
-/
import Derived.Test.YthoilpmggmenbaaGreatPfPLine
import Derived.Test.YthoilpmggmenbaaGreatQd0LawReports
import Derived.Test.YthoilpmggmenbaaGreatQd1LawReports
import Derived.Test.YthoilpmggmenbaaGreatQd2LawReports
import Derived.Test.YthoilpmggmenbaaGreatQd3LawReports
set_option linter.unusedSimpArgs false
set_option linter.unusedVariables false
namespace Go.Cat
variable{K:Nat→List D→List D→Prop}
theorem AEH{sep:List Nat}{ws:List (List Nat)}{x:List Nat}:∀{i:Nat},i≤ws.length→BN sep (ws++[x]) i=BN sep ws i
 |0,_=>rfl
 |i+1,h=>by
  have e:AO (ws++[x]) i=AO ws i:=by
   simp only[AO,BH,Al]
   rw[DC (by omega)]
  rw[BN,BN,AEH (by omega),e]
theorem Qm{sep:List Nat}{ws:List (List Nat)}{x:List Nat}:glue sep (ws++[x])=glue sep ws++(if 0<ws.length then sep else [])++x:=by
 have e:AO (ws++[x]) ws.length=x:=by simp[AO]
 rw[glue,A7,AY,Ap,Nat.zero_add,BN,AEH (Nat.le_refl _),e];rfl
theorem AOF{sep:List Nat}:glue sep []=[]:=rfl
theorem KU{sep:List Nat}{ws:List (List Nat)}{b:Nat}(h:∀x∈ws,x.length≤b):(glue sep ws).length≤ws.length*(b+sep.length):=Ic h ws.length
def E2(p:List Int):List (List Nat):=p.map Ai
def H7(p:List Int):List Nat:=if Cl p=true then glue [44] (E2 p)else []
theorem AaG{p:List Int}{i:Nat}(h:i<p.length):AO (E2 p) i=Ai (AE p i):=by simp[AO,E2,AE,h]
theorem AZ5{p:List Int}{i:Nat}(h:i<p.length):(E2 p).take (i+1)=(E2 p).take i++[Ai (AE p i)]:=by rw[CU (by simpa[E2]using h)];simp[E2,AE,h]
theorem VD{p:List Int}:(E2 p).length=p.length:=by simp[E2]
theorem T3{p:List Int}(h:Cl p=true):(1≤p.length∧p.length≤9)∧∀j:Nat,j<p.length→-1≤AE p j∧AE p j≤100:=by simp only[Cl,AX,Aj]at h;have hl:=A8.1 h.1;refine⟨by omega,fun j hj=>?_⟩;have:=QG h.2 j hj;omega
theorem UO{p:List Int}(h:∀j:Nat,j<p.length→-1≤AE p j∧AE p j≤100):∀x∈E2 p,x.length≤20:=by intro x hx;obtain⟨y,hy,rfl⟩:=List.mem_map.1 hx;obtain⟨j,hj,rfl⟩:=List.mem_iff_getElem.1 hy;have:=h j hj;refine BB ?_;simp only[AE,BH,Al,En hj,Option.getD_some]at this;omega
theorem AaJ[HA K]{p:List Int}(h:p.length≤1048576):K 534 [LI p] [.s (H7 p)]:=by
 refine qb AC5 rfl ?_;simp only[AC5];simp(disch:=first|omega|simp only[vl];omega) only[AA];refine AD (T8 (K:=K) (p:=p) (by omega)) rfl ?_
 cases hp:Cl p
 ·simp(disch:=first|omega|simp only[vl];omega) only[AA];simp[H7,hp]
 ·obtain⟨hl,hb⟩:=T3 hp;have hw:=VD (p:=p);simp(disch:=first|omega|simp only[vl];omega) only[AA];rw[NA];refine AL (fun _=>True) (fun i=>[.u,.u,LS ((E2 p).take i),.u,.u,LI p,.n p.length,.n i,.u]) p.length trivial (by simp) (fun i hi _=>?_) (fun _=>?_)
  ·have ht:((E2 p).take i).length=i:=by simp;omega
   have hbi:=hb i hi;rw[AZ5 hi];simp(disch:=first|omega|simp only[vl];omega) only[AA];refine AD (CZ (K:=K) (n:=AE p i) (by omega)) rfl ?_;simp(disch:=first|omega|simp only[vl];omega) only[AA]
  ·rw[List.take_of_length_le (by omega)];have kg:=JI (K:=K) (ws:=E2 p) (sep:=[44]) (by omega) (fun x hx=>by have:=UO hb x hx;omega) (by simp);simp(disch:=first|omega|simp only[vl];omega) only[AA];refine AD (kg) rfl ?_;simp(disch:=first|omega|simp only[vl];omega) only[AA];simp[H7,hp]
theorem AQ9[HA K]{p:List Int}(h:p.length≤1048576):K 529 [LI p] [.s (H7 p)]:=by
 refine qb X8 rfl ?_;simp only[X8];simp(disch:=first|omega|simp only[vl];omega) only[AA]
 cases hp:Cl p
 ·refine Be (fun(_:Unit)=>True) (fun _=>[LI p,.u,.s [],.n 0,.u,.u]) (fun _=>0) () trivial rfl (fun _ _=>?_);by_cases h0:0<p.length
  ·simp(disch:=first|omega|simp only[vl];omega) only[AA];repeat(first|(refine AD (Le (K:=K) (p:=p) (by omega)) rfl ?_;try simp(disch:=first|omega|simp only[vl];omega) only[AA,hp]))
   simp[H7,hp]
  ·simp(disch:=first|omega|simp only[vl];omega) only[AA];simp[H7,hp]
 ·obtain⟨hl,hb⟩:=T3 hp;have hw:=VD (p:=p);refine AL (fun _=>True) (fun i=>[LI p,.u,.s (BN [44] (E2 p) i),.n i,.u,.u]) p.length trivial rfl (fun i hi _=>?_) (fun _=>?_)
  ·have hbi:=hb i hi;have b1:=Ic (sep:=[44]) (UO hb) i;have b2:=BB (n:=AE p i) (by omega);have b3:i*(20+[44].length)≤61*21:=Nat.mul_le_mul (by omega) (by simp);have e:=AaG hi;simp(disch:=first|omega|simp only[vl];omega) only[AA];refine AD (Le (K:=K) (p:=p) (by omega)) rfl ?_;by_cases q:0<i
   ·simp(disch:=first|omega|simp only[vl];omega) only[AA,hp];refine AD (Bp (K:=K) (n:=AE p i) (by omega)) rfl ?_;simp(disch:=first|omega|simp only[vl];omega) only[AA];simp only[BN,if_pos q,e]
   ·simp(disch:=first|omega|simp only[vl];omega) only[AA,hp];refine AD (Bp (K:=K) (n:=AE p i) (by omega)) rfl ?_;simp(disch:=first|omega|simp only[vl];omega) only[AA];simp only[BN,if_neg q,e,List.append_nil]
  ·simp(disch:=first|omega|simp only[vl];omega) only[AA];have hg:glue [44] (E2 p)=BN [44] (E2 p) p.length:=by rw[glue,hw]
   simp[H7,hp,hg]
def Df(r:List Int):Nat→List Nat
 |0=>[]
 |i+1=>Df r i++Ai (AE r i+1)
theorem I0{r:List Int}(h:∀j:Nat,j<r.length→0≤AE r j∧AE r j≤100):∀i,i≤r.length→(Df r i).length≤i*20
 |0,_=>by simp[Df]
 |i+1,hi=>by
  have h1:=I0 h i (by omega)
  have h2:=h i (by omega)
  have h3:=BB (n:=AE r i+1) (by omega)
  simp only[Df,A7];omega
theorem Rz{p:List Int}:∀{i:Nat}{r:List Int},r∈Ar p i→∀x∈r,0≤x∧x<i
 |0,r,h=>by simp[Ar]at h
 |i+1,r,h=>by
  have ho:∀r∈(if AE p i=(Ar p i).length then Ar p i++[[]]else Ar p i),∀x∈r,0≤x∧x<i:=by
   intro r hr
   split at hr
   ·rcases Af.1 hr with q|q
    ·exact Rz q
    ·simp at q;subst q;simp
   ·exact Rz hr
  simp only[Ar,DV]at h
  intro x hx
  rcases List.mem_or_eq_of_mem_set h with q|q
  ·have:=ho _ q x hx;omega
  ·subst q
   rcases Af.1 hx with hx|hx
   ·have key:∀x∈(AG (if AE p i=(Ar p i).length then Ar p i++[[]]else Ar p i) (AE p i)),0≤x∧x<i:=by
     simp only[AG]
     rcases Bh (AE p i).toNat (if AE p i=(Ar p i).length then Ar p i++[[]]else Ar p i).length with q|q
     ·rw[Al,En q]
      exact ho _ (List.getElem_mem q)
     ·rw[Al,DS q];simp
    have:=key x hx;omega
   ·simp only[List.mem_singleton]at hx;omega
def CD(p:List Int):List (List Int):=if CJ p=true then Ar p p.length else []
theorem Uz{p:List Int}:(CD p).length≤8:=by
 unfold CD;split
 ·rename_i h;simp only[CJ,AX,Aj]at h;have h1:=Jw h.2;have h2:=H5 h.2;omega
 ·simp
theorem Sw{p:List Int}{r:List Int}(h:r∈CD p):r.length≤8∧∀j:Nat,j<r.length→0≤AE r j∧AE r j≤100:=by
 unfold CD at h;split at h
 ·rename_i hp;simp only[CJ,AX,Aj]at hp;have h1:=Kh h;have h2:=Rz h;refine⟨by omega,fun j hj=>?_⟩;have:=h2 (AE r j) (by simp[AE,hj]);omega
 ·cases h
theorem AAE{b:List (List Int)}{i:Nat}(h:i<b.length):AG b i∈b:=by simp[AG,h]
def EH(p:List Int):List (List Nat):=(CD p).map fun r=>Df r r.length
def Im(p:List Int):List Nat:=glue [124] (EH p)
theorem AQR{p:List Int}{i:Nat}(h:i<(CD p).length):AO (EH p) i=Df (AG (CD p) i) (AG (CD p) i).length:=by simp[AO,EH,AG,h]
theorem AXU{p:List Int}{i:Nat}(h:i<(CD p).length):(EH p).take (i+1)=(EH p).take i++[Df (AG (CD p) i) (AG (CD p) i).length]:=by rw[CU (by simpa[EH]using h)];simp[EH,AG,h]
theorem U2{p:List Int}:(EH p).length=(CD p).length:=by simp[EH]
theorem RO{p:List Int}:∀x∈EH p,x.length≤160:=by intro x hx;obtain⟨r,hr,rfl⟩:=List.mem_map.1 hx;obtain⟨h1,h2⟩:=Sw hr;have:=I0 h2 r.length (Nat.le_refl _);omega
theorem Vc[HA K]{p:List Int}(h:p.length≤1048576):K 537 [LI p] [.s (Im p)]:=by
 have hbl:=Uz (p:=p);have hw:=U2 (p:=p);have kb:=XJ (K:=K) (p:=p) (by omega);rw[show(if CJ p=true then Ar p p.length else [])=CD p from rfl]at kb;refine qb Y2 rfl ?_;simp only[Y2];simp(disch:=first|omega|simp only[vl];omega) only[AA];refine AD (kb) rfl ?_;simp(disch:=first|omega|simp only[vl];omega) only[AA];rw[NA];refine AL (fun _=>True) (fun i=>[.u,.u,LS ((EH p).take i),.u,.u,.u,LL (CD p),.n (CD p).length,.n i,.u,.u,.u,.u,.u]) (CD p).length trivial (by simp) (fun i hi _=>?_) (fun _=>?_)
 ·have ht:((EH p).take i).length=i:=by simp;omega
  obtain⟨r1,r2⟩:=Sw (AAE hi);rw[AXU hi];simp(disch:=first|omega|simp only[vl];omega) only[AA];generalize AG (CD p) i=r at r1 r2⊢;refine AL (fun _=>True) (fun j=>[.u,.u,LS ((EH p).take i),.u,.s (Df r j),.u,LL (CD p),.n (CD p).length,.n i,.u,LI r,.n r.length,.n j,.u]) r.length trivial rfl (fun j hj _=>?_) (fun _=>?_)
  ·have h2:=r2 j hj;have h3:=I0 r2 j (by omega);have h4:=BB (n:=AE r j+1) (by omega);simp(disch:=first|omega|simp only[vl];omega) only[AA];refine AD (CZ (K:=K) (n:=AE r j+1) (by omega)) rfl ?_;simp(disch:=first|omega|simp only[vl];omega) only[AA];rfl
  ·simp(disch:=first|omega|simp only[vl];omega) only[AA]
 ·rw[List.take_of_length_le (by omega)];have kg:=JI (K:=K) (ws:=EH p) (sep:=[124]) (by omega) (fun x hx=>by have:=RO x hx;omega) (by simp);simp(disch:=first|omega|simp only[vl];omega) only[AA];refine AD (kg) rfl ?_;simp(disch:=first|omega|simp only[vl];omega) only[AA];rfl
theorem Ab9[HA K]{p:List Int}(h:p.length≤1048576):K 532 [LI p] [.s (Im p)]:=by
 have hbl:=Uz (p:=p);have hw:=U2 (p:=p);have kb:=SP (K:=K) (p:=p) (by omega);rw[show(if CJ p=true then Ar p p.length else [])=CD p from rfl]at kb;refine qb YH rfl ?_;simp only[YH];simp(disch:=first|omega|simp only[vl];omega) only[AA];refine AD (kb) rfl ?_;simp(disch:=first|omega|simp only[vl];omega) only[AA];refine AL (fun _=>True) (fun i=>[.u,.u,LL (CD p),.s (BN [124] (EH p) i),.n i,.u,.u,.u,.u]) (CD p).length trivial rfl (fun i hi _=>?_) (fun _=>?_)
 ·obtain⟨r1,r2⟩:=Sw (AAE hi);have e:=AQR hi;have b1:=Ic (sep:=[124]) (RO (p:=p)) i;have b3:i*(160+[124].length)≤8*161:=Nat.mul_le_mul (by omega) (by simp);obtain⟨s0,hs0⟩:∃s0,s0=BN [124] (EH p) i++(if 0<i then [124]else []):=⟨_,rfl⟩;have hsl:s0.length≤2000:=by
   rw[hs0,A7];have:(if 0<i then [124]else []).length≤1:=by split<;>simp
   omega
  have key:BN [124] (EH p) (i+1)=s0++Df (AG (CD p) i) (AG (CD p) i).length:=by rw[BN,e,hs0]
  rw[key];have inner:∀(Q:X→Env→Prop)(b:S),True:=fun _ _=>trivial;by_cases q:0<i
  ·rw[if_pos q]at hs0;simp(disch:=first|omega|simp only[vl];omega) only[AA];rw[←hs0];refine AL (fun _=>True) (fun j=>[.u,.u,LL (CD p),.s (s0++Df (AG (CD p) i) j),.n i,.n j,.u,.u,.u]) (AG (CD p) i).length trivial (by simp[Df]) (fun j hj _=>?_) (fun _=>?_)
   ·have h2:=r2 j hj;have h3:=I0 r2 j (by omega);have h4:=BB (n:=AE (AG (CD p) i) j+1) (by omega);simp(disch:=first|omega|simp only[vl];omega) only[AA];refine AD (Bp (K:=K) (n:=AE (AG (CD p) i) j+1) (by omega)) rfl ?_;simp(disch:=first|omega|simp only[vl];omega) only[AA];simp only[Df,CI]
   ·simp(disch:=first|omega|simp only[vl];omega) only[AA]
  ·rw[if_neg q,List.append_nil]at hs0;simp(disch:=first|omega|simp only[vl];omega) only[AA];rw[←hs0];refine AL (fun _=>True) (fun j=>[.u,.u,LL (CD p),.s (s0++Df (AG (CD p) i) j),.n i,.n j,.u,.u,.u]) (AG (CD p) i).length trivial (by simp[Df]) (fun j hj _=>?_) (fun _=>?_)
   ·have h2:=r2 j hj;have h3:=I0 r2 j (by omega);have h4:=BB (n:=AE (AG (CD p) i) j+1) (by omega);simp(disch:=first|omega|simp only[vl];omega) only[AA];refine AD (Bp (K:=K) (n:=AE (AG (CD p) i) j+1) (by omega)) rfl ?_;simp(disch:=first|omega|simp only[vl];omega) only[AA];simp only[Df,CI]
   ·simp(disch:=first|omega|simp only[vl];omega) only[AA]
 ·simp(disch:=first|omega|simp only[vl];omega) only[AA];rw[Im,glue,hw]
def Bk(m:List Int):Nat→List (List Nat)
 |0=>[]
 |i+1=>if(i:Int)<AE m i then Bk m i++[Ai i++[45]++Ai (AE m i)]else Bk m i
def FU(m:List Int):List Nat:=if CQ m=true then(if m.length=0 then [110,111,110,101]else glue [32] (Bk m m.length))else []
theorem N3{m:List Int}:∀i,(Bk m i).length≤i
 |0=>by simp[Bk]
 |i+1=>by
  have:=N3 (m:=m) i
  unfold Bk
  split
  ·simp;omega
  ·omega
theorem NU{m:List Int}(h:CQ m=true):∀i,i≤m.length→∀x∈Bk m i,x.length≤41
 |0,_,x,hx=>by simp[Bk]at hx
 |i+1,hi,x,hx=>by
  unfold Bk at hx
  split at hx
  ·rcases Af.1 hx with q|q
   ·exact NU h i (by omega) x q
   ·simp only[List.mem_singleton]at q
    obtain⟨h1,h2⟩:=GH h
    have h3:=A8.1 (h2 i (by omega)).1
    have f1:=BB (n:=(i:Int)) (by omega)
    have f2:=BB (n:=AE m i) (by omega)
    rw[q]
    simp only[A7,AY,Ap];omega
  ·exact NU h i (by omega) x hx
theorem SR[HA K]{m:List Int}(h:m.length≤1048576):K 538 [LI m] [.s (FU m)]:=by
 refine qb Zu rfl ?_;simp only[Zu];simp(disch:=first|omega|simp only[vl];omega) only[AA];refine AD (AAG (K:=K) (m:=m) (by omega)) rfl ?_
 cases hm:CQ m
 ·simp(disch:=first|omega|simp only[vl];omega) only[AA];simp[FU,hm]
 ·obtain⟨h1,h2⟩:=GH hm;by_cases h0:m.length=0
  ·simp(disch:=first|omega|simp only[vl];omega) only[AA,h0];simp[FU,hm,h0]
  ·simp(disch:=first|omega|simp only[vl];omega) only[AA];rw[NA];refine AL (fun _=>True) (fun i=>[.u,.u,LS (Bk m i),.u,.u,.u,.u,LI m,.n m.length,.n i,.u,.u]) m.length trivial rfl (fun i hi _=>?_) (fun _=>?_)
   ·have hl:=N3 (m:=m) i;have h3:=A8.1 (h2 i hi).1;have f1:=BB (n:=(i:Int)) (by omega);have f2:=BB (n:=AE m i) (by omega);by_cases q:(i:Int)<AE m i
    ·have e:Bk m (i+1)=Bk m i++[Ai i++[45]++Ai (AE m i)]:=by rw[Bk,if_pos q]
     rw[e];simp(disch:=first|omega|simp only[vl];omega) only[AA];refine AD (CZ (K:=K) (n:=(i:Int)) (by omega)) rfl ?_;simp(disch:=first|omega|simp only[vl];omega) only[AA];refine AD (CZ (K:=K) (n:=AE m i) (by omega)) rfl ?_;simp(disch:=first|omega|simp only[vl];omega) only[AA]
    ·have e:Bk m (i+1)=Bk m i:=by rw[Bk,if_neg q]
     rw[e];simp(disch:=first|omega|simp only[vl];omega) only[AA]
   ·have hl:=N3 (m:=m) m.length;have kg:=JI (K:=K) (ws:=Bk m m.length) (sep:=[32]) (by omega) (fun x hx=>by have:=NU hm m.length (Nat.le_refl _) x hx;omega) (by simp);simp(disch:=first|omega|simp only[vl];omega) only[AA];refine AD (kg) rfl ?_;simp(disch:=first|omega|simp only[vl];omega) only[AA];simp[FU,hm,h0]
theorem AXY[HA K]{m:List Int}(h:m.length≤1048576):K 533 [LI m] [.s (FU m)]:=by
 refine qb ANY rfl ?_;simp only[ANY];simp(disch:=first|omega|simp only[vl];omega) only[AA]
 cases hm:CQ m
 ·have h0:m.length≠0:=by
   intro q
   have:m=[]:=Dt q
   subst this
   exact absurd hm (by decide)
  refine Be (fun(_:Unit)=>True) (fun _=>[LI m,.u,.s [],.n 0,.u,.u,.u,.u]) (fun _=>0) () trivial rfl (fun _ _=>?_)
  simp(disch:=first|omega|simp only[vl];omega) only[AA]
  repeat(first|(refine AD (QC (K:=K) (m:=m) (by omega)) rfl ?_;try simp(disch:=first|omega|simp only[vl];omega) only[AA,hm]))
  simp[FU,hm]
 ·obtain⟨h1,h2⟩:=GH hm;refine AL (fun _=>True) (fun i=>[LI m,.u,.s (glue [32] (Bk m i)),.n i,.u,.u,.u,.u]) m.length trivial rfl (fun i hi _=>?_) (fun _=>?_)
  ·have hl:=N3 (m:=m) i;have h3:=A8.1 (h2 i hi).1;have f1:=BB (n:=(i:Int)) (by omega);have f2:=BB (n:=AE m i) (by omega);have b1:=KU (sep:=[32]) (NU hm i (by omega));have b3:(Bk m i).length*(41+[32].length)≤16*42:=Nat.mul_le_mul (by omega) (by simp);simp(disch:=first|omega|simp only[vl];omega) only[AA];refine AD (QC (K:=K) (m:=m) (by omega)) rfl ?_;by_cases q:(i:Int)<AE m i
   ·have e:Bk m (i+1)=Bk m i++[Ai i++[45]++Ai (AE m i)]:=by rw[Bk,if_pos q]
    rw[e,Qm];by_cases hz:(Bk m i).length=0
    ·have ez:Bk m i=[]:=Dt hz;rw[ez,AOF];simp(disch:=first|omega|simp only[vl];omega) only[AA,hm];refine AD (Bp (K:=K) (n:=(i:Int)) (by omega)) rfl ?_;simp(disch:=first|omega|simp only[vl];omega) only[AA];refine AD (Bp (K:=K) (n:=AE m i) (by omega)) rfl ?_;simp(disch:=first|omega|simp only[vl];omega) only[AA];simp
    ·have ez:(glue [32] (Bk m i)==[])=false:=by
      refine beq_eq_false_iff_ne.2 fun q=>?_
      obtain⟨n,hn⟩:∃n,(Bk m i).length=n+1:=⟨(Bk m i).length-1,by omega⟩
      have hx:AO (Bk m i) n∈Bk m i:=by
       have:n<(Bk m i).length:=by omega
       simp[AO,this]
      have hne:∀i,∀x∈Bk m i,x≠[]:=by
       intro i
       induction i with
       |zero=>intro x hx;simp[Bk]at hx
       |succ i ih=>
        intro x hx
        unfold Bk at hx
        split at hx
        ·rcases Af.1 hx with q|q
         ·exact ih x q
         ·simp only[List.mem_singleton]at q
          rw[q];simp
        ·exact ih x hx
      have:=hne i _ hx
      rw[glue,hn,BN]at q
      have q2:=congrArg List.length q
      simp only[A7,Ap]at q2
      have h3:(AO (Bk m i) n).length≠0:=fun q=>this (Dt q)
      omega
     simp(disch:=first|omega|simp only[vl];omega) only[AA,hm,ez]
     refine AD (Bp (K:=K) (n:=(i:Int)) (by omega)) rfl ?_
     simp(disch:=first|omega|simp only[vl];omega) only[AA]
     refine AD (Bp (K:=K) (n:=AE m i) (by omega)) rfl ?_
     simp(disch:=first|omega|simp only[vl];omega) only[AA]
     rw[if_pos (by omega)]
     simp
   ·have e:Bk m (i+1)=Bk m i:=by rw[Bk,if_neg q]
    rw[e];simp(disch:=first|omega|simp only[vl];omega) only[AA,hm]
  ·by_cases h0:m.length=0
   ·have e:Bk m m.length=[]:=by rw[h0];rfl
    rw[e,AOF];simp(disch:=first|omega|simp only[vl];omega) only[AA,h0];simp[FU,hm,h0]
   ·simp(disch:=first|omega|simp only[vl];omega) only[AA]
    cases ez:(glue [32] (Bk m m.length)==[])
    ·simp(disch:=first|omega|simp only[vl];omega) only[AA,ez];simp[FU,hm,h0]
    ·simp(disch:=first|omega|simp only[vl];omega) only[AA,ez];simp[FU,hm,h0]
def Eg:List Nat→List Int→List Nat→Nat→Nat→List Int
 |[],out,_,_,_=>out
 |c::w,out,st,n,k=>if c=117 then Eg w out (n::st) (n+1) k else Eg w (BM out (st.headD 0:Nat) k) st.tail n (k+1)
def C7(w:List Nat):List Int:=Eg w (rep (w.length/2:Nat) 0) [] 0 0
theorem Tq:∀{w:List Nat}{out:List Int}{st:List Nat}{n k:Nat},(Eg w out st n k).length=out.length
 |[],_,_,_,_=>rfl
 |c::w,out,st,n,k=>by
  rw[Eg]
  split
  ·exact Tq
  ·rw[Tq,Cv]
theorem V3{w:List Nat}:(C7 w).length=w.length/2:=by rw[C7,Tq,JE];omega
theorem ALL:∀{w:List Nat}{out:List Int}{st:List Nat}{n k:Nat},(∀x∈out,0≤x∧x<k+w.length+1)→∀x∈Eg w out st n k,0≤x∧x<k+w.length+1
 |[],_,_,_,_,h=>h
 |c::w,out,st,n,k,h=>by
  simp only[AY]at h⊢
  rw[Eg]
  split
  ·intro x hx
   have:=ALL (w:=w) (out:=out) (st:=n::st) (n:=n+1) (k:=k+1)
   have h2:∀(w:List Nat)(out:List Int)(st:List Nat)(n k b:Nat),(∀x∈out,0≤x∧x<(b:Int))→k+w.length≤b→∀x∈Eg w out st n k,0≤x∧x<(b:Int):=by
    intro w
    induction w with
    |nil=>intro out st n k b h _;exact h
    |cons c w ih=>
     intro out st n k b h hb
     simp only[AY]at hb
     rw[Eg]
     split
     ·exact ih _ _ _ _ _ h (by omega)
     ·refine ih _ _ _ _ _ (fun x hx=>?_) (by omega)
      rcases List.mem_or_eq_of_mem_set hx with q|q
      ·exact h x q
      ·omega
   have:=h2 w out (n::st) (n+1) k (k+(w.length+1)+1) (fun x hx=>by have:=h x hx;omega) (by omega) x hx
   omega
  ·intro x hx
   have h2:∀(w:List Nat)(out:List Int)(st:List Nat)(n k b:Nat),(∀x∈out,0≤x∧x<(b:Int))→k+w.length≤b→∀x∈Eg w out st n k,0≤x∧x<(b:Int):=by
    intro w
    induction w with
    |nil=>intro out st n k b h _;exact h
    |cons c w ih=>
     intro out st n k b h hb
     simp only[AY]at hb
     rw[Eg]
     split
     ·exact ih _ _ _ _ _ h (by omega)
     ·refine ih _ _ _ _ _ (fun x hx=>?_) (by omega)
      rcases List.mem_or_eq_of_mem_set hx with q|q
      ·exact h x q
      ·omega
   have:=h2 w (BM out (st.headD 0:Nat) k) st.tail n (k+1) (k+(w.length+1)+1) (fun x hx=>by
    rcases List.mem_or_eq_of_mem_set hx with q|q
    ·have:=h x q;omega
    ·omega) (by omega) x hx
   omega
theorem AZ9{l:List Int}{j:Nat}(h:j<l.length):AE l j∈l:=by simp[AE,h]
theorem Ut{w:List Nat}(hl:w.length≤16)(j:Nat):0≤AE (C7 w) j∧AE (C7 w) j≤16:=by
 rcases Bh j (C7 w).length with q|q
 ·have:=ALL (w:=w) (out:=rep (w.length/2:Nat) 0) (st:=[]) (n:=0) (k:=0) (fun x hx=>by
   simp only[rep,List.mem_replicate]at hx;omega) (AE (C7 w) j) (AZ9 q)
  omega
 ·have e:AE (C7 w) j=0:=by simp[AE,q]
  omega
def nI(st:List Nat):List Int:=(st.map fun(j:Nat)=>(j:Int)).reverse
theorem PJ{j:Nat}{t:List Nat}:nI (j::t)=nI t++[(j:Int)]:=by simp[nI]
theorem Np{t:List Nat}:(nI t).length=t.length:=by simp[nI]
structure PQ(w:List Nat)(i:Nat)(x:List Int×List Nat×Nat×Nat):Prop where
 v:Eg (w.drop i) x.1 x.2.1 x.2.2.1 x.2.2.2=C7 w
 l:x.1.length=w.length/2
 s:(x.2.1.length:Int)=Hh w i
 n:x.2.2.1=Bw w i
 b:∀j∈x.2.1,j<x.2.2.1
 k:x.2.2.2≤i
theorem Zd{w:List Nat}:PQ w 0 (rep (w.length/2:Nat) 0,[],0,0):=
 ⟨by simp[C7],by rw[JE];omega,by simp[E0],by simp[Bw,AB],by simp,by simp⟩
theorem Wy{w:List Nat}{i:Nat}{out:List Int}{st:List Nat}{n k:Nat}(h:PQ w i (out,st,n,k))(hi:i<w.length)(hu:AK w i=117):PQ w (i+1) (out,n::st,n+1,k):=by
 obtain⟨h1,h2,h3,h4,h5,h6⟩:=h;simp only at h1 h2 h3 h4 h5 h6;rw[Eo hi,Eg,if_pos hu]at h1;have h7:=FM hi hu;have h8:=GQ hi;rw[if_pos hu]at h8;refine⟨h1,h2,by simp only[AY];omega,by simp only;omega,fun j hj=>?_,by simp only;omega⟩;rcases Aa.1 hj with q|q
 ·simp only;omega
 ·have:=h5 j q;simp only;omega
theorem AIN{w:List Nat}{i:Nat}{out:List Int}{j:Nat}{t:List Nat}{n k:Nat}(h:PQ w i (out,j::t,n,k))(hi:i<w.length)(hu:AK w i=100):PQ w (i+1) (BM out (j:Nat) k,t,n,k+1):=by obtain⟨h1,h2,h3,h4,h5,h6⟩:=h;simp only[AY]at h1 h2 h3 h4 h5 h6;rw[Eo hi,Eg,if_neg (by omega)]at h1;have h7:=E7 hi hu;have h8:=GQ hi;rw[if_neg (by omega)]at h8;exact⟨h1,by simp only[Cv];exact h2,by simp only;omega,by simp only;omega,fun j hj=>h5 j (BK _ hj),by simp only;omega⟩
theorem AV1[HA K]{w:List Nat}(hd:AM w=true):K 539 [.s w] [LI (C7 w),.b true]:=by
 have hD:=Ah hd;have hl:=hD.l;have hu8:=Jv hd;refine qb Zj rfl ?_;simp only[Zj];simp(disch:=first|omega|simp only[vl];omega) only[AA];repeat(first|(refine AD (Bv (K:=K) (w:=w) (by omega)) rfl ?_;try simp(disch:=first|omega|simp only[vl];omega) only[AA,hd]))
 have eh:((w.length:Int)/2)=((w.length/2:Nat):Int):=by omega
 simp(disch:=first|omega|simp only[vl];omega) only[AA,eh,D8];refine Au (fun i (x:List Int×List Nat×Nat×Nat)=>PQ w i x) (fun i x=>[.s w,.u,.u,LI x.1,LI (nI x.2.1),.n x.2.2.1,.n x.2.2.2,.n i,.u,.u,.u]) w.length (rep (w.length/2:Nat) 0,[],0,0) Zd rfl (fun i x hi hP=>?_) (fun x hP=>?_)
 ·obtain⟨out,st,n,k⟩:=x;have hs:=hP.s;have hn:=hP.n;have hb:=hP.b;have ho:=hP.l;have hk:=hP.k;have h1:=hD.h0 (i+1) (by omega);have hui:=GQ hi;have hul:=H9 (w:=w) (a:=i+1) (b:=w.length) (by omega) (by omega);simp only at hs hn hb ho hk;have hnl:=Np (t:=st);rcases hD.ud i hi with hu|hu
  ·rw[if_pos hu]at hui;have hH:=F3 (w:=w) (i:=i);simp(disch:=first|omega|simp only[vl];omega) only[AA,hu];exact⟨(out,n::st,n+1,k),Wy hP hi hu,by simp[PJ]⟩
  ·have eh2:=E7 hi hu;rw[if_neg (by omega)]at hui
   cases st with
   |nil=>simp at hs;omega
   |cons j t=>
    have hj:=hb j (by simp)
    have hnt:=Np (t:=t)
    have f1:AE (nI t++[(j:Int)]) t.length=j:=by rw[←hnt];exact Mn
    have f2:sub (nI t++[(j:Int)]) 0 t.length=nI t:=by rw[←hnt];exact Mg
    have f3:(((nI t++[(j:Int)]).length:Nat):Int)=(t.length:Int)+1:=by simp[nI]
    have hH:=F3 (w:=w) (i:=i)
    simp only[AY]at hs
    simp only[PJ]
    simp(disch:=first|omega|simp only[vl];omega) only[AA,hu,f3,CA,f1,f2]
    exact⟨(BM out (j:Nat) k,t,n,k+1),AIN hP hi hu,by simp⟩
 ·have hv:=hP.v;obtain⟨out,st,n,k⟩:=x;rw[List.drop_length]at hv;simp only[Eg]at hv;simp(disch:=first|omega|simp only[vl];omega) only[AA];rw[hv]
theorem AbT[HA K]{w:List Nat}(hd:AM w=true):K 325 [.s w] [LI (C7 w),.b true]:=by
 have hD:=Ah hd;have hl:=hD.l;have hu8:=Jv hd;refine qb AMC rfl ?_;simp only[AMC];simp(disch:=first|omega|simp only[vl];omega) only[AA];repeat(first|(refine AD (Bt (K:=K) (w:=w) (by omega)) rfl ?_;try simp(disch:=first|omega|simp only[vl];omega) only[AA,hd]))
 have eh:((w.length:Int)/2)=((w.length/2:Nat):Int):=by omega
 simp(disch:=first|omega|simp only[vl];omega) only[AA,eh,D8];refine Au (fun i (x:List Int×List Nat×Nat×Nat)=>PQ w i x) (fun i x=>[.s w,.u,.u,LI x.1,LI (nI x.2.1),.n x.2.2.1,.n x.2.2.2,.n i,.u,.u,.u]) w.length (rep (w.length/2:Nat) 0,[],0,0) Zd rfl (fun i x hi hP=>?_) (fun x hP=>?_)
 ·obtain⟨out,st,n,k⟩:=x;have hs:=hP.s;have hn:=hP.n;have hb:=hP.b;have ho:=hP.l;have hk:=hP.k;have h1:=hD.h0 (i+1) (by omega);have hui:=GQ hi;have hul:=H9 (w:=w) (a:=i+1) (b:=w.length) (by omega) (by omega);simp only at hs hn hb ho hk;have hnl:=Np (t:=st);rcases hD.ud i hi with hu|hu
  ·rw[if_pos hu]at hui;have hH:=F3 (w:=w) (i:=i);simp(disch:=first|omega|simp only[vl];omega) only[AA,hu];exact⟨(out,n::st,n+1,k),Wy hP hi hu,by simp[PJ]⟩
  ·have eh2:=E7 hi hu;rw[if_neg (by omega)]at hui
   cases st with
   |nil=>simp at hs;omega
   |cons j t=>
    have hj:=hb j (by simp)
    have hnt:=Np (t:=t)
    have f1:AE (nI t++[(j:Int)]) t.length=j:=by rw[←hnt];exact Mn
    have f2:sub (nI t++[(j:Int)]) 0 t.length=nI t:=by rw[←hnt];exact Mg
    have f3:(((nI t++[(j:Int)]).length:Nat):Int)=(t.length:Int)+1:=by simp[nI]
    have hH:=F3 (w:=w) (i:=i)
    simp only[AY]at hs
    simp only[PJ]
    simp(disch:=first|omega|simp only[vl];omega) only[AA,hu,f3,CA,f1,f2]
    exact⟨(BM out (j:Nat) k,t,n,k+1),AIN hP hi hu,by simp⟩
 ·have hv:=hP.v;obtain⟨out,st,n,k⟩:=x;rw[List.drop_length]at hv;simp only[Eg]at hv;simp(disch:=first|omega|simp only[vl];omega) only[AA];rw[hv]
end Go.Cat
