/-
 Diagonals read back: l32Diagonals of the reference, for any text.
-/
import Derived.Test.YthoilpmggmenbaaGreatQd0LawReports
import Derived.Test.YthoilpmggmenbaaGreatQd1LawReports
import Derived.Test.YthoilpmggmenbaaGreatQd2LawReports
import Derived.Test.YthoilpmggmenbaaGreatQd3LawReports
import Derived.Test.YthoilpmggmenbaaGreatPfRdG
import Derived.Test.YthoilpmggmenbaaGreatPfPart
import Derived.Test.YthoilpmggmenbaaGreatPfFrzJ
import Derived.Test.YthoilpmggmenbaaGreatPfMatP
import Derived.Test.YthoilpmggmenbaaGreatPfPlane
import Derived.Test.YthoilpmggmenbaaGreatPfWrite
import Derived.Test.YthoilpmggmenbaaGreatPfAp2
import Derived.Test.YthoilpmggmenbaaGreatPfPLine
import Derived.Test.YthoilpmggmenbaaGreatPfRankA
import Derived.Test.YthoilpmggmenbaaGreatPfTurn
set_option linter.unusedSimpArgs false
set_option linter.unusedVariables false
namespace Go.Cat
variable{K:Nat→List D→List D→Prop}
end Go.Cat
namespace Go.Cat
variable{K:Nat→List D→List D→Prop}
def Hg(f:Int→List Int→Bool):List Int→Bool
 |[]=>true
 |x::t=>f x t&&Hg f t
def MX(x y z:Int):List Int→Bool:=Hg fun u _=>!(decide (x=z)&&decide (y=u)&&!decide (x=y))
def Iz(x y:Int):List Int→Bool:=Hg fun z t=>MX x y z t
def Hl(x:Int):List Int→Bool:=Hg fun y t=>Iz x y t
def Du:List Int→Bool:=Hg fun x t=>Hl x t
def Gt(p:List Int):Bool:=CJ p&&Du p
theorem Qb{f:Int→List Int→Bool}{p:List Int}{i:Nat}(h:i<p.length):Hg f (p.drop i)=(f (AE p i) (p.drop (i+1))&&Hg f (p.drop (i+1))):=by rw[List.drop_eq_getElem_cons h,Hg];simp[AE,h]
theorem Qa{f:Int→List Int→Bool}{p:List Int}{i:Nat}(h:p.length≤i):Hg f (p.drop i)=true:=by rw[List.drop_of_length_le h];rfl
theorem nc_s[HA K]{p:List Int}(h:p.length≤1099511627776):K 483 [LI p] [.b (Gt p)]:=by
 have k1:=N2 (K:=K) (p:=p) h;refine qb ALK rfl ?_;simp only[ALK];simp(disch:=omega) only[AA];by_cases hp:CJ p=true
 ·rw[hp]at k1;have h8:p.length≤8:=by simp[CJ]at hp;exact hp.1
  have e0:Gt p=Du p:=by simp[Gt,hp]
  rw[e0];refine AL (fun i=>Du p=Du (p.drop i)) (fun i=>[LI p,.u,.n i,.u,.u,.u,.u,.u,.u,.u,.u]) p.length (by simp) rfl (fun a ha hA=>?_) (fun hA=>?_)
  ·have hA:Du p=(Hl (AE p a) (p.drop (a+1))&&Du (p.drop (a+1))):=hA.trans (Qb ha);simp(disch:=omega) only[AA];refine AD (k1) rfl ?_;simp(disch:=omega) only[AA];refine AL (fun j=>Du p=(Hl (AE p a) (p.drop (a+1+j))&&Du (p.drop (a+1)))) (fun j=>[LI p,.u,.n a,.n ((a:Int)+1+j),.u,.u,.u,.u,.u,.u,.u]) (p.length-(a+1)) (by simpa using hA) (by simp) (fun j hj hB=>?_) (fun hB=>?_)
   ·obtain⟨b,hb⟩:∃b,b=a+1+j:=⟨_,rfl⟩;have eb:(a:Int)+1+j=(b:Int):=by omega
    have hbl:b<p.length:=by omega
    rw[←hb]at hB;have hB:Du p=((Iz (AE p a) (AE p b) (p.drop (b+1))&&Hl (AE p a) (p.drop (b+1)))&&Du (p.drop (a+1))):=by rw[hB];congr 1;exact Qb hbl
    rw[eb];simp(disch:=omega) only[AA];refine AL (fun k=>Du p=((Iz (AE p a) (AE p b) (p.drop (b+1+k))&&Hl (AE p a) (p.drop (b+1)))&&Du (p.drop (a+1)))) (fun k=>[LI p,.u,.n a,.n b,.n ((b:Int)+1+k),.u,.u,.u,.u,.u,.u]) (p.length-(b+1)) (by simpa using hB) (by simp) (fun k hk hC=>?_) (fun hC=>?_)
    ·obtain⟨c,hc⟩:∃c,c=b+1+k:=⟨_,rfl⟩;have ec:(b:Int)+1+k=(c:Int):=by omega
     have hcl:c<p.length:=by omega
     rw[←hc]at hC;have hC:Du p=(((MX (AE p a) (AE p b) (AE p c) (p.drop (c+1))&&Iz (AE p a) (AE p b) (p.drop (c+1)))&&Hl (AE p a) (p.drop (b+1)))&&Du (p.drop (a+1))):=by rw[hC];congr 2;exact Qb hcl
     rw[ec];simp(disch:=omega) only[AA];refine AL (fun l=>Du p=(((MX (AE p a) (AE p b) (AE p c) (p.drop (c+1+l))&&Iz (AE p a) (AE p b) (p.drop (c+1)))&&Hl (AE p a) (p.drop (b+1)))&&Du (p.drop (a+1)))) (fun l=>[LI p,.u,.n a,.n b,.n c,.n ((c:Int)+1+l),.u,.u,.u,.u,.u]) (p.length-(c+1)) (by simpa using hC) (by simp) (fun l hl hD=>?_) (fun hD=>?_)
     ·obtain⟨d,hd⟩:∃d,d=c+1+l:=⟨_,rfl⟩;have ed:(c:Int)+1+l=(d:Int):=by omega
      have hdl:d<p.length:=by omega
      have ed2:c+1+(l+1)=d+1:=by omega
      have ed3:(c:Int)+1+((l:Int)+1)=(d:Int)+1:=by omega
      rw[←hd]at hD;have hD:Du p=((((!(decide (AE p a=AE p c)&&decide (AE p b=AE p d)&&!decide (AE p a=AE p b)))&&MX (AE p a) (AE p b) (AE p c) (p.drop (d+1)))&&Iz (AE p a) (AE p b) (p.drop (c+1)))&&Hl (AE p a) (p.drop (b+1))&&Du (p.drop (a+1))):=by rw[hD];congr 3;exact Qb hdl
      rw[ed,ed2];by_cases h1:AE p a=AE p c
      ·by_cases h2:AE p b=AE p d
       ·by_cases h3:AE p a=AE p b
        ·simp(disch:=omega) only[AA];rw[ed3];refine⟨?_,rfl⟩;rw[hD];simp[h3]
        ·simp(disch:=omega) only[AA];rw[hD,decide_eq_true h1,decide_eq_true h2,decide_eq_false h3];simp
       ·simp(disch:=omega) only[AA];rw[ed3];refine⟨?_,rfl⟩;rw[hD];simp[h2]
      ·simp(disch:=omega) only[AA];rw[ed3];refine⟨?_,rfl⟩;rw[hD];simp[h1]
     ·simp(disch:=omega) only[AA];have e:=Qa (f:=fun u _=>!(decide (AE p a=AE p c)&&decide (AE p b=u)&&!decide (AE p a=AE p b))) (p:=p) (i:=c+1+(p.length-(c+1))) (by omega);have e:MX (AE p a) (AE p b) (AE p c) (p.drop (c+1+(p.length-(c+1))))=true:=e;rw[e,Bool.true_and]at hD;have ek:b+1+(k+1)=c+1:=by omega
      have ek3:(b:Int)+1+((k:Int)+1)=(c:Int)+1:=by omega
      rw[ek,ek3];exact⟨hD,rfl⟩
    ·simp(disch:=omega) only[AA];have e:Iz (AE p a) (AE p b) (p.drop (b+1+(p.length-(b+1))))=true:=Qa (by omega);rw[e,Bool.true_and]at hC;have ek:a+1+(j+1)=b+1:=by omega
     have ek3:(a:Int)+1+((j:Int)+1)=(b:Int)+1:=by omega
     rw[ek,ek3];exact⟨hC,rfl⟩
   ·simp(disch:=omega) only[AA];have e:Hl (AE p a) (p.drop (a+1+(p.length-(a+1))))=true:=Qa (by omega);rw[e,Bool.true_and]at hB;exact hB
  ·have e:Du (p.drop p.length)=true:=Qa (by omega);rw[e]at hA;simp(disch:=omega) only[AA];refine AD (k1) rfl ?_;simp(disch:=omega) only[AA];rw[hA]
 ·have hp:CJ p=false:=by simpa using hp
  rw[hp]at k1;have e0:Gt p=false:=by simp[Gt,hp]
  rw[e0];refine AL (fun _=>True) (fun _=>[LI p,.u,.n 0,.u,.u,.u,.u,.u,.u,.u,.u]) 0 trivial rfl (fun i hi _=>absurd hi (by omega)) (fun _=>?_);by_cases h0:p.length=0
  ·simp(disch:=omega) only[AA];refine AD (k1) rfl ?_;simp(disch:=omega) only[AA]
  ·simp(disch:=omega) only[AA];refine AD (k1) rfl ?_;simp(disch:=omega) only[AA];refine AD (k1) rfl ?_;simp(disch:=omega) only[AA]
theorem AUN{p:List Int}(h:CJ p=true):E6 p p.length∧p.length≤8:=by simp[CJ]at h;exact⟨h.2,h.1⟩
theorem AbA{o:List (List Int)}{i j:Int}{r:List Int}(hi:0≤i∧i<o.length)(hj:0≤j):AG (DV o i r) j=if i=j then r else AG o j:=by
 obtain⟨n,rfl⟩:=Cd hi.1;obtain⟨m,rfl⟩:=Cd hj;have hn:n<o.length:=by have:=hi.2;omega
 simp only[AG,DV,Int.ofNat_eq_natCast,BH,Al,List.getElem?_set];by_cases e:n=m
 ·subst e;simp[hn]
 ·have e2:¬(n:Int)=(m:Int):=by omega
  simp[e,e2]
theorem ZB{p:List Int}:∀{i:Nat},E6 p i→∀j:Nat,j<i→0<(AG (Ar p i) (AE p j)).length
 |0,_,j,hj=>by omega
 |i+1,h,j,hj=>by
  have hv:E6 p i:=fun k hk=>h k (by omega)
  have h1:=Jw hv
  have h2:=A8.1 (h i (by omega))
  have h3:=A8.1 (h j hj)
  simp only[Ar]
  generalize ho:(if AE p i=(Ar p i).length then Ar p i++[[]]else Ar p i)=o
  have hol:0≤AE p i∧AE p i<o.length:=by
   rw[←ho];split
   ·simp only[A7,AY,Ap];omega
   ·omega
  rw[AbA hol h3.1]
  by_cases he:AE p i=AE p j
  ·rw[if_pos he];simp
  ·rw[if_neg he]
   have hji:j<i:=by
    rcases Bh j i with q|q
    ·exact q
    ·obtain rfl:j=i:=by omega
     exact absurd rfl he
   have ih:=ZB hv j hji
   rw[←ho];split
   ·have h4:=A8.1 (hv j hji)
    have hb:=H5 hv
    have hjl:AE p j<(Ar p i).length:=by
     rcases Int.lt_or_le (AE p j) ((Ar p i).length:Int)with q|q
     ·exact q
     ·exfalso
      obtain⟨m,hm⟩:=Cd h4.1
      have hm:AE p j=(m:Int):=hm
      rw[hm]at ih q
      have:AG (Ar p i) (m:Int)=[]:=by
       simp only[AG,BH,Al]
       rw[DS (by omega)];rfl
      rw[this]at ih;simp at ih
    obtain⟨m,hm⟩:=Cd h4.1
    have hm:AE p j=(m:Int):=hm
    rw[hm]at ih hjl⊢
    have:AG (Ar p i++[[]]) (m:Int)=AG (Ar p i) (m:Int):=by
     simp only[AG,BH,Al]
     rw[DC (by omega)]
    rw[this];exact ih
   ·exact ih
def Ix(p:List Int)(b:List (List Int)):Nat→List Nat
 |0=>[]
 |i+1=>Ix p b i++[117]++if AE (AG b (AE p i)) ((AG b (AE p i)).length-1)=i then List.replicate (AG b (AE p i)).length 100 else []
def Q6(p:List Int):List Nat:=if Gt p=true then Ix p (Ar p p.length) p.length else []
theorem Xl{p:List Int}{b:List (List Int)}(h:∀j:Nat,j<p.length→(AG b (AE p j)).length≤8):∀{i:Nat},i≤p.length→(Ix p b i).length≤9*i
 |0,_=>by simp[Ix]
 |i+1,hi=>by
  have ih:=Xl h (i:=i) (by omega)
  have h1:=h i (by omega)
  simp only[Ix,A7,AY,Ap]
  split
  ·simp only[List.length_replicate];omega
  ·simp only[Ap];omega
theorem Ac6{k c:Nat}:List.replicate (k+1) c=List.replicate k c++[c]:=by rw[List.replicate_succ']
theorem AbL[HA K]{p:List Int}(h:p.length≤1099511627776):K 579 [LI p] [.s (Q6 p),.b (Gt p)]:=by
 have k1:=nc_s (K:=K) (p:=p) h;by_cases hn:Gt p=true
 ·have hp:CJ p=true:=by simp only[Gt,AX]at hn;exact hn.1
  obtain⟨hv,h8⟩:=AUN hp;have k2:=SP (K:=K) (p:=p) h;rw[hp,if_pos rfl]at k2;have hr1:=ZB hv;have hbl:=Jw hv;have hnx:=H5 hv;have hin:∀j:Nat,j<p.length→0≤AE p j∧AE p j<(Ar p p.length).length:=by
   intro j hj;have h1:=A8.1 (hv j hj);have h2:=hr1 j hj;refine⟨h1.1,?_⟩;rcases Int.lt_or_le (AE p j) ((Ar p p.length).length:Int)with q|q
   ·exact q
   ·exfalso;obtain⟨m,hm⟩:=Cd h1.1;have hm:AE p j=(m:Int):=hm;rw[hm]at h2 q;have:AG (Ar p p.length) (m:Int)=[]:=by simp only[AG,BH,Al];rw[DS (by omega)];rfl
    rw[this]at h2;simp at h2
  have hr2:∀j:Nat,j<p.length→(AG (Ar p p.length) (AE p j)).length≤8:=by intro j hj;obtain⟨m,hm⟩:=Cd (hin j hj).1;have hm:AE p j=(m:Int):=hm;have h2:=(hin j hj).2;rw[hm]at h2⊢;have:=Kh (G8 (i:=m) (m:=Ar p p.length) (by omega));omega
  rw[hn]at k1;rw[Q6,if_pos hn,hn];generalize hB:Ar p p.length=B at k2 hr1 hr2 hin hbl;refine qb Og rfl ?_;simp only[Og];simp(disch:=first|omega|simp only[vl];omega) only[AA];refine AD (k1) rfl ?_;simp(disch:=first|omega|simp only[vl];omega) only[AA];refine AD (k2) rfl ?_;simp(disch:=first|omega|simp only[vl];omega) only[AA];refine AL (fun _=>True) (fun i=>[LI p,.u,.u,.s (Ix p B i),LL B,.n i,.u,.u,.u,.u,.u,.u]) p.length trivial rfl (fun i hi _=>?_) (fun _=>?_)
  ·have q1:=hr1 i hi;have q2:=hr2 i hi;have q3:=hin i hi;have hlt:=Xl hr2 (i:=i) (by omega);obtain⟨r,hr⟩:∃r,r=AG B (AE p i):=⟨_,rfl⟩;rw[Ix,←hr];rw[←hr]at q1 q2;by_cases hl:AE r (r.length-1)=i
   ·rw[if_pos hl];simp(disch:=first|omega|simp only[vl];omega) only[AA,←hr,hl];refine AL (fun _=>True) (fun k=>[LI p,.u,.u,.s (Ix p B i++[117]++List.replicate k 100),LL B,.n i,LI r,.n k,.u,.u,.u,.u]) r.length trivial (by simp) (fun k hk _=>?_) (fun _=>?_)
    ·have hrl:(List.replicate k 100:List Nat).length=k:=by simp
     rw[Ac6,←CI];simp(disch:=first|omega|simp only[vl];omega) only[AA]
    ·simp(disch:=first|omega|simp only[vl];omega) only[AA]
   ·rw[if_neg hl,List.append_nil];simp(disch:=first|omega|simp only[vl];omega) only[AA,←hr,hl]
  ·simp(disch:=first|omega|simp only[vl];omega) only[AA]
 ·have hn:Gt p=false:=by simpa using hn
  rw[hn]at k1;rw[Q6,hn];refine qb Og rfl ?_;simp only[Og];simp(disch:=first|omega|simp only[vl];omega) only[AA];refine AD (k1) rfl ?_;simp(disch:=first|omega|simp only[vl];omega) only[AA];rfl
end Go.Cat
namespace Go.Cat
variable{K:Nat→List D→List D→Prop}
def KO(m:List Int):Nat→List Nat
 |0=>[]
 |i+1=>KO m i++[if(i:Int)<AE m i then 117 else 100]
theorem XQ{m:List Int}:∀i,(KO m i).length=i
 |0=>rfl
 |i+1=>by simp[KO,XQ i]
def M5(m:List Int):List Nat:=if Ef m=true then KO m m.length else []
theorem AYG[HA K]{m:List Int}(h:m.length≤1099511627776):K 581 [LI m] [.s (M5 m),.b (Ef m)]:=by
 have k1:=T6 (K:=K) (m:=m) h;refine qb AGP rfl ?_;simp only[AGP];simp(disch:=first|omega|simp only[vl];omega) only[AA];by_cases hn:Ef m=true
 ·have h16:m.length≤16:=by
   simp only[Ef,AX]at hn
   exact(GH hn.1).1
  rw[hn]at k1⊢
  rw[M5,if_pos hn]
  refine AL (fun _=>True) (fun i=>[LI m,.u,.u,.s (KO m i),.n i,.u,.u]) m.length trivial rfl (fun i hi _=>?_) (fun _=>?_)
  ·have hl:=XQ (m:=m) i
   rw[KO]
   by_cases hc:(i:Int)<AE m i
   ·rw[if_pos hc]
    simp(disch:=first|omega|simp only[vl];omega) only[AA]
    refine AD (k1) rfl ?_
    simp(disch:=first|omega|simp only[vl];omega) only[AA]
   ·rw[if_neg hc]
    simp(disch:=first|omega|simp only[vl];omega) only[AA]
    refine AD (k1) rfl ?_
    simp(disch:=first|omega|simp only[vl];omega) only[AA]
  ·simp(disch:=first|omega|simp only[vl];omega) only[AA]
   refine AD (k1) rfl ?_
   simp(disch:=first|omega|simp only[vl];omega) only[AA]
 ·have hn:Ef m=false:=by simpa using hn
  rw[hn]at k1⊢;have e:M5 m=[]:=by simp[M5,hn]
  rw[e];refine AL (fun _=>True) (fun _=>[LI m,.u,.u,.s [],.n 0,.u,.u]) 0 trivial rfl (fun i hi _=>absurd hi (by omega)) (fun _=>?_);by_cases h0:m.length=0
  ·simp(disch:=first|omega|simp only[vl];omega) only[AA];refine AD (k1) rfl ?_;simp(disch:=first|omega|simp only[vl];omega) only[AA]
  ·simp(disch:=first|omega|simp only[vl];omega) only[AA];refine AD (k1) rfl ?_;simp(disch:=first|omega|simp only[vl];omega) only[AA];refine AD (k1) rfl ?_;simp(disch:=first|omega|simp only[vl];omega) only[AA]
end Go.Cat
namespace Go.Cat
variable{K:Nat→List D→List D→Prop}
end Go.Cat
namespace Go.Cat
set_option maxRecDepth 100000
theorem AE7{b:Nat}:∀{ws:List (List Nat)}{x:List Nat},sep b (ws++[x])=sep b ws++(if 0<ws.length then [b]else [])++x
 |[],x=>by simp[sep]
 |[p],x=>by simp[sep]
 |p::q::t,x=>by
  have:=AE7 (b:=b) (ws:=q::t) (x:=x)
  simp only[List.cons_append]at this
  simp only[List.cons_append,sep]
  rw[this];simp
theorem Zx{b:Nat}{ws:List (List Nat)}:∀i,i≤ws.length→BN [b] ws i=sep b (ws.take i)
 |0,_=>by simp[BN,sep]
 |i+1,h=>by
  have hl:(ws.take i).length=i:=by simp;omega
  rw[BN,Zx i (by omega),AJN (by omega),AE7,hl]
theorem Te{b:Nat}{ws:List (List Nat)}:glue [b] ws=sep b ws:=by rw[glue,Zx _ (Nat.le_refl _),List.take_length]
theorem NL{x:Int}(h0:0≤x)(h9:x≤9):Ai x=[48+x.toNat]:=by
 unfold Ai;split
 ·rename_i h;rw[h];rfl
 ·rename_i h;have e0:D5 0=[]:=by simp[D5]
  have e1:x.natAbs/10=0:=by omega
  have e2:x.natAbs%10=x.toNat:=by omega
  rw[if_neg (by omega),JR (by omega),e1,e0,e2];rfl
def Lc:Nat→List Nat→BT×List Nat
 |0,w=>(.lf,w)
 |f+1,w=>if w.headD 0=117 then(BT.nd (Lc f w.tail).1 (Lc f (Lc f w.tail).2.tail).1,(Lc f (Lc f w.tail).2.tail).2)else(.lf,w)
def Cc(w:List Nat):BT:=(Lc w.length w).1
def FA(w:List Nat):Nat→List Int×List Nat
 |0=>(rep (w.length:Nat) 0,[])
 |i+1=>if AK w i=117 then((FA w i).1,i::(FA w i).2)else(BM (BM (FA w i).1 i ((FA w i).2.headD 0:Nat)) ((FA w i).2.headD 0:Nat) i,(FA w i).2.tail)
def Ck(w:List Nat):List Int:=(FA w w.length).1
theorem AAA{w:List Nat}(hd:DY w):∀{i:Nat},i≤w.length→PS w i (FA w i).1 (FA w i).2
 |0,_=>⟨by simp[FA,SO,E0],by simp[FA,rep],by simp⟩
 |i+1,h=>by
  have ih:=AAA hd (i:=i) (by omega)
  rcases hd.ud i (by omega)with hu|hu
  ·rw[FA,if_pos hu]
   exact AL8 ih (by omega) hu
  ·rw[FA,if_neg (by omega)]
   have hs:=KA ih.1
   have e:=E7 (w:=w) (i:=i) (by omega) hu
   have e0:=hd.h0 (i+1) (by omega)
   cases hst:(FA w i).2 with
   |nil=>rw[hst]at hs;simp only[Ap]at hs;omega
   |cons j t=>
    rw[hst]at ih
    exact Yh ih (by omega) hu
theorem QI{w:List Nat}(hw:AM w=true):EA w=Ck w:=by
 have hd:=Ah hw;have h:=AAA hd (Nat.le_refl w.length);refine Qd ⟨h.2.1,fun a ha=>?_⟩;obtain⟨h1,h2,h3⟩:=h;refine h3 a ha fun q=>?_;have:=KA h1;rw[hd.he]at this;have e:(FA w w.length).2=[]:=Dt (by omega);rw[e]at q
 cases q
def EW(w:List Nat):List Int:=C8 (Cn w (fun a=>(DR w (AE (Ck w) a).toNat:Int)) w.length) (Bw w w.length)
theorem AFT{w:List Nat}(hw:AM w=true):DO w=EW w:=by rw[DO,EW,QI hw]
end Go.Cat
namespace Go.Cat
variable{K:Nat→List D→List D→Prop}
def BG(f:Nat):List Nat:=match f with
 |0=>[109,97,116,99,104,105,110,103,115]
 |1=>[112,97,114,116,105,116,105,111,110,115]
 |_=>[116,114,105,97,110,103,117,108,97,116,105,111,110,115]
def BS(f n:Nat):Nat:=match f with
 |0=>2*n
 |1=>n
 |_=>n+2
theorem f3{f:Nat}(h:f<3):f=0∨f=1∨f=2:=by omega
theorem Uy{f n:Nat}(hf:f<3)(hn:n≤5):BS f n≤10:=by rcases f3 hf with rfl|rfl|rfl<;>simp only[BS]<;>omega
theorem PV[HA K]{f n:Nat}(hf:f<3)(hn:1≤n∧n≤5):K 567 [.s (BG f),.n n] [.n (BS f n)]:=by
 have hin:AV 1 5 n=true:=A8.2 (by omega);refine qb QD rfl ?_;simp only[QD];simp(disch:=first|omega|simp only[vl];omega) only[AA];refine AD (Bj (K:=K)) rfl ?_;rcases f3 hf with rfl|rfl|rfl
 ·simp(disch:=first|omega|simp only[vl];omega) only[AA,hin,show(BG 0==[109,97,116,99,104,105,110,103,115])=true from rfl];rfl
 ·simp(disch:=first|omega|simp only[vl];omega) only[AA,hin,show(BG 1==[109,97,116,99,104,105,110,103,115])=false from rfl,show(BG 1==[112,97,114,116,105,116,105,111,110,115])=true from rfl];rfl
 ·simp(disch:=first|omega|simp only[vl];omega) only[AA,hin,show(BG 2==[109,97,116,99,104,105,110,103,115])=false from rfl,show(BG 2==[112,97,114,116,105,116,105,111,110,115])=false from rfl,show(BG 2==[116,114,105,97,110,103,117,108,97,116,105,111,110,115])=true from rfl];rfl
theorem AUL[HA K]{s:List Nat}{n:Int}(h:AV 1 5 n=false∨(s≠BG 0∧s≠BG 1∧s≠BG 2)):K 567 [.s s,.n n] [.n (-1)]:=by
 refine qb QD rfl ?_;simp only[QD];simp(disch:=first|omega|simp only[vl];omega) only[AA];refine AD (Bj (K:=K)) rfl ?_
 cases hin:AV 1 5 n
 ·simp(disch:=first|omega|simp only[vl];omega) only[AA]
 ·rw[hin]at h;have h:=h.resolve_left (by simp);have h0:(s==[109,97,116,99,104,105,110,103,115])=false:=beq_eq_false_iff_ne.2 h.1;have h1:(s==[112,97,114,116,105,116,105,111,110,115])=false:=beq_eq_false_iff_ne.2 h.2.1;have h2:(s==[116,114,105,97,110,103,117,108,97,116,105,111,110,115])=false:=beq_eq_false_iff_ne.2 h.2.2;simp(disch:=first|omega|simp only[vl];omega) only[AA,h0,h1,h2]
def t15(f n k:Nat)(w:List Nat):List Nat:=match f with
 |0=>M5 (H6 (Ck w) (k%(2*n)))
 |1=>Q6 (iter (fun _ p=>Fy p) k (EW w))
 |_=>(Q8 ((n:Int)+2) (HU ((n:Int)+2) ((k%(n+2):Nat):Int) (BP (Cc w)))).p
def O7(r:List Int):Bool:=decide (r.length=2)&&(AV 0 10 (AE r 0)&&AV 0 10 (AE r 1))
theorem NR{d:List (List Int)}(h:d.all O7=true):∀r∈d,ED r:=by intro r hr;have:=Aw.1 h r hr;simp only[O7,AX,Aj]at this;have a:=A8.1 this.2.1;have b:=A8.1 this.2.2;exact⟨this.1,by omega,by omega⟩
def RK(n:Nat)(w:List Nat):Bool:=decide ((Cc w).p=w)&&(D7 ((n:Int)+2) (BP (Cc w))&&((BP (Cc w)).all O7))
def OF(n:Nat)(w:List Nat)(k:Nat):Bool:=D7 ((n:Int)+2) (HU ((n:Int)+2) (k:Int) (BP (Cc w)))&&(HU ((n:Int)+2) (k:Int) (BP (Cc w))).all O7
def Kf(w:List Nat)(k:Nat):Bool:=CJ (iter (fun _ p=>Fy p) k (EW w))&&decide (0<(iter (fun _ p=>Fy p) k (EW w)).length)
noncomputable def svC(n:Nat):Bool:=(AN (n+1)).all fun w=>RK (n+1) w&&(BO (n+3) (OF (n+1) w)&&BO (n+2) (Kf w))
theorem sv0:BO 4 svC=true:=by kernel_rfl
theorem sv4:svC 4=true:=by kernel_rfl
theorem AOV{n:Nat}(hn:1≤n∧n≤5){w:List Nat}(hw:w∈AN n):RK n w=true∧(∀k,k<n+2→OF n w k=true)∧∀k,k<n+1→Kf w k=true:=by
 have h:svC (n-1)=true:=by
  rcases Bh (n-1) 4 with q|q
  ·exact BQ sv0 _ q
  ·rw[show n-1=4 by omega];exact sv4
 have:=Aw.1 h w (by rw[show n-1+1=n by omega];exact hw);simp only[AX]at this;rw[show n-1+1=n by omega,show n-1+3=n+2 by omega,show n-1+2=n+1 by omega]at this;exact⟨this.1,fun k hk=>BQ this.2.1 k hk,fun k hk=>BQ this.2.2 k hk⟩
end Go.Cat
