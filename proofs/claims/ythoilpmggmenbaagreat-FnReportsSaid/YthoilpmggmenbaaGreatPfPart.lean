/-
 Partitions of a path: blocks, numbers of blocks.
-/
import Derived.Test.YthoilpmggmenbaaGreatPfStat
import Derived.Test.YthoilpmggmenbaaGreatPfMatP
import Derived.Test.YthoilpmggmenbaaGreatQd0LawReports
import Derived.Test.YthoilpmggmenbaaGreatQd1LawReports
import Derived.Test.YthoilpmggmenbaaGreatQd2LawReports
import Derived.Test.YthoilpmggmenbaaGreatQd3LawReports
set_option linter.unusedSimpArgs false
set_option linter.unusedVariables false
namespace Go.Cat
variable{K:Nat→List D→List D→Prop}
def Dk(p:List Int):Nat→Int
 |0=>0
 |i+1=>max (Dk p i) (AE p i+1)
def E6(p:List Int)(i:Nat):Prop:=∀j:Nat,j<i→AV 0 (Dk p j) (AE p j)=true
instance{p:List Int}{i:Nat}:Decidable (E6 p i):=by unfold E6;infer_instance
def CJ(p:List Int):Bool:=decide (p.length≤8)&&decide (E6 p p.length)
theorem H5{p:List Int}:∀{i:Nat},E6 p i→0≤Dk p i∧Dk p i≤i
 |0,_=>by simp[Dk]
 |i+1,h=>by
  have h1:=H5 (p:=p) (i:=i) fun j hj=>h j (by omega)
  have h2:=A8.1 (h i (by omega))
  simp only[Dk];omega
theorem AI7{p:List Int}(h:¬E6 p p.length):CJ p=false:=by simp[CJ,h]
theorem APG[HA K]{p:List Int}(h:p.length≤1099511627776):K 478 [LI p] [.b (CJ p)]:=by
 refine qb AE5 rfl ?_;simp only[AE5];by_cases hl:p.length≤8
 ·simp(disch:=omega) only[AA];refine AL (fun i=>E6 p i) (fun i=>[.u,.u,.n (Dk p i),.u,.u,LI p,.n p.length,.n i,.u,.u]) p.length (by simp[E6]) rfl (fun i hi hP=>?_) (fun hP=>?_)
  ·have hb:=H5 hP;simp(disch:=omega) only[AA];refine AD (CK (K:=K)) rfl ?_
   cases hr:AV 0 (Dk p i) (AE p i)
   ·simp(disch:=omega) only[AA];rw[AI7 fun q=>by have:=q i hi;rw[hr]at this;cases this]
   ·have:=A8.1 hr;simp(disch:=omega) only[AA];refine⟨CB hP hr,?_⟩;simp only[Dk]
  ·simp(disch:=omega) only[AA];simp[CJ,hl,hP]
 ·simp(disch:=omega) only[AA];simp[CJ,hl]
theorem N2[HA K]{p:List Int}(h:p.length≤1099511627776):K 324 [LI p] [.b (CJ p)]:=by
 refine qb AMB rfl ?_;simp only[AMB];simp(disch:=omega) only[AA];refine AL (fun i=>E6 p i) (fun i=>[LI p,.u,.n (Dk p i),.n i,.u,.u,.u]) p.length (by simp[E6]) rfl (fun i hi hP=>?_) (fun hP=>?_)
 ·have hb:=H5 hP;simp(disch:=omega) only[AA];refine AD (Bj (K:=K)) rfl ?_
  cases hr:AV 0 (Dk p i) (AE p i)
  ·simp(disch:=omega) only[AA];rw[AI7 fun q=>by have:=q i hi;rw[hr]at this;cases this]
  ·have:=A8.1 hr;by_cases he:AE p i=Dk p i
   ·have e:Dk p (i+1)=Dk p i+1:=by simp only[Dk];omega
    rw[e];simp(disch:=omega) only[AA];exact CB hP hr
   ·have e:Dk p (i+1)=Dk p i:=by simp only[Dk];omega
    rw[e];simp(disch:=omega) only[AA];exact CB hP hr
 ·simp(disch:=omega) only[AA];simp[CJ,hP];omega
def Ar(p:List Int):Nat→List (List Int)
 |0=>[]
 |i+1=>
  let o:=if AE p i=(Ar p i).length then Ar p i++[[]]else Ar p i
  DV o (AE p i) (AG o (AE p i)++[(i:Int)])
theorem Jw{p:List Int}:∀{i:Nat},E6 p i→((Ar p i).length:Int)=Dk p i
 |0,_=>rfl
 |i+1,h=>by
  have h1:=Jw (p:=p) (i:=i) fun j hj=>h j (by omega)
  have h2:=A8.1 (h i (by omega))
  simp only[Ar,Dk,Rb]
  split
  ·simp only[A7,AY,Ap];omega
  ·omega
theorem Kh{p:List Int}:∀{i:Nat}{r:List Int},r∈Ar p i→r.length≤i
 |0,r,h=>by simp[Ar]at h
 |i+1,r,h=>by
  have ho:∀r∈(if AE p i=(Ar p i).length then Ar p i++[[]]else Ar p i),r.length≤i:=by
   intro r hr
   split at hr
   ·rcases Af.1 hr with q|q
    ·exact Kh q
    ·simp at q;subst q;simp
   ·exact Kh hr
  simp only[Ar,DV]at h
  rcases List.mem_or_eq_of_mem_set h with q|q
  ·have:=ho _ q;omega
  ·subst q
   have:(AG (if AE p i=(Ar p i).length then Ar p i++[[]]else Ar p i) (AE p i)).length≤i:=by
    simp only[AG]
    rcases Bh (AE p i).toNat (if AE p i=(Ar p i).length then Ar p i++[[]]else Ar p i).length with q|q
    ·rw[Al,En q]
     exact ho _ (List.getElem_mem q)
    ·rw[Al,DS q];simp
   simp only[A7,AY,Ap];omega
theorem AJK:D.l []=LL []:=rfl
theorem ABU{a b:List (List Int)}(h:a.length+b.length≤1099511627776):EB false (LL a) (LL b)=some (LL (a++b)):=Ii ⟨h,rfl⟩
theorem X2:C2 [D.l []]=some (LL [[]]):=rfl
theorem XJ[HA K]{p:List Int}(h:p.length≤1099511627776):K 479 [LI p] [LL (if CJ p=true then Ar p p.length else [])]:=by
 refine qb AG9 rfl ?_;simp only[AG9];simp(disch:=first|omega|simp only[vl];omega) only[AA];refine AD (APG (K:=K) h) rfl ?_
 cases hp:CJ p
 ·simp(disch:=first|omega|simp only[vl];omega) only[AA];rfl
 ·have hv:E6 p p.length∧p.length≤8:=by simp[CJ]at hp;exact⟨hp.2,hp.1⟩
  obtain⟨hv,h8⟩:=hv;simp(disch:=first|omega|simp only[vl];omega) only[AA];rw[AJK];refine AL (fun _=>True) (fun i=>[.u,.u,LL (Ar p i),.u,.u,.u,LI p,.n p.length,.n i,.u,.u]) p.length trivial rfl (fun i hi _=>?_) (fun _=>?_)
  ·have hvi:E6 p i:=fun j hj=>hv j (by omega);have hl:=Jw hvi;have hb:=H5 hvi;have hr:=A8.1 (hv i hi);by_cases he:AE p i=(Ar p i).length
   ·obtain⟨o,ho⟩:∃o,o=Ar p i++[[]]:=⟨_,rfl⟩;have e:Ar p (i+1)=DV o (AE p i) (AG o (AE p i)++[(i:Int)]):=by rw[ho];simp only[Ar];rw[if_pos he]
    have hol:o.length=(Ar p i).length+1:=by rw[ho];simp
    have hrow:(AG o (AE p i)).length≤i:=by
     have:AG o (AE p i)=[]:=by rw[ho,he];simp[AG]
     rw[this];simp
    rw[e];simp(disch:=first|omega|simp only[vl];omega) only[AA,X2,ABU,←ho,Mp,N1]
   ·have e:Ar p (i+1)=DV (Ar p i) (AE p i) (AG (Ar p i) (AE p i)++[(i:Int)]):=by
     simp only[Ar];rw[if_neg he]
    have hrow:(AG (Ar p i) (AE p i)).length≤i:=by
     obtain⟨n,hn⟩:=Cd hr.1
     rw[hn]
     exact Kh (G8 (i:=n) (by omega))
    rw[e]
    simp(disch:=first|omega|simp only[vl];omega) only[AA,Mp,N1]
  ·simp(disch:=first|omega|simp only[vl];omega) only[AA];all_goals simp
theorem SP[HA K]{p:List Int}(h:p.length≤1099511627776):K 302 [LI p] [LL (if CJ p=true then Ar p p.length else [])]:=by
 refine qb AI9 rfl ?_;simp only[AI9];simp(disch:=first|omega|simp only[vl];omega) only[AA];rw[AJK]
 cases hp:CJ p
 ·refine Be (fun(_:Unit)=>True) (fun _=>[LI p,.u,LL [],.n 0,.u,.u]) (fun _=>0) () trivial rfl (fun _ _=>?_);by_cases h0:0<p.length
  ·simp(disch:=first|omega|simp only[vl];omega) only[AA];repeat(first|(refine AD (N2 (K:=K) h) rfl ?_;try simp(disch:=first|omega|simp only[vl];omega) only[AA,hp]))
   simp
  ·simp(disch:=first|omega|simp only[vl];omega) only[AA];simp
 ·have hv:E6 p p.length∧p.length≤8:=by simp[CJ]at hp;exact⟨hp.2,hp.1⟩
  obtain⟨hv,h8⟩:=hv;simp only[if_true];refine AL (fun _=>True) (fun i=>[LI p,.u,LL (Ar p i),.n i,.u,.u]) p.length trivial rfl (fun i hi _=>?_) (fun _=>?_)
  ·have hvi:E6 p i:=fun j hj=>hv j (by omega);have hl:=Jw hvi;have hb:=H5 hvi;have hr:=A8.1 (hv i hi);by_cases he:AE p i=(Ar p i).length
   ·obtain⟨o,ho⟩:∃o,o=Ar p i++[[]]:=⟨_,rfl⟩;have e:Ar p (i+1)=DV o (AE p i) (AG o (AE p i)++[(i:Int)]):=by rw[ho];simp only[Ar];rw[if_pos he]
    have hol:o.length=(Ar p i).length+1:=by rw[ho];simp
    have hrow:(AG o (AE p i)).length≤i:=by
     have:AG o (AE p i)=[]:=by rw[ho,he];simp[AG]
     rw[this];simp
    rw[e];simp(disch:=first|omega|simp only[vl];omega) only[AA];repeat(first|(refine AD (N2 (K:=K) h) rfl ?_;try simp(disch:=first|omega|simp only[vl];omega) only[AA,hp]))
    simp(disch:=first|omega|simp only[vl];omega) only[AA,X2,ABU,←ho,Mp,N1]
   ·have e:Ar p (i+1)=DV (Ar p i) (AE p i) (AG (Ar p i) (AE p i)++[(i:Int)]):=by
     simp only[Ar];rw[if_neg he]
    have hrow:(AG (Ar p i) (AE p i)).length≤i:=by
     obtain⟨n,hn⟩:=Cd hr.1
     rw[hn]
     exact Kh (G8 (i:=n) (by omega))
    rw[e]
    simp(disch:=first|omega|simp only[vl];omega) only[AA]
    repeat(first|(refine AD (N2 (K:=K) h) rfl ?_;try simp(disch:=first|omega|simp only[vl];omega) only[AA,hp]))
  ·simp(disch:=first|omega|simp only[vl];omega) only[AA]
def Ci:List Int→Int→Nat
 |[],_=>0
 |y::t,x=>if y=x then 0 else Ci t x+1
theorem VF{x:Int}:∀{l:List Int},Ci l x≤l.length
 |[]=>Nat.le_refl _
 |y::t=>by
  have:=VF (x:=x) (l:=t)
  unfold Ci
  split<;>simp<;>omega
theorem Ha{x:Int}:∀{l:List Int},Ci l x<l.length↔x∈l
 |[]=>by simp[Ci]
 |y::t=>by
  have:=Ha (x:=x) (l:=t)
  unfold Ci
  by_cases h:y=x
  ·simp[h]
  ·rw[if_neg h]
   simp only[AY,Nat.add_lt_add_iff_right,this,Aa]
   constructor
   ·exact fun q=>.inr q
   ·rintro(q|q)
    ·exact absurd q.symm h
    ·exact q
theorem Td{x:Int}:∀{l:List Int},x∈l→AE l (Ci l x)=x
 |[],h=>by cases h
 |y::t,h=>by
  unfold Ci
  by_cases hy:y=x
  ·rw[if_pos hy];simp[AE,hy]
  ·rw[if_neg hy]
   have h2:x∈t:=by
    rcases Aa.1 h with q|q
    ·exact absurd q.symm hy
    ·exact q
   have:=Td h2
   simpa[AE]using this
theorem AOM{x:Int}{b:List Int}:∀{a:List Int},x∈a→Ci (a++b) x=Ci a x
 |[],h=>by cases h
 |y::t,h=>by
  simp only[List.cons_append,Ci]
  by_cases hy:y=x
  ·rw[if_pos hy,if_pos hy]
  ·rw[if_neg hy,if_neg hy]
   have h2:x∈t:=by
    rcases Aa.1 h with q|q
    ·exact absurd q.symm hy
    ·exact q
   rw[AOM h2]
def Av(l:List Int):Nat→List Int
 |0=>[]
 |i+1=>if AE l i∈Av l i then Av l i else Av l i++[AE l i]
def C8(l:List Int):Nat→List Int
 |0=>[]
 |i+1=>C8 l i++[(Ci (Av l i) (AE l i):Int)]
theorem Mo{l:List Int}:∀i,(C8 l i).length=i
 |0=>rfl
 |i+1=>by simp[C8,Mo i]
theorem Ui{l:List Int}:∀i,(Av l i).length≤i
 |0=>by simp[Av]
 |i+1=>by
  have:=Ui (l:=l) i
  unfold Av
  split
  ·omega
  ·simp;omega
theorem Oc{l:List Int}{x:Int}:∀{i:Nat},x∈Av l i↔∃k:Nat,k<i∧AE l k=x
 |0=>by simp[Av]
 |i+1=>by
  have ih:=Oc (l:=l) (x:=x) (i:=i)
  have key:x∈Av l (i+1)↔x∈Av l i∨AE l i=x:=by
   have e:Av l (i+1)=if AE l i∈Av l i then Av l i else Av l i++[AE l i]:=rfl
   rw[e]
   split
   ·rename_i h
    constructor
    ·exact fun q=>.inl q
    ·rintro(q|q)
     ·exact q
     ·rw[←q];exact h
   ·simp only[Af,List.mem_singleton]
    constructor
    ·rintro(q|q)
     ·exact .inl q
     ·exact .inr q.symm
    ·rintro(q|q)
     ·exact .inl q
     ·exact .inr q.symm
  rw[key,ih]
  constructor
  ·rintro(⟨k,h1,h2⟩|h)
   ·exact⟨k,by omega,h2⟩
   ·exact⟨i,by omega,h⟩
  ·rintro⟨k,h1,h2⟩
   rcases Bh k i with q|q
   ·exact .inl ⟨k,q,h2⟩
   ·obtain rfl:k=i:=by omega
    exact .inr h2
theorem AOY{l:List Int}:∀{i k:Nat},k<i→AE (C8 l i) k=Ci (Av l i) (AE l k)
 |0,k,h=>by omega
 |i+1,k,h=>by
  have hl:=Mo (l:=l) i
  have hpre:∀{x:Int},x∈Av l i→Ci (Av l (i+1)) x=Ci (Av l i) x:=by
   intro x hx
   simp only[Av]
   split
   ·rfl
   ·exact AOM hx
  rcases Bh k i with q|q
  ·have ih:=AOY (l:=l) (i:=i) (k:=k) q
   rw[hpre (Oc.2 ⟨k,q,rfl⟩),←ih]
   simp only[C8,AE,Al]
   rw[DC (by simpa[hl]using q)]
  ·obtain rfl:k=i:=by omega
   have e:AE (C8 l (k+1)) k=(Ci (Av l k) (AE l k):Int):=by
    simp only[C8,AE,Al,BH]
    rw[F5 (by omega)]
    simp[hl]
   rw[e]
   by_cases hx:AE l k∈Av l k
   ·rw[hpre hx]
   ·have e2:Av l (k+1)=Av l k++[AE l k]:=by simp only[Av];rw[if_neg hx]
    have e3:∀(a:List Int),AE l k∉a→Ci (a++[AE l k]) (AE l k)=a.length∧Ci a (AE l k)=a.length:=by
     intro a ha
     induction a with
     |nil=>simp[Ci]
     |cons y t ih=>
      simp only[Aa,not_or]at ha
      have:=ih ha.2
      simp only[List.cons_append,Ci,if_neg (fun q=>ha.1 (Eq.symm q)),AY,this,and_self]
    rw[e2,(e3 _ hx).1,(e3 _ hx).2]
theorem AJ4[HA K]{l:List Int}(h:l.length≤8):K 475 [LI l] [LI (C8 l l.length),.b true]:=by
 refine qb X4 rfl ?_;simp only[X4];simp(disch:=first|omega|simp only[vl];omega) only[AA];rw[Lq];refine AL (fun _=>True) (fun i=>[LI l,.u,.u,LI (C8 l i),.n (Av l i).length,.u,.u,.u,.u,.u,.u,LI l,.n l.length,.n i,.u,.u,.u,.u,.u,.u,.u]) l.length trivial rfl (fun i hi _=>?_) (fun _=>?_)
 ·have hr:=Mo (l:=l) i;have hn:=Ui (l:=l) i;have hsub:(sub l 0 (i:Int)).length=i:=by rw[KH];omega
  have hat:∀k:Nat,k<i→AE (sub l 0 (i:Int)) k=AE l k:=by intro k hk;simp[AE,sub,Al,List.getElem?_take,hk]
  obtain⟨B,hB⟩:∃B:Nat,B=Ci (Av l i) (AE l i):=⟨_,rfl⟩;have hBl:B≤(Av l i).length:=by rw[hB];exact VF
  have e1:C8 l (i+1)=C8 l i++[(B:Int)]:=by simp only[C8,hB]
  have e2:((Av l (i+1)).length:Int)=if B=(Av l i).length then(Av l i).length+1 else(Av l i).length:=by
   simp only[Av];by_cases hm:AE l i∈Av l i
   ·have:=Ha.2 hm;rw[if_pos hm,if_neg (by omega)]
   ·have:¬Ci (Av l i) (AE l i)<(Av l i).length:=fun q=>hm (Ha.1 q);rw[if_neg hm,if_pos (by omega)];simp
  rw[e1,e2];simp(disch:=first|omega|simp only[vl];omega) only[AA,hsub];refine Au (fun k (_:Unit)=>∀j:Nat,j<k→AE l j≠AE l i) (fun k _=>[LI l,.u,.u,LI (C8 l i),.n (Av l i).length,.u,.n (AE l i),.n (Av l i).length,.u,.u,.u,LI l,.n l.length,.n i,.u,LI (sub l 0 (i:Int)),.n i,.n k,.u,.u,.u]) i () (by simp) rfl (fun k _ hk hP=>?_) (fun _ hP=>?_)
  ·have e3:=hat k hk;by_cases he:AE l i=AE l k
   ·have e4:=AOY (l:=l) hk;rw[←he,←hB]at e4;have hmm:AE l i∈Av l i:=Oc.2 ⟨k,hk,he.symm⟩;have:=Ha.2 hmm;have n23:¬((2:Nat)=3):=by omega
    rw[if_neg (by omega)];simp(disch:=first|omega|simp only[vl];omega) only[AA,hsub,e3,e4,if_neg n23]
   ·simp(disch:=first|omega|simp only[vl];omega) only[AA,hsub,e3];exact⟨(),CB hP fun q=>he q.symm⟩
  ·have hmm:¬AE l i∈Av l i:=fun q=>by
    obtain⟨k,h1,h2⟩:=Oc.1 q
    exact hP k h1 h2
   have:¬Ci (Av l i) (AE l i)<(Av l i).length:=fun q=>hmm (Ha.1 q)
   have hBe:B=(Av l i).length:=by omega
   rw[if_pos hBe]
   simp(disch:=first|omega|simp only[vl];omega) only[AA]
   rw[hBe]
 ·simp(disch:=first|omega|simp only[vl];omega) only[AA]
theorem ABO{l:List Int}:∀i,(Av l i).Nodup
 |0=>by simp[Av]
 |i+1=>by
  have ih:=ABO (l:=l) i
  have e:Av l (i+1)=if AE l i∈Av l i then Av l i else Av l i++[AE l i]:=rfl
  rw[e]
  split
  ·exact ih
  ·rename_i h
   rw[List.nodup_append]
   refine⟨ih,by simp,fun a ha b hb=>?_⟩
   rw[List.mem_singleton]at hb
   subst hb
   intro q
   exact h (q▸ha)
theorem ASH{a:List Int}(h:a.Nodup){j k:Nat}(hj:j<a.length)(hk:k<a.length)(e:AE a j=AE a k):j=k:=by
 have e:a[j]=a[k]:=by simpa[AE,hj,hk]using e
 have hp:=List.pairwise_iff_getElem.1 h;rcases Nat.lt_trichotomy j k with q|q|q
 ·exact absurd e (hp j k hj hk q)
 ·exact q
 ·exact absurd e.symm (hp k j hk hj q)
theorem Ys[HA K]{l:List Int}(h:l.length≤1000000):K 323 [LI l] [LI (C8 l l.length)]:=by
 refine qb APJ rfl ?_;simp only[APJ];simp(disch:=first|omega|simp only[vl];omega) only[AA];rw[Lq];refine AL (fun _=>True) (fun i=>[LI l,.u,LI (C8 l i),LI (Av l i),.n i,.u,.u,.u,.u,.u,.u]) l.length trivial rfl (fun i hi _=>?_) (fun _=>?_)
 ·have hr:=Mo (l:=l) i;have hn:=Ui (l:=l) i;obtain⟨B,hB⟩:∃B:Nat,B=Ci (Av l i) (AE l i):=⟨_,rfl⟩;have hBl:B≤(Av l i).length:=by rw[hB];exact VF
  have e1:C8 l (i+1)=C8 l i++[(B:Int)]:=by simp only[C8,hB]
  rw[e1];simp(disch:=first|omega|simp only[vl];omega) only[AA];refine Au (fun k (a:Int)=>(a=-1∧∀j:Nat,j<k→AE (Av l i) j≠AE l i)∨(a=B∧B<k)) (fun k a=>[LI l,.u,LI (C8 l i),LI (Av l i),.n i,.n a,.n k,.u,.u,.u,.u]) (Av l i).length (-1) (.inl ⟨rfl,by simp⟩) rfl (fun k a hk hP=>?_) (fun a hP=>?_)
  ·by_cases he:AE (Av l i) k=AE l i
   ·have hmm:AE l i∈Av l i:=by rw[←he];simp[AE,hk]
    have hBk:B=k:=by have hb:=Ha.2 hmm;have ha:=Td hmm;rw[←hB]at hb ha;exact ASH (ABO i) hb hk (by rw[ha,he])
    simp(disch:=first|omega|simp only[vl];omega) only[AA,he];exact⟨_,.inr ⟨by rw[hBk],by omega⟩,rfl⟩
   ·simp(disch:=first|omega|simp only[vl];omega) only[AA];refine⟨a,?_,rfl⟩;rcases hP with⟨h1,h2⟩|⟨h1,h2⟩
    ·exact .inl ⟨h1,CB h2 he⟩
    ·exact .inr ⟨h1,by omega⟩
  ·rcases hP with⟨rfl,h2⟩|⟨rfl,h2⟩
   ·have hmm:AE l i∉Av l i:=fun q=>by
     have hb:=Ha.2 q
     exact h2 _ hb (Td q)
    have hnb:¬Ci (Av l i) (AE l i)<(Av l i).length:=fun q=>hmm (Ha.1 q)
    have hBe:B=(Av l i).length:=by omega
    have e2:Av l (i+1)=Av l i++[AE l i]:=by simp only[Av];rw[if_neg hmm]
    rw[e2,hBe]
    simp(disch:=first|omega|simp only[vl];omega) only[AA]
   ·have hmm:AE l i∈Av l i:=Ha.1 (by rw[←hB];exact h2);have e2:Av l (i+1)=Av l i:=by simp only[Av];rw[if_pos hmm]
    rw[e2];simp(disch:=first|omega|simp only[vl];omega) only[AA]
 ·simp(disch:=first|omega|simp only[vl];omega) only[AA]
def Cn(w:List Nat)(g:Nat→Int):Nat→List Int
 |0=>[]
 |i+1=>if AK w i=117 then Cn w g i++[g i]else Cn w g i
def Bw(w:List Nat)(i:Nat):Nat:=AB (w.take i) 117
theorem GQ{w:List Nat}{i:Nat}(h:i<w.length):Bw w (i+1)=Bw w i+(if AK w i=117 then 1 else 0):=by
 have e:w.take (i+1)=w.take i++[AK w i]:=by rw[CU h];simp[AK,h]
 simp only[Bw,e,NP];congr 1;by_cases q:AK w i=117
 ·rw[if_pos q,q];simp[AB]
 ·rw[if_neg q];simp only[AB,List.count_cons,List.count_nil];rw[if_neg];simpa using q
theorem OT{w:List Nat}{g:Nat→Int}:∀{i:Nat},i≤w.length→(Cn w g i).length=Bw w i
 |0,_=>by simp[Cn,Bw,AB]
 |i+1,h=>by
  have ih:=OT (w:=w) (g:=g) (i:=i) (by omega)
  rw[GQ (by omega)]
  unfold Cn
  split
  ·simp[ih]
  ·simp[ih]
theorem YI{w:List Nat}{g g':Nat→Int}:∀{i:Nat},(∀a,a<i→AK w a=117→g a=g' a+1)→Cn w g i=(Cn w g' i).map (·+1)
 |0,_=>rfl
 |i+1,h=>by
  have ih:=YI (w:=w) (i:=i) fun a ha=>h a (by omega)
  simp only[Cn]
  split
  ·rename_i hu
   rw[ih,h i (by omega) hu];simp
  ·exact ih
theorem AJT{x:Int}:∀{l:List Int},Ci (l.map (·+1)) (x+1)=Ci l x
 |[]=>rfl
 |y::t=>by
  simp only[List.map_cons,Ci]
  by_cases h:y=x
  ·rw[if_pos h,if_pos (by omega)]
  ·rw[if_neg h,if_neg (by omega),AJT]
theorem ACI{l:List Int}:∀{i:Nat},i≤l.length→Av (l.map (·+1)) i=(Av l i).map (·+1)
 |0,_=>rfl
 |i+1,h=>by
  have ih:=ACI (l:=l) (i:=i) (by omega)
  have e:AE (l.map (·+1)) i=AE l i+1:=by simp[AE,show i<l.length by omega]
  simp only[Av,ih,e]
  by_cases hm:AE l i∈Av l i
  ·rw[if_pos hm,if_pos (List.mem_map.2 ⟨_,hm,rfl⟩)]
  ·rw[if_neg hm,if_neg]
   ·simp
   ·intro q
    obtain⟨y,hy,e2⟩:=List.mem_map.1 q
    have:y=AE l i:=by omega
    exact hm (this▸hy)
theorem AKS{l:List Int}:∀{i:Nat},i≤l.length→C8 (l.map (·+1)) i=C8 l i
 |0,_=>rfl
 |i+1,h=>by
  have ih:=AKS (l:=l) (i:=i) (by omega)
  have e:AE (l.map (·+1)) i=AE l i+1:=by simp[AE,show i<l.length by omega]
  simp only[C8,ih,e,ACI (show i≤l.length by omega),AJT]
theorem H9{w:List Nat}{a:Nat}:∀{b:Nat},a≤b→b≤w.length→Bw w a≤Bw w b
 |0,h,_=>by obtain rfl:a=0:=by omega
            exact Nat.le_refl _
 |b+1,h,hb=>by
  rcases Bh a (b+1)with q|q
  ·have:=H9 (w:=w) (a:=a) (b:=b) (by omega) (by omega)
   rw[GQ (by omega)];omega
  ·obtain rfl:a=b+1:=by omega
   exact Nat.le_refl _
theorem Jv{w:List Nat}(hd:AM w=true):2*Bw w w.length=w.length:=by
 have hD:=Ah hd;have hs:steps w=true:=by rw[ACB];exact P0 hd
 simp only[steps,Aj]at hs;have he:=hD.he;simp only[Hh,List.take_length]at he;simp only[Bw,List.take_length];omega
def DR(w:List Nat)(k:Nat):Nat:=Co 100 117 (fun _=>1) w k
def EG(w:List Nat)(k:Nat):Nat:=Co 117 100 (fun _=>1) w k
theorem Uu{a b:Nat}{w:List Nat}:∀{i:Nat},Co a b (fun _=>1) w i≤i
 |0=>by simp[Co,CG]
 |i+1=>by
  have:=Uu (a:=a) (b:=b) (w:=w) (i:=i)
  simp only[Co,CG]at this⊢
  split<;>omega
theorem AMY{w:List Nat}(hd:AM w=true):∀{k:Nat},k<w.length→EG w k=DR w k+(if AK w k=100 then 1 else 0)
 |0,h=>by
  have hD:=Ah hd
  have h1:=hD.h0 1 (by omega)
  have hu:AK w 0=117:=by
   rcases hD.ud 0 h with q|q
   ·exact q
   ·have:=E7 h q;rw[E0]at this;simp at this;omega
  have e:AK w ((0:Nat):Int)=117:=hu
  rw[if_neg (by omega)]
  rfl
 |k+1,h=>by
  have hD:=Ah hd
  have ih:=AMY hd (k:=k) (by omega)
  have e1:EG w (k+1)=EG w k+(if AK w k=117∧AK w ((k:Int)+1)=100 then 1 else 0):=rfl
  have e2:DR w (k+1)=DR w k+(if AK w k=100∧AK w ((k:Int)+1)=117 then 1 else 0):=rfl
  have e3:((k+1:Nat):Int)=(k:Int)+1:=by omega
  have hk:=hD.ud k (by omega)
  have hk1:=hD.ud (k+1) h
  rw[e3]at hk1⊢
  rw[e1,e2,ih]
  rcases hk with hk|hk<;>rcases hk1 with hk1|hk1<;>simp[hk,hk1]
theorem AVL{n a:Nat}:AE (rep (n:Int) 0) a=0:=by simp only[AE,rep,Al,List.getElem?_replicate];split<;>rfl
theorem AbZ[HA K]{w:List Nat}(hd:AM w=true):∃rs,(∃m,PP w m∧rs=[LI (C8 (Cn w (fun a=>(EG w (AE m a).toNat:Int)) w.length) (Bw w w.length)),.b true])∧K 503 [.s w] rs:=by
 have hD:=Ah hd;have hl:=hD.l;have hu8:=Jv hd;obtain⟨_,⟨m,rfl,hm⟩,k1⟩:=O5 (K:=K) hd;have hml:=hm.1;refine qx Wp rfl ?_;simp only[Wp];simp(disch:=first|omega|simp only[vl];omega) only[AA];repeat(first|(refine AD (Bv (K:=K) (w:=w) (by omega)) rfl ?_;try simp(disch:=first|omega|simp only[vl];omega) only[AA,hd]))
 refine AD (k1) rfl ?_;simp(disch:=first|omega|simp only[vl];omega) only[AA];refine Au (fun i (x:List Int)=>x.length=w.length∧∀a:Nat,a<w.length→a<i+1→AE x a=EG w a) (fun i x=>[.s w,.u,.u,LI m,LI x,.n (EG w i),.n ((i:Int)+1),.u,.u,.u,.u,.u,.u,.u]) (w.length-1) (rep w.length 0) ⟨by simp[rep],fun a h1 h2=>by
  obtain rfl:a=0:=by omega
  rw[AVL];rfl⟩ rfl (fun i x hi hP=>?_) (fun x hP=>?_)
 ·obtain⟨g1,g2⟩:=hP;have hb:=Uu (a:=117) (b:=100) (w:=w) (i:=i);have e2:EG w (i+1)=EG w i+(if AK w i=117∧AK w ((i:Int)+1)=100 then 1 else 0):=rfl;have hb':EG w i≤i:=hb;have hset:∀z:Int,z=EG w (i+1)→(BM x ((i:Int)+1) z).length=w.length∧∀a:Nat,a<w.length→a<i+1+1→AE (BM x ((i:Int)+1) z) a=EG w a:=by
   intro z hz;refine⟨by rw[Cv,g1],fun a h1 h2=>?_⟩;have e3:((i:Int)+1)=((i+1:Nat):Int):=by omega
   rw[e3,GX (by omega)];by_cases q:i+1=a
   ·subst q;rw[if_pos rfl,hz]
   ·rw[if_neg q];exact g2 a h1 (by omega)
  by_cases h1:AK w ((i:Int)+1)=100
  ·by_cases h2:AK w i=117
   ·rw[if_pos ⟨h2,h1⟩]at e2;simp(disch:=first|omega|simp only[vl];omega) only[AA,h1,h2,CA];refine⟨_,hset ((EG w i:Int)+1) (by rw[e2];simp),?_⟩;rw[e2];simp
   ·rw[if_neg fun q=>h2 q.1]at e2;simp(disch:=first|omega|simp only[vl];omega) only[AA,h1,CA];refine⟨_,hset (EG w i:Int) (by rw[e2];simp),?_⟩;rw[e2];simp
  ·rw[if_neg fun q=>h1 q.2]at e2;simp(disch:=first|omega|simp only[vl];omega) only[AA];refine⟨_,hset (EG w i:Int) (by rw[e2];simp),?_⟩;rw[e2];simp
 ·obtain⟨g1,g2⟩:=hP;simp(disch:=first|omega|simp only[vl];omega) only[AA];rw[Lq];obtain⟨G,hG⟩:∃G:Nat→Int,G=fun(a:Nat)=>(EG w (AE m (a:Int)).toNat:Int):=⟨_,rfl⟩;refine AL (fun _=>True) (fun i=>[.s w,.u,.u,LI m,LI x,.u,.u,LI (Cn w G i),.n i,.u,.u,.u,.u,.u]) w.length trivial rfl (fun i hi _=>?_) (fun _=>?_)
  ·have hll:=OT (w:=w) (g:=G) (i:=i) (by omega);have hmono:=H9 (w:=w) (a:=i) (b:=w.length) (by omega) (by omega);obtain⟨b,hb,hq⟩:=hm.2 i hi;have hbl:b<w.length:=by rcases hq with q|q<;>have:=q.1<;>have:=q.2.1<;>omega
   have hxb:=g2 b hbl (by omega);have hGi:G i=EG w b:=by rw[hG];simp only[hb,BH]
   by_cases hu:AK w i=117
   ·have e:Cn w G (i+1)=Cn w G i++[(EG w b:Int)]:=by simp only[Cn];rw[if_pos hu,hGi]
    rw[e];simp(disch:=first|omega|simp only[vl];omega) only[AA,hu,hb,hxb]
   ·have e:Cn w G (i+1)=Cn w G i:=by simp only[Cn];rw[if_neg hu]
    rw[e];simp(disch:=first|omega|simp only[vl];omega) only[AA]
  ·have hll:=OT (w:=w) (g:=G) (i:=w.length) (by omega);have kr:=AJ4 (K:=K) (l:=Cn w G w.length) (by omega);rw[hll]at kr;simp(disch:=first|omega|simp only[vl];omega) only[AA];refine AD (kr) rfl ?_;simp(disch:=first|omega|simp only[vl];omega) only[AA];exact⟨m,hm,by rw[hG]⟩
def PB(w:List Nat)(i:Nat)(bl:List Int)(st:List Nat):Prop:=
 SO w st i∧(∀j∈st,AK w j=117)∧bl.length=w.length/2∧∀a k:Nat,a<i→AK w a=117→a∉st→PR w a k→AE bl (Bw w a)=DR w k
theorem AQ4{w:List Nat}{a b:Nat}(ha:a<w.length)(hb:b<w.length)(ua:AK w a=117)(ub:AK w b=117)(h:Bw w a=Bw w b):a=b:=by
 rcases Nat.lt_trichotomy a b with q|q|q
 ·have h1:=GQ ha;rw[if_pos ua]at h1;have:=H9 (w:=w) (a:=a+1) (b:=b) (by omega) (by omega);omega
 ·exact q
 ·have h1:=GQ hb;rw[if_pos ub]at h1;have:=H9 (w:=w) (a:=b+1) (b:=a) (by omega) (by omega);omega
theorem ATP{w:List Nat}{i:Nat}{bl:List Int}{st:List Nat}(h:PB w i bl st)(hi:i<w.length)(hu:AK w i=117):PB w (i+1) bl (i::st):=by
 obtain⟨h1,h2,h3,h4⟩:=h;refine⟨AIW h1 hi hu,fun j hj=>?_,h3,fun a k ha hau hn hq=>?_⟩
 ·rcases Aa.1 hj with rfl|q
  ·exact hu
  ·exact h2 j q
 ·have e:a≠i:=fun e=>hn (by rw[e];exact List.mem_cons_self ..);exact h4 a k (by omega) hau (fun q=>hn (BK _ q)) hq
theorem AQ7{w:List Nat}{i j:Nat}{bl:List Int}{st:List Nat}(hd:AM w=true)(h:PB w i bl (j::st))(hi:i<w.length)(hu:AK w i=100):
  Bw w j<w.length/2∧PB w (i+1) (BM bl (Bw w j) (DR w i)) st:=by
 obtain⟨h1,h2,h3,h4⟩:=h;obtain⟨q1,q2⟩:=AMV h1 hi hu;have hj:=q1.1;have uj:=h2 j (List.mem_cons_self ..);have e1:=GQ (w:=w) (i:=j) (by omega);rw[if_pos uj]at e1;have e2:=H9 (w:=w) (a:=j+1) (b:=w.length) (by omega) (by omega);have e3:=Jv hd;refine⟨by omega,q2,fun a ha=>h2 a (BK _ ha),by rw[Cv,h3],fun a k ha hau hn hq=>?_⟩;rw[GX (by omega)];by_cases e:Bw w j=Bw w a
 ·have ea:j=a:=by
   refine AQ4 (by omega) ?_ uj hau e
   have:=hq.1;have:=hq.2.1;omega
  subst ea
  rw[if_pos rfl,Ry q1 hq]
 ·rw[if_neg e];have hai:a≠i:=fun q=>by rw[q,hu]at hau;omega
  refine h4 a k (by omega) hau (fun q=>?_) hq;rcases Aa.1 q with q|q
  ·exact e (by rw[q])
  ·exact hn q
def ES(w:List Nat)(st:List Nat):List Int:=st.map fun(j:Nat)=>(Bw w j:Int)
theorem Za{w:List Nat}{j:Nat}{t:List Nat}:(ES w (j::t)).reverse=(ES w t).reverse++[(Bw w j:Int)]:=by simp[ES]
theorem AA8{w:List Nat}{bl:List Int}{m:List Int}(hd:AM w=true)(hm:PP w m)(h:PB w w.length bl []):∀{i:Nat},i≤w.length→bl.take (Bw w i)=Cn w (fun a=>(DR w (AE m a).toNat:Int)) i
 |0,_=>by simp[Bw,AB,Cn]
 |i+1,hi=>by
  have ih:=AA8 hd hm h (i:=i) (by omega)
  obtain⟨h1,h2,h3,h4⟩:=h
  have e1:=GQ (w:=w) (i:=i) (by omega)
  have e2:=H9 (w:=w) (a:=i+1) (b:=w.length) (by omega) (by omega)
  have e3:=Jv hd
  by_cases hu:AK w i=117
  ·rw[if_pos hu]at e1
   simp only[Cn]
   rw[if_pos hu,e1,SB (by omega),ih]
   obtain⟨b,hb,hq⟩:=hm.2 i (by omega)
   have hq:PR w i b:=by
    rcases hq with q|q
    ·exact q
    ·have hd2:=Ah hd
     have:=q.2.2.1
     have:=FM (i:=i) (by omega) hu
     have:=q.2.2.2 i q.1 (Nat.le_refl _)
     omega
   rw[h4 i b (by omega) hu (by simp) hq,hb]
   simp
  ·rw[if_neg hu]at e1
   simp only[Cn]
   rw[if_neg hu,e1,Nat.add_zero,ih]
theorem AC0[HA K]{w:List Nat}{m:List Int}(hd:AM w=true)(hm:PP w m):K 301 [.s w] [LI (C8 (Cn w (fun a=>(DR w (AE m a).toNat:Int)) w.length) (Bw w w.length)),.b true]:=by
 have hD:=Ah hd;have hl:=hD.l;have hu8:=Jv hd;refine qb APQ rfl ?_;simp only[APQ];simp(disch:=first|omega|simp only[vl];omega) only[AA];repeat(first|(refine AD (Bt (K:=K) (w:=w) (by omega)) rfl ?_;try simp(disch:=first|omega|simp only[vl];omega) only[AA,hd]))
 rw[Lq];have eh:((w.length:Int)/2)=((w.length/2:Nat):Int):=by omega
 simp(disch:=first|omega|simp only[vl];omega) only[AA,eh];refine Au (fun i (x:List Int×List Nat×Int)=>PB w i x.1 x.2.1∧(i<w.length→x.2.2=DR w i)) (fun i x=>[.s w,.u,.u,LI x.1,LI (ES w x.2.1).reverse,.n (Bw w i),.n x.2.2,.n i,.u,.u,.u,.u]) w.length (rep (w.length/2:Nat) 0,[],0) ⟨⟨by simp[SO,E0],by simp,by simp[rep];omega,by omega⟩,fun _=>by simp[DR,Co,CG]⟩ (by simp[ES,Bw,AB]) (fun i x hi hP=>?_) (fun x hP=>?_)
 ·obtain⟨bl,st,nx⟩:=x;obtain⟨hP,hnx⟩:=hP;simp only at hP hnx;have hnx:=hnx hi;subst hnx;have hs:=KA hP.1;have hb:=F3 (w:=w) (i:=i);have h1:=hD.h0 (i+1) (by omega);have hui:=GQ hi;have hul:=H9 (w:=w) (a:=i) (b:=w.length) (by omega) (by omega);have hdb:=Uu (a:=100) (b:=117) (w:=w) (i:=i);have hdb:DR w i≤i:=hdb;have hxl:((ES w st).reverse).length=st.length:=by simp[ES]
  have hxl2:(ES w st).length=st.length:=by simp[ES]
  have e2:DR w (i+1)=DR w i+(if AK w i=100∧AK w ((i:Int)+1)=117 then 1 else 0):=rfl;rcases hD.ud i hi with hu|hu
  ·rw[if_pos hu]at hui;rw[if_neg (by omega)]at e2;rw[hui];simp(disch:=first|omega|simp only[vl];omega) only[AA,hu];exact⟨(bl,i::st,(DR w i:Int)),⟨ATP hP hi hu,fun _=>by rw[e2];simp⟩,by simp only[Za]⟩
  ·have eh2:=E7 hi hu;rw[if_neg (by omega)]at hui
   cases st with
   |nil=>simp at hs;omega
   |cons j t=>
    obtain⟨hj,hP'⟩:=AQ7 hd hP hi hu
    have hbl:=hP.2.2.1
    have hl2:((ES w t).reverse).length=t.length:=by simp[ES]
    have hl4:(ES w t).length=t.length:=by simp[ES]
    have f1:AE ((ES w t).reverse++[(Bw w j:Int)]) t.length=Bw w j:=by rw[←hl2];exact Mn
    have f2:sub ((ES w t).reverse++[(Bw w j:Int)]) 0 t.length=(ES w t).reverse:=by rw[←hl2];exact Mg
    have f3:((((ES w t).reverse++[(Bw w j:Int)]).length:Nat):Int)=(t.length:Int)+1:=by simp[ES]
    simp only[AY]at hs
    simp only[Za]
    rw[hui]
    by_cases hl1:(i:Int)+1=w.length
    ·have hP'':=hP'
     simp(disch:=first|omega|simp only[vl];omega) only[AA,hu,f3,f1,f2,CA]
     exact⟨(BM bl (Bw w j) (DR w i),t,(DR w i:Int)+1),⟨hP',fun q=>by omega⟩,by simp⟩
    ·by_cases h17:AK w ((i:Int)+1)=117
     ·rw[if_pos ⟨hu,h17⟩]at e2
      simp(disch:=first|omega|simp only[vl];omega) only[AA,hu,f3,f1,f2,CA,h17]
      exact⟨(BM bl (Bw w j) (DR w i),t,(DR w i:Int)+1),⟨hP',fun _=>by rw[e2];simp⟩,by simp⟩
     ·rw[if_neg fun q=>h17 q.2]at e2
      simp(disch:=first|omega|simp only[vl];omega) only[AA,hu,f3,f1,f2,CA]
      exact⟨(BM bl (Bw w j) (DR w i),t,(DR w i:Int)),⟨hP',fun _=>by rw[e2];simp⟩,by simp⟩
 ·obtain⟨bl,st,nx⟩:=x;obtain⟨hP,_⟩:=hP;simp only at hP;have hst:st=[]:=by have:=KA hP.1;rw[hD.he]at this;exact Dt (by omega)
  subst hst;have ht:=AA8 hd hm hP (i:=w.length) (Nat.le_refl _);have hbl:=hP.2.2.1;rw[List.take_of_length_le (by omega)]at ht;have kr:=Ys (K:=K) (l:=bl) (by omega);have e:bl.length=Bw w w.length:=by omega
  rw[e]at kr;rw[ht]at kr;simp(disch:=first|omega|simp only[vl];omega) only[AA];rw[ht];refine AD (kr) rfl ?_;simp(disch:=first|omega|simp only[vl];omega) only[AA]
end Go.Cat
