/-
 Series: products.
-/
import Derived.Test.YthoilpmggmenbaaGreatPfIn
import Derived.Test.YthoilpmggmenbaaGreatQd0LawReports
import Derived.Test.YthoilpmggmenbaaGreatQd1LawReports
import Derived.Test.YthoilpmggmenbaaGreatQd2LawReports
import Derived.Test.YthoilpmggmenbaaGreatQd3LawReports
import Derived.Test.YthoilpmggmenbaaGreatPfPlane
import Derived.Test.YthoilpmggmenbaaGreatPfRankA
import Derived.Test.YthoilpmggmenbaaGreatPfSch
import Derived.Test.YthoilpmggmenbaaGreatPfFrzS
set_option linter.unusedSimpArgs false
set_option linter.unusedVariables false
namespace Go.Cat
variable{K:Nat→List D→List D→Prop}
end Go.Cat
namespace Go.Cat
variable{K:Nat→List D→List D→Prop}
theorem AQ2[HA K]{a b:List Int}(h:a.length≤1099511627776):K 72 [LI a,LI b] [.b (decide (a=b))]:=by
 refine qb PF rfl ?_;simp only[PF];simp(disch:=first|omega|simp only[vl];omega) only[AA];by_cases hl:a.length=b.length
 ·simp(disch:=first|omega|simp only[vl];omega) only[AA];refine AL (fun i=>∀j:Nat,j<i→AE a j=AE b j) (fun i=>[LI a,LI b,.u,.u,.u,.n a.length,.n i,.u,.u]) a.length (by simp) rfl (fun i hi hP=>?_) (fun hP=>?_)
  ·by_cases he:AE a i=AE b i
   ·simp(disch:=first|omega|simp only[vl];omega) only[AA];exact CB hP he
   ·simp(disch:=first|omega|simp only[vl];omega) only[AA];have:a≠b:=by rintro rfl;exact he rfl
    simp[this]
  ·simp(disch:=first|omega|simp only[vl];omega) only[AA];have:a=b:=Fw hl hP;simp[this]
 ·have:a≠b:=by rintro rfl;exact hl rfl
  simp(disch:=first|omega|simp only[vl];omega) only[AA];simp[this]
end Go.Cat
namespace Go.Cat
variable{K:Nat→List D→List D→Prop}
class IJ(K:Nat→List D→List D→Prop):Prop where
 del:∀(l:List Int)(i:Nat),i<l.length→l.length≤1000→K 212 [LI l,.n i,.n ((i:Int)+1)] [LI (Gc l i)]
theorem AHK{l:List Int}{i:Nat}(h:∀j:Nat,j<i→AE l j≠1)(hi:i≤l.length):i≤B7 l:=by
 rcases Bh (B7 l) i with q|q
 ·exact absurd (RZ (q:=l) (by omega)) (h _ q)
 ·exact q
theorem AdF{l:List Int}{i:Nat}(h:∀j:Nat,j<i→AE l j≠1)(hi:i<l.length)(h1:AE l i=1):B7 l=i:=by
 have:=AHK h (by omega);have h2:B7 l≤i:=by
  refine Nat.le_of_not_lt fun q=>?_;have:=List.not_of_lt_findIdx q;have e:l[i]'(by omega)=AE l i:=by simp[AE,hi]
  rw[e,h1]at this
  cases this
 omega
theorem AcI[HA K]{l:List Int}(h:l.length≤1000000):K 179 [LI l,.n 1] [.n (if B7 l<l.length then(B7 l:Int)else -1)]:=by
 refine qb ABS rfl ?_;simp only[ABS];simp(disch:=omega) only[AA];refine AL (fun i=>∀j:Nat,j<i→AE l j≠1) (fun i=>[LI l,.n 1,.u,.u,.n l.length,.n i,.u,.u]) l.length (by omega) rfl (fun i hi hP=>?_) (fun hP=>?_)
 ·by_cases hx:AE l i=1
  ·have e:=AdF hP hi hx;simp(disch:=omega) only[AA];rw[e,if_pos hi]
  ·simp(disch:=omega) only[AA];exact CB hP hx
 ·have e:=AHK hP (Nat.le_refl _);simp(disch:=omega) only[AA];rw[if_neg (by omega)]
def dgQ(n:Nat)(c:List Int)(j:Nat):List Int:=[min (AE c (DF n j:Nat)) (AE c (EP n j:Nat)),max (AE c (DF n j:Nat)) (AE c (EP n j:Nat))]
def GW:Nat→List Int→List Int→List (List Int)→Option (List (List Int)×List Int)
 |0,l,_,o=>some (o,l)
 |f+1,l,c,o=>if B7 l<l.length then GW f (Fp l (B7 l)) (Gc c (B7 l)) (o++[dgQ l.length c (B7 l)])else none
def IN(n:Nat):List Int:=(List.range n).map fun i:Nat=>(i:Int)
def E3(q:List Int):Option (List (List Int)×List Int):=if Cu q=true then GW (q.length-3) q (IN q.length) []else none
def HD(x:Option (List (List Int)×List Int)):Bool:=match x with
 |some x=>decide (x.2=[1,1,1])
 |none=>false
def ctL(x:Option (List (List Int)×List Int)):List (List Int):=match x with
 |some x=>x.1
 |none=>[]
theorem AEC:∀f (l c:List Int) (o:List (List Int)),HD (GW f l c o)=G3 f l
 |0,l,c,o=>by
  simp only[GW,HD,G3]
  by_cases h:l=[1,1,1]<;>simp[h]
 |f+1,l,c,o=>by
  simp only[GW,G3]
  by_cases h:B7 l<l.length
  ·rw[if_pos h,AEC f,decide_eq_true h,Bool.true_and]
  ·rw[if_neg h,decide_eq_false h];rfl
theorem ASE{α:Type}{l:List α}{j:Nat}{x:α}(h:x∈Gc l j):x∈l:=by
 rcases Af.1 h with h|h
 ·exact List.mem_of_mem_take h
 ·exact List.mem_of_mem_drop h
theorem AcH{l:List Int}{i x y:Int}(h:y∈BM l i x):y=x∨y∈l:=by
 rcases List.mem_or_eq_of_mem_set h with h|h
 ·exact .inr h
 ·exact .inl h
theorem ATR{l:List Int}{j:Nat}{a b:Int}(hl:3≤l.length)(hj:j<l.length)(h:∀x∈l,a+1≤x∧x≤b):∀x∈Fp l j,a≤x∧x≤b:=by
 intro x hx;obtain⟨k,hk,e⟩:=List.mem_iff_getElem.1 (ASE hx);rw[J0]at hk;have e2:AE (JF l j) (k:Int)=x:=by rw[←e];simp[AE,J0,hk]
 rw[Pk hl hj]at e2;have hm:=h (AE l k) (by simp[AE,hk]);have hne:¬(k=DF l.length j∧k=EP l.length j):=by
  rintro⟨q1,q2⟩;rw[q1]at q2;have:=Pk (q:=l) (j:=j) (k:=DF l.length j) hl hj;revert q2;unfold DF EP;generalize l.length=n at*;rcases Bh (j+1) n with h|h
  ·rw[Nat.mod_eq_of_lt h]
   cases j with
   |zero=>rw[Nat.mod_eq_of_lt (by omega)];omega
   |succ j=>rw[show j+1+n-1=j+n by omega,Nat.add_mod_right,Nat.mod_eq_of_lt (by omega)];omega
  ·obtain rfl:n=j+1:=by omega
   rw[Nat.mod_self,show j+(j+1)-1=j-1+(j+1) by omega,Nat.add_mod_right,Nat.mod_eq_of_lt (by omega)];omega
 split at e2<;>split at e2<;>omega
theorem AcR[HA K][IJ K]{q:List Int}(h:q.length≤1048576):K 204 [LI q] [LL (ctL (E3 q)),.b (HD (E3 q))]:=by
 refine qb ABL rfl ?_;simp only[ABL];simp(disch:=first|omega|simp only[vl];omega) only[AA];refine AD (CK (K:=K)) rfl ?_
 cases hn:AV 3 10 q.length
 ·have e:E3 q=none:=by rw[E3,if_neg (by simp[Cu,hn])]
  simp(disch:=first|omega|simp only[vl];omega) only[AA];simp[e,ctL,HD,LL]
 have hn2:=A8.1 hn;simp(disch:=first|omega|simp only[vl];omega) only[AA];refine AL (fun i=>∀j:Nat,j<i→AV 1 100 (AE q j)=true) (fun i=>[LI q,.u,.u,.u,.u,.u,.u,.u,.u,.u,.u,.u,.u,LI q,.n q.length,.n i,.u,.u,.u,.u,.u,.u,.u]) q.length (by omega) rfl (fun i hi hP=>?_) (fun hP=>?_)
 ·cases hx:AV 1 100 (AE q i)
  ·have e:E3 q=none:=by rw[E3,if_neg (by simp[Cu,Jf hi hx])]
   simp(disch:=first|omega|simp only[vl];omega) only[AA];repeat(first|(refine AD (CK (K:=K)) rfl ?_;try simp(disch:=first|omega|simp only[vl];omega) only[AA,hx]))
   simp[e,ctL,HD,LL]
  ·simp(disch:=first|omega|simp only[vl];omega) only[AA];repeat(first|(refine AD (CK (K:=K)) rfl ?_;try simp(disch:=first|omega|simp only[vl];omega) only[AA,hx]))
   exact CB hP hx
 ·have hz:Cu q=true:=by simp[Cu,hn,I8 hP]
  obtain⟨z1,z2,z3⟩:=GD.1 hz;have eR:E3 q=GW (q.length-3) q (IN q.length) []:=by rw[E3,if_pos hz]
  simp(disch:=first|omega|simp only[vl];omega) only[AA];refine AD (Rw (K:=K) (p:=q) (by omega)) rfl ?_;simp(disch:=first|omega|simp only[vl];omega) only[AA];refine Au (fun i (r:List Int)=>r=IN i) (fun i r=>[.u,.u,.u,.u,LI q,LI r,.u,.u,.u,.u,.u,.u,.u,.u,.u,.u,.u,.u,.n q.length,.n i,.u,.u,.u]) q.length [] rfl rfl (fun i r hi hP=>?_) (fun r hP=>?_)
  ·have hr:r.length=i:=by rw[hP];simp[IN]
   simp(disch:=first|omega|simp only[vl];omega) only[AA];refine⟨_,?_,rfl⟩;rw[hP,IN,IN,VP]
  ·subst hP;simp(disch:=first|omega|simp only[vl];omega) only[AA]
   refine Be (fun(x:Nat×List Int×List Int×List (List Int))=>x.2.1.length=x.1+3∧x.2.2.1.length=x.1+3∧x.1≤7∧(∀y∈x.2.1,(x.1:Int)-10≤y∧y≤100)∧x.2.2.2.length+x.1≤7∧GW x.1 x.2.1 x.2.2.1 x.2.2.2=E3 q)
    (fun x=>[.u,.u,.u,.u,LI x.2.1,LI x.2.2.1,.u,LL x.2.2.2,.u,.u,.u,.u,.u,.u,.u,.u,.u,.u,.u,.u,.u,.u,.u]) (fun x=>x.1) (q.length-3,q,IN q.length,[]) ⟨by simp only;omega,by simp[IN];omega,by simp only;omega,fun y hy=>by have:=z1 y hy;simp only;omega,by simp only[Ap];omega,eR.symm⟩ rfl ?_
   rintro⟨f,l,c,o⟩ ⟨g1,g2,g3,g4,g5,g6⟩;simp only at g1 g2 g3 g4 g5 g6⊢
   cases f with
   |zero=>
    simp only[GW]at g6
    simp(disch:=first|omega|simp only[vl];omega) only[AA]
    refine AD (AQ2 (K:=K) (a:=l) (b:=[1,1,1]) (by omega)) rfl ?_
    simp(disch:=first|omega|simp only[vl];omega) only[AA]
    rw[←g6]
    rfl
   |succ f=>
    simp(disch:=first|omega|simp only[vl];omega) only[AA]
    refine AD (AcI (K:=K) (l:=l) (by omega)) rfl ?_
    by_cases hj:B7 l<l.length
    ·rw[if_pos hj]
     have e1:((B7 l:Int)+l.length-1)%(l.length:Int)=(DF l.length (B7 l):Nat):=by
      rw[show(B7 l:Int)+l.length-1=((B7 l+l.length-1:Nat):Int) by omega];simp[DF,Int.natCast_emod]
     have e2:((B7 l:Int)+1)%(l.length:Int)=(EP l.length (B7 l):Nat):=by simp[EP,Int.natCast_emod]
     have p1:DF l.length (B7 l)<l.length:=Nat.mod_lt _ (by omega)
     have p2:EP l.length (B7 l)<l.length:=Nat.mod_lt _ (by omega)
     have m1:=g4 _ (No p1)
     have p3:EP l.length (B7 l)<(BM l (DF l.length (B7 l):Nat) (AE l (DF l.length (B7 l):Nat)-1)).length:=by rw[Mb];exact p2
     have m2:(f:Int)-10≤AE (BM l (DF l.length (B7 l):Nat) (AE l (DF l.length (B7 l):Nat)-1)) (EP l.length (B7 l):Nat)∧AE (BM l (DF l.length (B7 l):Nat) (AE l (DF l.length (B7 l):Nat)-1)) (EP l.length (B7 l):Nat)≤100:=by
      rcases AcH (No p3)with q|q
      ·rw[q];omega
      ·have:=g4 _ q;omega
     simp(disch:=first|omega|simp only[vl];omega) only[AA,e1,e2,Mb,T9]
     have dl1:=IJ.del (K:=K) (JF l (B7 l)) (B7 l) (by rw[J0];exact hj) (by rw[J0];omega)
     have dl2:=IJ.del (K:=K) c (B7 l) (by omega) (by omega)
     refine AD (dl1) rfl ?_
     simp(disch:=first|omega|simp only[vl];omega) only[AA]
     refine AD (dl2) rfl ?_
     simp(disch:=first|omega|simp only[vl];omega) only[AA]
     have k1:(Fp l (B7 l)).length=f+3:=by rw[LH hj];omega
     have k2:(Gc c (B7 l)).length=f+3:=by rw[Wh (by omega)];omega
     have k3:GW f (Fp l (B7 l)) (Gc c (B7 l)) (o++[dgQ l.length c (B7 l)])=E3 q:=by
      rw[←g6,GW,if_pos hj]
     refine⟨(f,Fp l (B7 l),Gc c (B7 l),o++[dgQ l.length c (B7 l)]),by simp,⟨k1,k2,by simp only;omega,?_,by simp only[A7,AY,Ap];omega,k3⟩,rfl⟩
     exact ATR (by omega) hj fun x hx=>by have:=g4 x hx;omega
    ·rw[if_neg hj]
     simp only[GW,if_neg hj]at g6
     simp(disch:=first|omega|simp only[vl];omega) only[AA]
     rw[←g6]
     rfl
end Go.Cat
