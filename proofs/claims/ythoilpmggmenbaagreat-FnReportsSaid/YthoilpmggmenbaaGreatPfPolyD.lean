/-
 Polynomials: quotients of the reference, values, ones.
-/
import Derived.Test.YthoilpmggmenbaaGreatQd0LawReports
import Derived.Test.YthoilpmggmenbaaGreatQd1LawReports
import Derived.Test.YthoilpmggmenbaaGreatQd2LawReports
import Derived.Test.YthoilpmggmenbaaGreatQd3LawReports
import Derived.Test.YthoilpmggmenbaaGreatPfPoly
import Derived.Test.YthoilpmggmenbaaGreatPfFmt
import Derived.Test.YthoilpmggmenbaaGreatPfRankA
set_option linter.unusedSimpArgs false
set_option linter.unusedVariables false
namespace Go.Cat
variable{K:Nat→List D→List D→Prop}
theorem VA[HA K]{a b:List Int}(h:a.length≤1048576)(h2:b.length≤1048576)(h0:1≤b.length):
  K 471 [LI a,LI b] [LI (CV (Gy b (B8 a b) (a,rep (B8 a b:Nat) 0)).2),LI (CV (Gy b (B8 a b) (a,rep (B8 a b:Nat) 0)).1)]:=by
 have hn:(max 0 ((a.length:Int)-(b.length:Int)+1))=(B8 a b:Nat):=by simp only[B8];omega
 have hdn:B8 a b=a.length+1-b.length:=rfl;refine qb AKR rfl ?_;simp only[AKR];simp(disch:=first|omega|simp only[vl];omega) only[AA,D8,hn];refine Be (fun(x:Nat×List Int×List Int)=>x.1≤B8 a b∧x.2.1.length=a.length∧x.2.2.length=B8 a b∧Gy b x.1 x.2=Gy b (B8 a b) (a,rep (B8 a b:Nat) 0)) (fun x=>[.u,LI b,.u,.u,LI x.2.1,LI x.2.2,.n ((x.1:Int)-1),.u,.u,.u,.u]) (fun x=>x.1) (B8 a b,a,rep (B8 a b:Nat) 0) ⟨Nat.le_refl _,rfl,by simp[rep],rfl⟩ (by simp[rep]) ?_;rintro⟨i,l,q⟩ ⟨g1,g2,g3,g4⟩;simp only at g1 g2 g3 g4⊢
 cases i with
 |zero=>
  simp(disch:=first|omega|simp only[vl];omega) only[AA]
  refine AD (AGE (K:=K) (p:=q) (by omega)) rfl ?_
  simp(disch:=first|omega|simp only[vl];omega) only[AA]
  refine AD (AGE (K:=K) (p:=l) (by omega)) rfl ?_
  simp(disch:=first|omega|simp only[vl];omega) only[AA]
  rw[←g4];rfl
 |succ i=>
  have ei:((i+1:Nat):Int)-1=i:=by omega
  rw[ei]
  simp(disch:=first|omega|simp only[vl];omega) only[AA]
  refine MZ (I1 b (AE l ((i:Int)+b.length-1)) i) (fun _ (o:List Int)=>o.length=a.length) (fun k o=>[.u,LI b,.u,.u,LI o,LI (BM q i (AE l ((i:Int)+b.length-1))),.n i,.n (AE l ((i:Int)+b.length-1)),.n k,.u,.u]) b.length l g2 rfl (fun k s _ hs=>by rw[Sc,hs]) (fun k o2 hk ho2 _=>?_) (fun o2 ho3 ho2=>?_)
  ·simp(disch:=first|omega|simp only[vl];omega) only[AA,I1]
  ·simp(disch:=first|omega|simp only[vl];omega) only[AA]
   refine⟨(i,o2,BM q i (AE l ((i:Int)+b.length-1))),by omega,⟨by omega,ho2,by rw[Cv,g3],?_⟩,by simp⟩
   rw[←g4]
   simp only[Gy]
   rw[ho3];rfl
theorem ARH[HA K]{n:Nat}(h:n≤1000):K 470 [.n n] [LI (rep (n:Nat) 1)]:=by
 refine qb AID rfl ?_;simp only[AID];simp(disch:=first|omega|simp only[vl];omega) only[AA,D8];refine AL (fun _=>True) (fun i=>[.n n,.u,LI (rep (i:Nat) 1),.n i,.u]) n trivial (by simp[rep]) (fun i hi _=>?_) (fun _=>?_)
 ·have e:rep ((i:Int)+1) (1:Int)=rep (i:Nat) 1++[1]:=by rw[show(i:Int)+1=((i+1:Nat):Int) by omega];simp only[Sp];rw[List.replicate_succ']
  simp(disch:=first|omega|simp only[vl];omega) only[AA];rw[e]
 ·simp(disch:=first|omega|simp only[vl];omega) only[AA]
def Me(n:Int):Bool:=AV 0 20 n
def NG(n:Int):List Int:=if Me n=true then rep n 1 else []
theorem np_i[HA K]{n:Int}:K 422 [.n n] [LI (NG n),.b (Me n)]:=by
 refine qb AFJ rfl ?_;simp only[AFJ];simp(disch:=first|omega|simp only[vl];omega) only[AA];refine AD (CK (K:=K)) rfl ?_
 cases h:AV 0 20 n
 ·simp(disch:=first|omega|simp only[vl];omega) only[AA,D8];simp[NG,Me,h]
 ·have hb:=A8.1 h;obtain⟨m,rfl⟩:=Cd hb.1;simp(disch:=first|omega|simp only[vl];omega) only[AA,D8];refine AL (fun _=>True) (fun i=>[.u,.u,.u,LI (rep (i:Nat) 1),.u,.n m,.n i,.u]) m trivial (by simp[rep]) (fun i hi _=>?_) (fun _=>?_)
  ·have e:rep ((i:Int)+1) (1:Int)=rep (i:Nat) 1++[1]:=by rw[show(i:Int)+1=((i+1:Nat):Int) by omega];simp only[Sp];rw[List.replicate_succ']
   simp(disch:=first|omega|simp only[vl];omega) only[AA];rw[e]
  ·simp(disch:=first|omega|simp only[vl];omega) only[AA];simp[NG,Me,h]
def Dy(p:List Int):List (List Nat):=p.map Ai
def FJ(p:List Int):List Nat:=if p.length=0∨Cr p=false then [48]else glue [44] (Dy p)
theorem VM{p:List Int}(h:Cr p=true):∀x∈Dy p,x.length≤20:=by intro x hx;obtain⟨y,hy,rfl⟩:=List.mem_map.1 hx;obtain⟨j,hj,rfl⟩:=List.mem_iff_getElem.1 hy;have:=Sl h hj;refine BB ?_;simp only[AE,BH,Al,En hj,Option.getD_some]at this;omega
theorem ALM{p:List Int}{i:Nat}(h:i<p.length):AO (Dy p) i=Ai (AE p i):=by simp[AO,Dy,AE,h]
theorem ASR{p:List Int}{i:Nat}(h:i<p.length):(Dy p).take (i+1)=(Dy p).take i++[Ai (AE p i)]:=by rw[CU (by simpa[Dy]using h)];simp[Dy,AE,h]
theorem SZ{p:List Int}:(Dy p).length=p.length:=by simp[Dy]
theorem AVC[HA K]{p:List Int}(h:p.length≤1048576):K 430 [LI p] [.s (FJ p)]:=by
 refine qb AE9 rfl ?_;simp only[AE9];by_cases h0:p.length=0
 ·simp(disch:=first|omega|simp only[vl];omega) only[AA,h0];simp[FJ,h0]
 ·simp(disch:=first|omega|simp only[vl];omega) only[AA]
  cases hp:Cr p
  ·repeat(first|(refine AD (II (K:=K) (p:=p) (by omega)) rfl ?_;try simp(disch:=first|omega|simp only[vl];omega) only[AA,hp]))
   simp[FJ,hp]
  ·have hl:=ALH hp;have hw:=SZ (p:=p);repeat(first|(refine AD (II (K:=K) (p:=p) (by omega)) rfl ?_;try simp(disch:=first|omega|simp only[vl];omega) only[AA,hp]))
   rw[NA];refine AL (fun _=>True) (fun i=>[.u,.u,LS ((Dy p).take i),.u,.u,LI p,.n p.length,.n i,.u]) p.length trivial (by simp) (fun i hi _=>?_) (fun _=>?_)
   ·have ht:((Dy p).take i).length=i:=by simp;omega
    have hb:=Sl hp hi;rw[ASR hi];simp(disch:=first|omega|simp only[vl];omega) only[AA];refine AD (CZ (K:=K) (n:=AE p i) (by omega)) rfl ?_;simp(disch:=first|omega|simp only[vl];omega) only[AA]
   ·rw[List.take_of_length_le (by omega)];simp(disch:=first|omega|simp only[vl];omega) only[AA];have kg:=JI (K:=K) (ws:=Dy p) (sep:=[44]) (by omega) (fun x hx=>by have:=VM hp x hx;omega) (by simp);refine AD (kg) rfl ?_;simp(disch:=first|omega|simp only[vl];omega) only[AA];simp[FJ,h0,hp]
theorem AaQ{n:Int}:Ai n≠[]:=by
 unfold Ai;split
 ·simp
 ·split
  ·simp
  ·rename_i h0 _;rw[JR (by omega)];simp
theorem AZZ[HA K]{p:List Int}(h:p.length≤1048576):K 431 [LI p] [.s (FJ p)]:=by
 refine qb AGZ rfl ?_;simp only[AGZ];simp(disch:=first|omega|simp only[vl];omega) only[AA]
 cases hp:Cr p
 ·by_cases h0:p.length=0
  ·refine Be (fun(_:Unit)=>True) (fun _=>[LI p,.u,.s [],.n 0,.u,.u,.u]) (fun _=>0) () trivial rfl (fun _ _=>?_);simp(disch:=first|omega|simp only[vl];omega) only[AA,h0];simp[FJ,h0]
  ·refine Be (fun(_:Unit)=>True) (fun _=>[LI p,.u,.s [],.n 0,.u,.u,.u]) (fun _=>0) () trivial rfl (fun _ _=>?_);simp(disch:=first|omega|simp only[vl];omega) only[AA];repeat(first|(refine AD (Tt (K:=K) (p:=p) (by omega)) rfl ?_;try simp(disch:=first|omega|simp only[vl];omega) only[AA,hp]))
   simp[FJ,hp]
 ·have hl:=ALH hp;have hw:=SZ (p:=p);refine AL (fun _=>True) (fun i=>[LI p,.u,.s (BN [44] (Dy p) i),.n i,.u,.u,.u]) p.length trivial rfl (fun i hi _=>?_) (fun _=>?_)
  ·have hb:=Sl hp hi;have b1:=Ic (sep:=[44]) (VM hp) i;have b2:=BB (n:=AE p i) (by omega);have b3:i*(20+[44].length)≤61*21:=Nat.mul_le_mul (by omega) (by simp);have e:=ALM hi;simp(disch:=first|omega|simp only[vl];omega) only[AA];refine AD (Tt (K:=K) (p:=p) (by omega)) rfl ?_;by_cases q:0<i
   ·simp(disch:=first|omega|simp only[vl];omega) only[AA,hp];refine AD (Bp (K:=K) (n:=AE p i) (by omega)) rfl ?_;simp(disch:=first|omega|simp only[vl];omega) only[AA];simp only[BN,if_pos q,e]
   ·simp(disch:=first|omega|simp only[vl];omega) only[AA,hp];refine AD (Bp (K:=K) (n:=AE p i) (by omega)) rfl ?_;simp(disch:=first|omega|simp only[vl];omega) only[AA];simp only[BN,if_neg q,e,List.append_nil]
  ·by_cases h0:p.length=0
   ·have e:BN [44] (Dy p) p.length=[]:=by rw[h0];rfl
    rw[e];simp(disch:=first|omega|simp only[vl];omega) only[AA,h0];simp[FJ,h0]
   ·have e:(BN [44] (Dy p) p.length==[])=false:=by
     refine beq_eq_false_iff_ne.2 ?_
     obtain⟨m,hm⟩:∃m,p.length=m+1:=⟨p.length-1,by omega⟩
     rw[hm,BN,ALM (by omega)]
     intro q
     have:=congrArg List.length q
     simp only[A7,Ap]at this
     have h2:=AaQ (n:=AE p m)
     have h3:(Ai (AE p m)).length≠0:=fun q=>h2 (Dt q)
     omega
    simp(disch:=first|omega|simp only[vl];omega) only[AA,e]
    have hg:glue [44] (Dy p)=BN [44] (Dy p) p.length:=by rw[glue,hw]
    simp[FJ,h0,hp,hg]
end Go.Cat
namespace Go.Cat
theorem J2{p:List Int}{k:Nat}(h:p.length≤k):AE p k=0:=by simp[AE,h]
end Go.Cat
namespace Go.Cat
variable{K:Nat→List D→List D→Prop}
set_option maxRecDepth 100000
end Go.Cat
namespace Go.Cat
set_option maxRecDepth 100000
variable{K:Nat→List D→List D→Prop}
def gsT:List (List (List Int)):=[[[1]],
 [[1],[1]],
 [[1],[1,1],[1]],
 [[1],[1,1,1],[1,1,1],[1]],
 [[1],[1,1,1,1],[1,1,2,1,1],[1,1,1,1],[1]],
 [[1],[1,1,1,1,1],[1,1,2,2,2,1,1],[1,1,2,2,2,1,1],[1,1,1,1,1],[1]],
 [[1],[1,1,1,1,1,1],[1,1,2,2,3,2,2,1,1],[1,1,2,3,3,3,3,2,1,1],[1,1,2,2,3,2,2,1,1],[1,1,1,1,1,1],[1]],
 [[1],[1,1,1,1,1,1,1],[1,1,2,2,3,3,3,2,2,1,1],[1,1,2,3,4,4,5,4,4,3,2,1,1],[1,1,2,3,4,4,5,4,4,3,2,1,1],[1,1,2,2,3,3,3,2,2,1,1],[1,1,1,1,1,1,1],[1]],
 [[1],[1,1,1,1,1,1,1,1],[1,1,2,2,3,3,4,3,3,2,2,1,1],[1,1,2,3,4,5,6,6,6,6,5,4,3,2,1,1],[1,1,2,3,5,5,7,7,8,7,7,5,5,3,2,1,1],[1,1,2,3,4,5,6,6,6,6,5,4,3,2,1,1],[1,1,2,2,3,3,4,3,3,2,2,1,1],[1,1,1,1,1,1,1,1],[1]],
 [[1],[1,1,1,1,1,1,1,1,1],[1,1,2,2,3,3,4,4,4,3,3,2,2,1,1],[1,1,2,3,4,5,7,7,8,8,8,7,7,5,4,3,2,1,1],[1,1,2,3,5,6,8,9,11,11,12,11,11,9,8,6,5,3,2,1,1],[1,1,2,3,5,6,8,9,11,11,12,11,11,9,8,6,5,3,2,1,1],[1,1,2,3,4,5,7,7,8,8,8,7,7,5,4,3,2,1,1],[1,1,2,2,3,3,4,4,4,3,3,2,2,1,1],[1,1,1,1,1,1,1,1,1],[1]],
 [[1],[1,1,1,1,1,1,1,1,1,1],[1,1,2,2,3,3,4,4,5,4,4,3,3,2,2,1,1],[1,1,2,3,4,5,7,8,9,10,10,10,10,9,8,7,5,4,3,2,1,1],[1,1,2,3,5,6,9,10,13,14,16,16,18,16,16,14,13,10,9,6,5,3,2,1,1],[1,1,2,3,5,7,9,11,14,16,18,19,20,20,19,18,16,14,11,9,7,5,3,2,1,1],[1,1,2,3,5,6,9,10,13,14,16,16,18,16,16,14,13,10,9,6,5,3,2,1,1],[1,1,2,3,4,5,7,8,9,10,10,10,10,9,8,7,5,4,3,2,1,1],[1,1,2,2,3,3,4,4,5,4,4,3,3,2,2,1,1],[1,1,1,1,1,1,1,1,1,1],[1]],
 [[1],[1,1,1,1,1,1,1,1,1,1,1],[1,1,2,2,3,3,4,4,5,5,5,4,4,3,3,2,2,1,1],[1,1,2,3,4,5,7,8,10,11,12,12,13,12,12,11,10,8,7,5,4,3,2,1,1],[1,1,2,3,5,6,9,11,14,16,19,20,23,23,24,23,23,20,19,16,14,11,9,6,5,3,2,1,1],[1,1,2,3,5,7,10,12,16,19,23,25,29,30,32,32,32,30,29,25,23,19,16,12,10,7,5,3,2,1,1],[1,1,2,3,5,7,10,12,16,19,23,25,29,30,32,32,32,30,29,25,23,19,16,12,10,7,5,3,2,1,1],[1,1,2,3,5,6,9,11,14,16,19,20,23,23,24,23,23,20,19,16,14,11,9,6,5,3,2,1,1],[1,1,2,3,4,5,7,8,10,11,12,12,13,12,12,11,10,8,7,5,4,3,2,1,1],[1,1,2,2,3,3,4,4,5,5,5,4,4,3,3,2,2,1,1],[1,1,1,1,1,1,1,1,1,1,1],[1]],
 [[1],[1,1,1,1,1,1,1,1,1,1,1,1],[1,1,2,2,3,3,4,4,5,5,6,5,5,4,4,3,3,2,2,1,1],[1,1,2,3,4,5,7,8,10,12,13,14,15,15,15,15,14,13,12,10,8,7,5,4,3,2,1,1],[1,1,2,3,5,6,9,11,15,17,21,23,27,28,31,31,33,31,31,28,27,23,21,17,15,11,9,6,5,3,2,1,1],[1,1,2,3,5,7,10,13,17,21,26,30,35,39,43,46,48,49,49,48,46,43,39,35,30,26,21,17,13,10,7,5,3,2,1,1],[1,1,2,3,5,7,11,13,18,22,28,32,39,42,48,51,55,55,58,55,55,51,48,42,39,32,28,22,18,13,11,7,5,3,2,1,1],[1,1,2,3,5,7,10,13,17,21,26,30,35,39,43,46,48,49,49,48,46,43,39,35,30,26,21,17,13,10,7,5,3,2,1,1],[1,1,2,3,5,6,9,11,15,17,21,23,27,28,31,31,33,31,31,28,27,23,21,17,15,11,9,6,5,3,2,1,1],[1,1,2,3,4,5,7,8,10,12,13,14,15,15,15,15,14,13,12,10,8,7,5,4,3,2,1,1],[1,1,2,2,3,3,4,4,5,5,6,5,5,4,4,3,3,2,2,1,1],[1,1,1,1,1,1,1,1,1,1,1,1],[1]],
 [[1],[1,1,1,1,1,1,1,1,1,1,1,1,1],[1,1,2,2,3,3,4,4,5,5,6,6,6,5,5,4,4,3,3,2,2,1,1],[1,1,2,3,4,5,7,8,10,12,14,15,17,17,18,18,18,17,17,15,14,12,10,8,7,5,4,3,2,1,1],[1,1,2,3,5,6,9,11,15,18,22,25,30,32,36,38,41,41,43,41,41,38,36,32,30,25,22,18,15,11,9,6,5,3,2,1,1],[1,1,2,3,5,7,10,13,18,22,28,33,40,45,52,57,63,66,70,71,73,71,70,66,63,57,52,45,40,33,28,22,18,13,10,7,5,3,2,1,1],[1,1,2,3,5,7,11,14,19,24,31,37,46,52,61,68,76,81,88,90,94,94,94,90,88,81,76,68,61,52,46,37,31,24,19,14,11,7,5,3,2,1,1],[1,1,2,3,5,7,11,14,19,24,31,37,46,52,61,68,76,81,88,90,94,94,94,90,88,81,76,68,61,52,46,37,31,24,19,14,11,7,5,3,2,1,1],[1,1,2,3,5,7,10,13,18,22,28,33,40,45,52,57,63,66,70,71,73,71,70,66,63,57,52,45,40,33,28,22,18,13,10,7,5,3,2,1,1],[1,1,2,3,5,6,9,11,15,18,22,25,30,32,36,38,41,41,43,41,41,38,36,32,30,25,22,18,15,11,9,6,5,3,2,1,1],[1,1,2,3,4,5,7,8,10,12,14,15,17,17,18,18,18,17,17,15,14,12,10,8,7,5,4,3,2,1,1],[1,1,2,2,3,3,4,4,5,5,6,6,6,5,5,4,4,3,3,2,2,1,1],[1,1,1,1,1,1,1,1,1,1,1,1,1],[1]],
 [[1],[1,1,1,1,1,1,1,1,1,1,1,1,1,1],[1,1,2,2,3,3,4,4,5,5,6,6,7,6,6,5,5,4,4,3,3,2,2,1,1],[1,1,2,3,4,5,7,8,10,12,14,16,18,19,20,21,21,21,21,20,19,18,16,14,12,10,8,7,5,4,3,2,1,1],[1,1,2,3,5,6,9,11,15,18,23,26,32,35,40,43,48,49,53,53,55,53,53,49,48,43,40,35,32,26,23,18,15,11,9,6,5,3,2,1,1],[1,1,2,3,5,7,10,13,18,23,29,35,43,50,58,66,74,81,88,93,98,101,102,102,101,98,93,88,81,74,66,58,50,43,35,29,23,18,13,10,7,5,3,2,1,1],[1,1,2,3,5,7,11,14,20,25,33,40,51,59,71,81,94,103,116,123,134,139,146,147,151,147,146,139,134,123,116,103,94,81,71,59,51,40,33,25,20,14,11,7,5,3,2,1,1],[1,1,2,3,5,7,11,15,20,26,34,42,53,63,75,87,100,112,125,136,146,155,162,166,169,169,166,162,155,146,136,125,112,100,87,75,63,53,42,34,26,20,15,11,7,5,3,2,1,1],[1,1,2,3,5,7,11,14,20,25,33,40,51,59,71,81,94,103,116,123,134,139,146,147,151,147,146,139,134,123,116,103,94,81,71,59,51,40,33,25,20,14,11,7,5,3,2,1,1],[1,1,2,3,5,7,10,13,18,23,29,35,43,50,58,66,74,81,88,93,98,101,102,102,101,98,93,88,81,74,66,58,50,43,35,29,23,18,13,10,7,5,3,2,1,1],[1,1,2,3,5,6,9,11,15,18,23,26,32,35,40,43,48,49,53,53,55,53,53,49,48,43,40,35,32,26,23,18,15,11,9,6,5,3,2,1,1],[1,1,2,3,4,5,7,8,10,12,14,16,18,19,20,21,21,21,21,20,19,18,16,14,12,10,8,7,5,4,3,2,1,1],[1,1,2,2,3,3,4,4,5,5,6,6,7,6,6,5,5,4,4,3,3,2,2,1,1],[1,1,1,1,1,1,1,1,1,1,1,1,1,1],[1]]]
def arT:List (List Int):=[[1],[1],[1,1],[1,2,1,1],[1,3,3,3,2,1,1],[1,4,6,7,7,5,5,3,2,1,1],[1,5,10,14,17,16,16,14,11,9,7,5,3,2,1,1],[1,6,15,25,35,40,43,44,40,37,32,28,22,18,13,11,7,5,3,2,1,1],[1,7,21,41,65,86,102,115,118,118,113,106,96,85,73,63,53,42,34,26,20,15,11,7,5,3,2,1,1]]
def M9:List (List Int):=[[1],[1],[1,0,1],[1,0,1,1,1,0,1],[1,0,1,1,2,1,2,1,2,1,1,0,1],[1,0,1,1,2,2,3,2,4,3,4,3,4,2,3,2,2,1,1,0,1],[1,0,1,1,2,2,4,3,5,5,7,6,9,7,9,8,9,7,9,6,7,5,5,3,4,2,2,1,1,0,1],[1,0,1,1,2,2,4,4,6,6,9,9,13,12,16,16,19,18,22,20,23,21,23,20,22,18,19,16,16,12,13,9,9,6,6,4,4,2,2,1,1,0,1]]
def bnT:List (List Int):=[[1],[1,1],[1,2,1],[1,3,3,1],[1,4,6,4,1],[1,5,10,10,5,1],[1,6,15,20,15,6,1],[1,7,21,35,35,21,7,1],[1,8,28,56,70,56,28,8,1],[1,9,36,84,126,126,84,36,9,1],[1,10,45,120,210,252,210,120,45,10,1],[1,11,55,165,330,462,462,330,165,55,11,1],[1,12,66,220,495,792,924,792,495,220,66,12,1],[1,13,78,286,715,1287,1716,1716,1287,715,286,78,13,1],[1,14,91,364,1001,2002,3003,3432,3003,2002,1001,364,91,14,1]]
def gs(n k:Nat):List Int:=(gsT.getD n []).getD k []
def LJ(a b:List Int)(s i:Nat):Int:=AE a i+(if s≤i then AE b ((i-s:Nat):Int)else 0)
theorem gs0:BO 15 (fun n=>BO (n+1) fun k=>decide ((gs n k).length=k*(n-k)+1)&&(gs n k).all (AV 0 10000)&&decide (gs n (n-k)=gs n k))=true:=by kernel_rfl
theorem AAN:BO 15 (fun n=>decide (gs n 0=[1]∧gs n n=[1]))=true:=by kernel_rfl
theorem gsS0:BO 14 (fun m=>BO (m+2) fun k=>(decide (k=0∨k=m+1))||decide ((List.range (k*(m+1-k)+1)).map (LJ (gs m k) (gs m (k-1)) (m+1-k))=gs (m+1) k))=true:=by kernel_rfl
theorem Gh{n k:Nat}(h:n≤14)(hk:k≤n):(gs n k).length=k*(n-k)+1:=by have:=BQ (BQ gs0 n (by omega)) k (by omega);simp only[AX,Aj]at this;exact this.1.1
theorem Q1{n k:Nat}(h:n≤14)(hk:k≤n)(i:Nat):0≤AE (gs n k) i∧AE (gs n k) i≤10000:=by
 have:=BQ (BQ gs0 n (by omega)) k (by omega);simp only[AX,Aj,Aw]at this;rcases Bh i (gs n k).length with c|c
 ·exact A8.1 (this.1.2 _ (by simp[AE,c]))
 ·rw[J2 c];omega
theorem P4{n:Nat}(h:n≤14):gs n 0=[1]:=by have:=BQ AAN n (by omega);simp only[Aj]at this;exact this.1
theorem Um{n:Nat}(h:n≤14):gs n n=[1]:=by have:=BQ AAN n (by omega);simp only[Aj]at this;exact this.2
theorem ALC{m k:Nat}(h:m≤13)(h0:0<k)(hk:k≤m)(i:Nat):LJ (gs m k) (gs m (k-1)) (m+1-k) i=AE (gs (m+1) k) i:=by
 have h1:=BQ (BQ gsS0 m (by omega)) k (by omega);simp only[Bool.or_eq_true,Aj]at h1;have h1:(List.range (k*(m+1-k)+1)).map (LJ (gs m k) (gs m (k-1)) (m+1-k))=gs (m+1) k:=by
  rcases h1 with h1|h1
  ·omega
  ·exact h1
 have hl:=Gh (n:=m+1) (k:=k) (by omega) (by omega);rcases Bh i (gs (m+1) k).length with c|c
 ·rw[←h1];have:i<k*(m+1-k)+1:=by omega
  simp[AE,this]
 ·rw[J2 c,LJ];have l1:=Gh (n:=m) (k:=k) (by omega) (by omega);have l2:=Gh (n:=m) (k:=k-1) (by omega) (by omega);have e1:k*(m+1-k)=k*(m-k)+k:=by rw[show m+1-k=(m-k)+1 by omega,Nat.mul_succ]
  have e2:(k-1)*(m-(k-1))+(m+1-k)=k*(m+1-k):=by obtain⟨j,rfl⟩:∃j,k=j+1:=⟨k-1,by omega⟩;rw[Nat.add_sub_cancel,Nat.succ_mul,show m+1-(j+1)=m-j by omega]
  rw[J2 (by omega)];split
  ·rw[J2 (by omega)];rfl
  ·rfl
theorem PW{n k:Nat}(h:n≤14)(hk:k≤n):k*(n-k)≤196:=by have:k*(n-k)≤14*14:=Nat.mul_le_mul (by omega) (by omega);omega
theorem VU[HA K]:∀(n k:Nat),n≤14→k≤n→K 466 [.n n,.n k] [LI (gs n k)]
 |n,k,hn,hk=>by
  refine qb Yd rfl ?_;simp only[Yd]
  by_cases h0:k=0
  ·subst h0
   rw[P4 hn]
   simp(disch:=first|omega|simp only[vl];omega) only[AA,Lo]
  ·by_cases h1:k=n
   ·subst h1
    rw[Um hn]
    simp(disch:=first|omega|simp only[vl];omega) only[AA,Lo]
   ·obtain⟨m,rfl⟩:∃m,n=m+1:=⟨n-1,by omega⟩
    have k1:=VU m k (by omega) (by omega)
    have k2:=VU m (k-1) (by omega) (by omega)
    have e1:((k-1:Nat):Int)=(k:Int)-1:=by omega
    rw[e1]at k2
    have em:((m+1:Nat):Int)-1=m:=by omega
    have l1:=Gh (n:=m) (k:=k) (by omega) (by omega)
    have l2:=Gh (n:=m) (k:=k-1) (by omega) (by omega)
    have l3:=Gh (n:=m+1) (k:=k) (by omega) (by omega)
    have m3:=PW (n:=m+1) (k:=k) (by omega) (by omega)
    have e3:k*(m+1-k)=k*(m-k)+k:=by
     rw[show m+1-k=(m-k)+1 by omega,Nat.mul_succ]
    have e2:(k-1)*(m-(k-1))+(m+1-k)=k*(m+1-k):=by
     obtain⟨j,rfl⟩:∃j,k=j+1:=⟨k-1,by omega⟩
     rw[Nat.add_sub_cancel,Nat.succ_mul,show m+1-(j+1)=m-j by omega]
    have b1:=Q1 (n:=m) (k:=k) (by omega) (by omega)
    have b2:=Q1 (n:=m) (k:=k-1) (by omega) (by omega)
    have r:=ALC (m:=m) (k:=k) (by omega) (by omega) (by omega)
    generalize gs m k=a at k1 l1 b1 r
    generalize gs m (k-1)=b at k2 l2 b2 r
    generalize gs (m+1) k=c at l3 r⊢
    have hmx:max (a.length:Int) ((b.length:Int)+((m:Int)+1)-(k:Int))=(c.length:Nat):=by omega
    simp(disch:=first|omega|simp only[vl];omega) only[AA,CA]
    refine AD (k1) rfl ?_
    simp(disch:=first|omega|simp only[vl];omega) only[AA,CA]
    refine AD (k2) rfl ?_
    simp(disch:=first|omega|simp only[vl];omega) only[AA,hmx]
    refine Au (fun i (o:List Int)=>o.length=c.length∧∀j:Nat,j<c.length→AE o j=if j<i then AE a j else 0) (fun i o=>[.n ((m:Int)+1),.n k,.u,.u,LI b,LI o,.u,.u,.u,.u,.u,LI a,.n a.length,.n i,.u,.u,.u,.u,.u]) a.length (rep (c.length:Nat) 0) ⟨by simp[rep],fun j hj=>by simp[AE,rep,hj]⟩ rfl (fun i o hi hP=>?_) (fun o hP=>?_)
    ·obtain⟨g1,g2⟩:=hP
     simp(disch:=first|omega|simp only[vl];omega) only[AA]
     refine⟨_,⟨by rw[Cv,g1],fun j hj=>?_⟩,rfl⟩
     rw[GX (by omega)]
     by_cases q:i=j
     ·subst q;rw[if_pos rfl,if_pos (by omega)]
     ·rw[if_neg q,g2 j hj]
      by_cases q2:j<i
      ·rw[if_pos q2,if_pos (by omega)]
      ·rw[if_neg q2,if_neg (by omega)]
    ·obtain⟨g1,g2⟩:=hP
     have g2:∀j:Nat,j<c.length→AE o j=AE a j:=by
      intro j hj
      rw[g2 j hj]
      split
      ·rfl
      ·rw[J2 (by omega)]
     simp(disch:=first|omega|simp only[vl];omega) only[AA]
     refine Au (fun i (o:List Int)=>o.length=c.length∧∀j:Nat,j<c.length→AE o j=AE a j+(if m+1-k≤j∧j<m+1-k+i then AE b ((j-(m+1-k):Nat):Int)else 0)) (fun i o=>[.n ((m:Int)+1),.n k,.u,.u,.u,LI o,.u,.u,.u,.u,.u,.u,.u,.u,.u,LI b,.n b.length,.n i,.u]) b.length o ⟨g1,fun j hj=>by rw[g2 j hj,if_neg (by omega)];omega⟩ rfl (fun i o hi hP=>?_) (fun o hP=>?_)
     ·obtain⟨g1,g2⟩:=hP
      have ei:(i:Int)+((m:Int)+1)-(k:Int)=((m+1-k+i:Nat):Int):=by omega
      have g3:=g2 (m+1-k+i) (by omega)
      rw[if_neg (by omega)]at g3
      have c1:=b1 (m+1-k+i)
      have c2:=b2 i
      simp(disch:=first|omega|simp only[vl];omega) only[AA,ei]
      refine⟨_,⟨by rw[Cv,g1],fun j hj=>?_⟩,rfl⟩
      rw[GX (by omega)]
      by_cases q:m+1-k+i=j
      ·subst q
       rw[if_pos rfl,if_pos (by omega),g3,show m+1-k+i-(m+1-k)=i by omega];omega
      ·rw[if_neg q,g2 j hj]
       by_cases q2:m+1-k≤j∧j<m+1-k+i
       ·rw[if_pos q2,if_pos (by omega)]
       ·rw[if_neg q2,if_neg (by omega)]
     ·obtain⟨g1,g2⟩:=hP
      simp(disch:=first|omega|simp only[vl];omega) only[AA]
      refine Dl (Fw g1.symm fun j hj=>?_)
      rw[g2 j hj,←r j,LJ]
      by_cases q:m+1-k≤j
      ·rw[if_pos q]
       by_cases q2:j<m+1-k+b.length
       ·rw[if_pos ⟨q,q2⟩]
       ·rw[if_neg (by omega),J2 (p:=b) (by omega)]
      ·rw[if_neg q,if_neg (by omega)]
attribute [irreducible] gs gsT M9 arT bnT
end Go.Cat
