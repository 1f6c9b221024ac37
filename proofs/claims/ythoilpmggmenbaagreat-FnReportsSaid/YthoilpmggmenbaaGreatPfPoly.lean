/-
 Polynomials: what is one, sums, products, quotients, values.
-/
import Derived.Test.YthoilpmggmenbaaGreatPfIn
import Derived.Test.YthoilpmggmenbaaGreatPfSch
import Derived.Test.YthoilpmggmenbaaGreatPfMatP
import Derived.Test.YthoilpmggmenbaaGreatQd0LawReports
import Derived.Test.YthoilpmggmenbaaGreatQd1LawReports
import Derived.Test.YthoilpmggmenbaaGreatQd2LawReports
import Derived.Test.YthoilpmggmenbaaGreatQd3LawReports
set_option linter.unusedSimpArgs false
set_option linter.unusedVariables false
namespace Go.Cat
variable{K:Nat→List D→List D→Prop}
def Cr(p:List Int):Bool:=p.all (AV (-1000000000) 1000000000)&&(decide (p.length≤61)&&(decide (p.length=0)||!decide (AE p ((p.length:Int)-1)=0)))
def Hb(p:List Int):Bool:=p.all (AV (-100000) 100000)&&Cr p
theorem Sl{p:List Int}(h:Cr p=true){i:Nat}(hi:i<p.length):-1000000000≤AE p i∧AE p i≤1000000000:=by simp only[Cr,AX,Aw]at h;exact A8.1 (h.1 _ (by simp[AE,hi]))
theorem ALH{p:List Int}(h:Cr p=true):p.length≤61:=by simp only[Cr,AX,Aj]at h;exact h.2.1
theorem II[HA K]{p:List Int}(h:p.length≤1099511627776):K 428 [LI p] [.b (Cr p)]:=by
 refine qb AB5 rfl ?_;simp only[AB5];by_cases h1:61<p.length
 ·simp(disch:=first|omega|simp only[vl];omega) only[AA];exact Db (by simp[Cr];intros;omega)
 ·by_cases hz:p.length≠0∧AE p ((p.length:Int)-1)=0
  ·simp(disch:=first|omega|simp only[vl];omega) only[AA,hz.2];exact Db (by simp[Cr,hz.1,hz.2])
  ·by_cases h0:p.length=0
   ·simp(disch:=first|omega|simp only[vl];omega) only[AA,h0];refine AL (fun i=>True) (fun i=>[.u,.u,.u,.u,LI p,.n p.length,.n i,.u,.u]) 0 trivial (by simp[h0]) (fun i hi hP=>by omega) (fun hP=>?_);simp(disch:=first|omega|simp only[vl];omega) only[AA];have:p=[]:=Dt h0;subst this;exact Db rfl
   ·have hq:¬AE p ((p.length:Int)-1)=0:=fun q=>hz ⟨h0,q⟩;simp(disch:=first|omega|simp only[vl];omega) only[AA];refine AL (fun i=>∀j:Nat,j<i→AV (-1000000000) 1000000000 (AE p j)=true) (fun i=>[.u,.u,.u,.u,LI p,.n p.length,.n i,.u,.u]) p.length (by simp) rfl (fun i hi hP=>?_) (fun hP=>?_)
    ·simp(disch:=first|omega|simp only[vl];omega) only[AA];refine AD (CK (K:=K)) rfl ?_
     cases h2:AV (-1000000000) 1000000000 (AE p i)
     ·simp(disch:=first|omega|simp only[vl];omega) only[AA];exact Db (by rw[Cr,Jf hi h2];rfl)
     ·simp(disch:=first|omega|simp only[vl];omega) only[AA];exact CB hP h2
    ·simp(disch:=first|omega|simp only[vl];omega) only[AA];exact Db (by rw[Cr,I8 hP];simp[hq];omega)
theorem Tt[HA K]{p:List Int}(h:p.length≤1099511627776):K 429 [LI p] [.b (Cr p)]:=by
 refine qb AC2 rfl ?_;simp only[AC2];simp(disch:=first|omega|simp only[vl];omega) only[AA];refine AL (fun i=>∀j:Nat,j<i→AV (-1000000000) 1000000000 (AE p j)=true) (fun i=>[LI p,.u,.n i,.u,.u]) p.length (by simp) rfl (fun i hi hP=>?_) (fun hP=>?_)
 ·simp(disch:=first|omega|simp only[vl];omega) only[AA];refine AD (Bj (K:=K)) rfl ?_
  cases h2:AV (-1000000000) 1000000000 (AE p i)
  ·simp(disch:=first|omega|simp only[vl];omega) only[AA];exact Db (by rw[Cr,Jf hi h2];rfl)
  ·simp(disch:=first|omega|simp only[vl];omega) only[AA];exact CB hP h2
 ·by_cases h1:61<p.length
  ·simp(disch:=first|omega|simp only[vl];omega) only[AA];exact Db (by simp[Cr];intros;omega)
  ·by_cases h0:p.length=0
   ·simp(disch:=first|omega|simp only[vl];omega) only[AA,h0];exact Db (by rw[Cr,I8 hP];simp[h0])
   ·by_cases hq:AE p ((p.length:Int)-1)=0
    ·simp(disch:=first|omega|simp only[vl];omega) only[AA,hq];exact Db (by simp[Cr,hq,h0])
    ·simp(disch:=first|omega|simp only[vl];omega) only[AA];exact Db (by rw[Cr,I8 hP];simp[hq];omega)
theorem AK8[HA K]{p:List Int}(h:p.length≤1099511627776):K 460 [LI p] [.b (Hb p)]:=by
 refine qb ZA rfl ?_;simp only[ZA];simp(disch:=first|omega|simp only[vl];omega) only[AA];refine AL (fun i=>∀j:Nat,j<i→AV (-100000) 100000 (AE p j)=true) (fun i=>[LI p,.u,.u,LI p,.n p.length,.n i,.u,.u]) p.length (by simp) rfl (fun i hi hP=>?_) (fun hP=>?_)
 ·simp(disch:=first|omega|simp only[vl];omega) only[AA];refine AD (CK (K:=K)) rfl ?_
  cases h2:AV (-100000) 100000 (AE p i)
  ·simp(disch:=first|omega|simp only[vl];omega) only[AA];exact Db (by rw[Hb,Jf hi h2];rfl)
  ·simp(disch:=first|omega|simp only[vl];omega) only[AA];exact CB hP h2
 ·simp(disch:=first|omega|simp only[vl];omega) only[AA];refine AD (II (K:=K) h) rfl ?_;simp(disch:=first|omega|simp only[vl];omega) only[AA];exact Db (by rw[Hb,I8 hP];simp)
theorem AVP[HA K]{p:List Int}(h:p.length≤1099511627776):K 462 [LI p] [.b (Hb p)]:=by
 refine qb AON rfl ?_;simp only[AON];simp(disch:=first|omega|simp only[vl];omega) only[AA];refine AL (fun i=>∀j:Nat,j<i→AV (-100000) 100000 (AE p j)=true) (fun i=>[LI p,.u,.n i,.u,.u]) p.length (by simp) rfl (fun i hi hP=>?_) (fun hP=>?_)
 ·simp(disch:=first|omega|simp only[vl];omega) only[AA];refine AD (Bj (K:=K)) rfl ?_
  cases h2:AV (-100000) 100000 (AE p i)
  ·simp(disch:=first|omega|simp only[vl];omega) only[AA];exact Db (by rw[Hb,Jf hi h2];rfl)
  ·simp(disch:=first|omega|simp only[vl];omega) only[AA];exact CB hP h2
 ·simp(disch:=first|omega|simp only[vl];omega) only[AA];refine AD (Tt (K:=K) h) rfl ?_;simp(disch:=first|omega|simp only[vl];omega) only[AA];exact Db (by rw[Hb,I8 hP];simp)
def Fi(p:List Int):Nat→Nat
 |0=>0
 |n+1=>if AE p n=0 then Fi p n else n+1
def CV(p:List Int):List Int:=p.take (Fi p p.length)
theorem Pl{p:List Int}:∀n,Fi p n≤n
 |0=>Nat.le_refl _
 |n+1=>by
  have:=Pl (p:=p) n
  unfold Fi;split<;>omega
theorem O0{p:List Int}:(CV p).length=Fi p p.length:=by have:=Pl (p:=p) p.length;simp only[CV,List.length_take];omega
theorem Yc{α:Type}{p:List α}{n:Nat}:sub p 0 n=p.take n:=by simp[sub]
theorem AKM[HA K]{p:List Int}(h:p.length≤1099511627776):K 469 [LI p] [LI (CV p)]:=by
 refine qb AQC rfl ?_;simp only[AQC];simp(disch:=first|omega|simp only[vl];omega) only[AA];refine Be (fun(x:Nat)=>x≤p.length∧Fi p x=Fi p p.length) (fun x=>[LI p,.u,.n x,.u]) (fun x=>x) p.length ⟨Nat.le_refl _,rfl⟩ rfl ?_;intro x hx
 cases x with
 |zero=>
  have e:Fi p p.length=0:=hx.2.symm
  simp(disch:=first|omega|simp only[vl];omega) only[AA]
  simp[CV,e,sub]
 |succ x=>
  have ex:((x+1:Nat):Int)-1=x:=by omega
  have hx2:=hx.2
  simp only[Fi]at hx2
  by_cases hz:AE p x=0
  ·rw[if_pos hz]at hx2
   simp(disch:=first|omega|simp only[vl];omega) only[AA,CA,hz]
   exact⟨x,by omega,⟨by omega,hx2⟩,rfl⟩
  ·rw[if_neg hz]at hx2
   simp(disch:=first|omega|simp only[vl];omega) only[AA,CA]
   rw[show((x:Int)+1)=((x+1:Nat):Int) by omega,Yc,CV,←hx2]
theorem AGE[HA K]{p:List Int}(h:p.length≤1099511627776):K 463 [LI p] [LI (CV p)]:=by
 refine qb ZM rfl ?_;simp only[ZM];simp(disch:=first|omega|simp only[vl];omega) only[AA];refine Be (fun(x:Nat)=>x≤p.length∧Fi p x=Fi p p.length) (fun x=>[LI p,.u,.n x,.u]) (fun x=>x) p.length ⟨Nat.le_refl _,rfl⟩ rfl ?_;intro x hx
 cases x with
 |zero=>
  have e:Fi p p.length=0:=hx.2.symm
  simp(disch:=first|omega|simp only[vl];omega) only[AA,D8]
  simp[CV,e,sub]
 |succ x=>
  have ex:((x+1:Nat):Int)-1=x:=by omega
  have hx2:=hx.2
  simp only[Fi]at hx2
  by_cases hz:AE p x=0
  ·rw[if_pos hz]at hx2
   simp(disch:=first|omega|simp only[vl];omega) only[AA,CA,hz]
   exact⟨x,by omega,⟨by omega,hx2⟩,rfl⟩
  ·rw[if_neg hz]at hx2
   simp(disch:=first|omega|simp only[vl];omega) only[AA,CA,D8]
   rw[show((x:Int)+1)=((x+1:Nat):Int) by omega,Yc,CV,←hx2]
end Go.Cat
namespace Go.Cat
variable{K:Nat→List D→List D→Prop}
def I1(b:List Int)(c:Int)(i k:Nat)(o:List Int):List Int:=BM o ((i:Int)+k) (IntKind.i64.wrap (AE o ((i:Int)+k)-IntKind.i64.wrap (c*AE b k)))
theorem Sc{b o:List Int}{c:Int}{i k:Nat}:(I1 b c i k o).length=o.length:=by simp[I1,BM]
theorem AZ3{b o:List Int}{c:Int}{i n:Nat}:(iter (I1 b c i) n o).length=o.length:=S3 (fun(s:List Int)=>s.length=o.length) rfl (fun i s h=>by rw[Sc,h]) n
def dvS(b:List Int)(i:Nat)(x:List Int×List Int):List Int×List Int:=
 (iter (I1 b (AE x.1 ((i:Int)+b.length-1)) i) b.length x.1,BM x.2 i (AE x.1 ((i:Int)+b.length-1)))
def FD(b:List Int):Nat→List Int×List Int→Option (List Int×List Int)
 |0,x=>some x
 |i+1,x=>if AV (-1000000000) 1000000000 (AE x.1 ((i:Int)+b.length-1))=true then FD b i (dvS b i x)else none
def Gy(b:List Int):Nat→List Int×List Int→List Int×List Int
 |0,x=>x
 |i+1,x=>Gy b i (dvS b i x)
def B8(a b:List Int):Nat:=a.length+1-b.length
def Js(a b:List Int):Bool:=Hb a&&AV 1 13 b.length&&decide (AE b ((b.length:Int)-1)=1)&&b.all (AV (-1) 1)
def ID(a b:List Int):Option (List Int×List Int):=if Js a b=true then(FD b (B8 a b) (a,rep (B8 a b:Nat) 0)).bind fun x=>if Cr (CV x.2)&&Cr (CV x.1)then some (CV x.2,CV x.1)else none else none
theorem Wc{b:List Int}:∀{i:Nat}{x y:List Int×List Int},FD b i x=some y→y.1.length=x.1.length∧y.2.length=x.2.length
 |0,x,y,h=>by simp only[FD,AI]at h;subst h;exact⟨rfl,rfl⟩
 |i+1,x,y,h=>by
  simp only[FD]at h
  split at h
  ·have:=Wc h
   simp only[dvS,AZ3,Cv]at this
   exact this
  ·cases h
theorem Rl[HA K]{a b:List Int}(h:a.length≤1048576)(h2:b.length≤1048576)(h0:1≤b.length):
  K 461 [LI a,LI b] (match FD b (B8 a b) (a,rep (B8 a b:Nat) 0)with|some x=>[LI (CV x.2),LI (CV x.1),.b true]|none=>[LI [],LI [],.b false]):=by
 have hn:(max 0 ((a.length:Int)-(b.length:Int)+1))=(B8 a b:Nat):=by simp only[B8];omega
 refine qb ZV rfl ?_;simp only[ZV];simp(disch:=first|omega|simp only[vl];omega) only[AA];refine AD (Rw (K:=K) (p:=a) (by omega)) rfl ?_;simp(disch:=first|omega|simp only[vl];omega) only[AA,hn];refine Be (fun(x:Nat×List Int×List Int)=>x.1≤B8 a b∧x.2.1.length=a.length∧x.2.2.length=B8 a b∧FD b x.1 x.2=FD b (B8 a b) (a,rep (B8 a b:Nat) 0)) (fun x=>[.u,LI b,.u,.u,.u,LI x.2.1,LI x.2.2,.n ((x.1:Int)-1),.u,.u,.u,.u,.u,.u,.u,.u,.u]) (fun x=>x.1) (B8 a b,a,rep (B8 a b:Nat) 0) ⟨Nat.le_refl _,rfl,by simp[rep],rfl⟩ (by simp[rep]) ?_;rintro⟨i,l,q⟩ ⟨g1,g2,g3,g4⟩;simp only at g1 g2 g3 g4⊢;have hdn:B8 a b=a.length+1-b.length:=rfl
 cases i with
 |zero=>
  have ht:=O0 (p:=l)
  have ht2:=O0 (p:=q)
  simp(disch:=first|omega|simp only[vl];omega) only[AA]
  refine AD (AKM (K:=K) (p:=q) (by omega)) rfl ?_
  simp(disch:=first|omega|simp only[vl];omega) only[AA]
  refine AD (AKM (K:=K) (p:=l) (by omega)) rfl ?_
  simp(disch:=first|omega|simp only[vl];omega) only[AA]
  rw[←g4];rfl
 |succ i=>
  have ei:((i+1:Nat):Int)-1=i:=by omega
  rw[ei]
  simp(disch:=first|omega|simp only[vl];omega) only[AA]
  refine AD (CK (K:=K)) rfl ?_
  cases hr:AV (-1000000000) 1000000000 (AE l ((i:Int)+b.length-1))
  ·simp(disch:=first|omega|simp only[vl];omega) only[AA]
   rw[←g4]
   simp only[FD,hr]
   rfl
  ·simp(disch:=first|omega|simp only[vl];omega) only[AA]
   refine MZ (I1 b (AE l ((i:Int)+b.length-1)) i) (fun _ (o:List Int)=>o.length=a.length) (fun k o=>[.u,LI b,.u,.u,.u,LI o,LI (BM q i (AE l ((i:Int)+b.length-1))),.n i,.n (AE l ((i:Int)+b.length-1)),.u,.u,.u,.u,LI b,.n b.length,.n k,.u]) b.length l g2 rfl (fun k s _ hs=>by rw[Sc,hs]) (fun k o2 hk ho2 _=>?_) (fun o2 ho3 ho2=>?_)
   ·simp(disch:=first|omega|simp only[vl];omega) only[AA,I1]
   ·simp(disch:=first|omega|simp only[vl];omega) only[AA]
    refine⟨(i,o2,BM q i (AE l ((i:Int)+b.length-1))),by omega,⟨by omega,ho2,by rw[Cv,g3],?_⟩,by simp⟩
    rw[←g4]
    simp only[FD,hr,if_true]
    rw[ho3];rfl
theorem dv_i[HA K]{a b:List Int}(h:a.length≤1048576)(h2:b.length≤1048576):
  K 403 [LI a,LI b] (match ID a b with|some x=>[LI x.1,LI x.2,.b true]|none=>[LI [],LI [],.b false]):=by
 refine qb AGD rfl ?_;simp only[AGD];simp(disch:=first|omega|simp only[vl];omega) only[AA];refine AD (AK8 (K:=K) (p:=a) (by omega)) rfl ?_
 cases ha:Hb a
 ·simp(disch:=first|omega|simp only[vl];omega) only[AA];refine AL (fun _=>True) (fun i=>[LI a,LI b,.u,.u,.u,.b false,.u,.u,.u,.u,LI b,.n b.length,.n i,.u,.u,.u]) b.length trivial rfl (fun i hi _=>?_) (fun _=>?_)
  ·simp(disch:=first|omega|simp only[vl];omega) only[AA]
  ·simp(disch:=first|omega|simp only[vl];omega) only[AA,D8];simp[ID,Js,ha]
 ·simp(disch:=first|omega|simp only[vl];omega) only[AA];refine AD (CK (K:=K)) rfl ?_
  cases hl:AV 1 13 b.length
  ·simp(disch:=first|omega|simp only[vl];omega) only[AA];refine AL (fun _=>True) (fun i=>[LI a,LI b,.u,.u,.u,.b false,.u,.u,.u,.u,LI b,.n b.length,.n i,.u,.u,.u]) b.length trivial rfl (fun i hi _=>?_) (fun _=>?_)
   ·simp(disch:=first|omega|simp only[vl];omega) only[AA]
   ·simp(disch:=first|omega|simp only[vl];omega) only[AA,D8];simp[ID,Js,ha,hl]
  ·have hb:=A8.1 hl;by_cases hz:AE b ((b.length:Int)-1)=1
   ·simp(disch:=first|omega|simp only[vl];omega) only[AA,hz];refine Au (fun i (x:Bool)=>(x=true→∀j:Nat,j<i→AV (-1) 1 (AE b j)=true)∧(x=false→b.all (AV (-1) 1)=false)) (fun i x=>[LI a,LI b,.u,.u,.u,.b x,.u,.u,.u,.u,LI b,.n b.length,.n i,.u,.u,.u]) b.length true ⟨fun _=>by simp,by simp⟩ rfl (fun i x hi hP=>?_) (fun x hP=>?_)
    ·simp(disch:=first|omega|simp only[vl];omega) only[AA]
     cases x
     ·simp(disch:=first|omega|simp only[vl];omega) only[AA];exact⟨false,⟨by simp,hP.2⟩,rfl⟩
     ·simp(disch:=first|omega|simp only[vl];omega) only[AA];refine AD (CK (K:=K)) rfl ?_
      cases hr:AV (-1) 1 (AE b i)
      ·simp(disch:=first|omega|simp only[vl];omega) only[AA];exact⟨false,⟨by simp,fun _=>Jf hi hr⟩,rfl⟩
      ·simp(disch:=first|omega|simp only[vl];omega) only[AA];exact⟨true,⟨fun _=>CB (hP.1 rfl) hr,by simp⟩,rfl⟩
    ·cases x
     ·simp(disch:=first|omega|simp only[vl];omega) only[AA,D8];simp[ID,Js,hP.2 rfl]
     ·have hall:=I8 (hP.1 rfl);have hc:Js a b=true:=by simp[Js,ha,hl,hz,hall]
      have kd:=Rl (K:=K) h h2 (by omega);have hlen:=fun y=>Wc (b:=b) (i:=B8 a b) (x:=(a,rep (B8 a b:Nat) 0)) (y:=y);have hdn:B8 a b=a.length+1-b.length:=rfl;simp only[ID,hc,if_true];simp(disch:=first|omega|simp only[vl];omega) only[AA]
      cases hq:FD b (B8 a b) (a,rep (B8 a b:Nat) 0)with
      |none=>
       rw[hq]at kd
       refine AD (kd) rfl ?_
       simp(disch:=first|omega|simp only[vl];omega) only[AA,D8]
       rfl
      |some y=>
       rw[hq]at kd
       obtain⟨e1,e2⟩:=hlen y hq
       simp only[JE]at e1 e2
       have t1:=O0 (p:=y.1)
       have t2:=O0 (p:=y.2)
       have t3:=Pl (p:=y.1) y.1.length
       have t4:=Pl (p:=y.2) y.2.length
       refine AD (kd) rfl ?_
       simp(disch:=first|omega|simp only[vl];omega) only[AA]
       cases p1:Cr (CV y.2)
       ·repeat(first|(refine AD (II (K:=K) (p:=CV y.2) (by omega)) rfl ?_;try simp(disch:=first|omega|simp only[vl];omega) only[AA,p1,D8]))
        all_goals rfl
       ·cases p2:Cr (CV y.1)
        ·repeat(first|(refine AD (II (K:=K) (p:=CV y.2) (by omega)) rfl ?_;try simp(disch:=first|omega|simp only[vl];omega) only[AA,p1,p2,D8])|(refine AD (II (K:=K) (p:=CV y.1) (by omega)) rfl ?_;try simp(disch:=first|omega|simp only[vl];omega) only[AA,p1,p2,D8]))
         all_goals rfl
        ·repeat(first|(refine AD (II (K:=K) (p:=CV y.2) (by omega)) rfl ?_;try simp(disch:=first|omega|simp only[vl];omega) only[AA,p1,p2])|(refine AD (II (K:=K) (p:=CV y.1) (by omega)) rfl ?_;try simp(disch:=first|omega|simp only[vl];omega) only[AA,p1,p2]))
         all_goals rfl
   ·simp(disch:=first|omega|simp only[vl];omega) only[AA];refine AL (fun _=>True) (fun i=>[LI a,LI b,.u,.u,.u,.b false,.u,.u,.u,.u,LI b,.n b.length,.n i,.u,.u,.u]) b.length trivial rfl (fun i hi _=>?_) (fun _=>?_)
    ·simp(disch:=first|omega|simp only[vl];omega) only[AA]
    ·simp(disch:=first|omega|simp only[vl];omega) only[AA,D8];simp[ID,Js,hz]
end Go.Cat
