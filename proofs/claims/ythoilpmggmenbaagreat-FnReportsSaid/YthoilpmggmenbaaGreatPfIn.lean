/-
 Numbers between bounds.
-/
import Derived.Test.YthoilpmggmenbaaGreatCatFour
import Derived.Test.YthoilpmggmenbaaGreatQd0LawReports
import Derived.Test.YthoilpmggmenbaaGreatQd1LawReports
import Derived.Test.YthoilpmggmenbaaGreatQd2LawReports
import Derived.Test.YthoilpmggmenbaaGreatQd3LawReports
set_option linter.unusedSimpArgs false
set_option linter.unusedVariables false
namespace Go.Cat
variable{K:Nat→List D→List D→Prop}
def AV(lo hi x:Int):Bool:=decide (lo≤x)&&decide (x≤hi)
theorem A8{lo hi x:Int}:AV lo hi x=true↔lo≤x∧x≤hi:=by simp[AV]
theorem Nc{lo hi x:Int}:AV lo hi x=false↔¬(lo≤x∧x≤hi):=by simp[AV]
theorem CK[HA K]{x a b:Int}:K 23 [.n x,.n a,.n b] [.b (AV a b x)]:=by refine qb IC rfl ?_;simp only[IC];simp(disch:=omega) only[vc];by_cases h:a≤x<;>simp(disch:=omega) only[vc,h,AV]
theorem Bj[HA K]{x a b:Int}:K 22 [.n x,.n a,.n b] [.b (AV a b x)]:=by refine qb IP rfl ?_;simp only[IP];simp(disch:=omega) only[vc];by_cases h:a≤x<;>simp(disch:=omega) only[vc,h,AV]
end Go.Cat
namespace Go.Cat
variable{K:Nat→List D→List D→Prop}
def AB(w:List Nat)(c:Nat):Nat:=w.count c
theorem Rn{a c:Nat}{w:List Nat}:AB (a::w) c=AB w c+(if a=c then 1 else 0):=by simp only[AB,List.count_cons];congr 1;by_cases h:a=c<;>simp[h]
theorem PM{w:List Nat}{c:Nat}:AB w c≤w.length:=List.count_le_length
def steps(w:List Nat):Bool:=decide (AB w 117+AB w 100=w.length)
def BZ:List Nat→Int→Option Int
 |[],h=>some h
 |c::w,h=>if c=117 then BZ w (h+1)else if c=100 then(if h-1<0 then none else BZ w (h-1))else none
def E9:List Nat→Int→List Int
 |[],_=>[]
 |c::w,h=>if c=117 then(h+1)::E9 w (h+1)else(h-1)::E9 w (h-1)
def AM(w:List Nat):Bool:=decide (BZ w 0=some 0)&&decide (w.length≤16)
def KN(w:List Nat):List Int:=match BZ w 0 with
 |some _=>0::E9 w 0
 |none=>[]
def Ji(w:List Nat):Bool:=decide (BZ w 0=some 0)
theorem AH3[HA K]{w:List Nat}(h:w.length≤1000000000):K 82 [.s w] [LI (KN w),.b (Ji w)]:=by
 refine qb I82 rfl ?_;simp only[I82];simp(disch:=first|omega|simp only[vl];omega) only[AA];refine Au (fun i (x:Int×List Int)=>0≤x.1∧x.1≤i∧x.2.length=i+1∧BZ w 0=BZ (w.drop i) x.1∧(0::E9 w 0:List Int)=x.2++E9 (w.drop i) x.1) (fun i x=>[.s w,.u,.u,LI x.2,.n x.1,.n i,.u,.u,.u,.u,.u]) w.length (0,[0]) ⟨by simp,by simp,by simp,by simp,by simp⟩ rfl (fun i x hi hP=>?_) (fun x hP=>?_)
 ·obtain⟨hh,l⟩:=x;obtain⟨h1,h2,h3,h4,h5⟩:=hP;simp only at h1 h2 h3 h4 h5;rw[Eo hi]at h4 h5;simp only[BZ,E9]at h4 h5;by_cases hu:AK w i=117
  ·rw[if_pos hu]at h4 h5;simp(disch:=first|omega|simp only[vl];omega) only[AA];exact⟨(hh+1,l++[hh+1]),⟨by simp;omega,by simp;omega,by simp;omega,h4,by simp[h5]⟩,rfl⟩
  ·rw[if_neg hu]at h4 h5;by_cases hd:AK w i=100
   ·rw[if_pos hd]at h4;by_cases hn:hh-1<0
    ·rw[if_pos hn]at h4;simp(disch:=first|omega|simp only[vl];omega) only[AA];simp only[KN,Ji,h4];rfl
    ·rw[if_neg hn]at h4;simp(disch:=first|omega|simp only[vl];omega) only[AA];exact⟨(hh-1,l++[hh-1]),⟨by simp;omega,by simp;omega,by simp;omega,h4,by simp[h5]⟩,rfl⟩
   ·rw[if_neg hd]at h4;simp(disch:=first|omega|simp only[vl];omega) only[AA];simp only[KN,Ji,h4];rfl
 ·obtain⟨hh,l⟩:=x;obtain⟨h1,h2,h3,h4,h5⟩:=hP;simp only at h1 h2 h3 h4 h5;rw[List.drop_length]at h4 h5;simp only[BZ,E9,List.append_nil]at h4 h5;simp(disch:=first|omega|simp only[vl];omega) only[AA];simp only[KN,Ji,h4,h5,AI]
theorem Bv[HA K]{w:List Nat}(h:w.length≤1000000000):K 67 [.s w] [.b (AM w)]:=by
 refine qb I67 rfl ?_;simp only[I67];by_cases hl:w.length≤16
 ·simp(disch:=omega) only[AA];repeat(first|(refine AD (AH3 (K:=K) h) rfl ?_;try simp(disch:=omega) only[AA]))
  simp[AM,Ji,hl]
 ·simp(disch:=omega) only[AA];simp[AM,hl]
theorem Bt[HA K]{w:List Nat}(h:w.length≤1000000000):K 64 [.s w] [.b (AM w)]:=by
 refine qb I64 rfl ?_;simp only[I64];simp(disch:=omega) only[AA];refine Au (fun i (x:Int)=>0≤x∧x≤i∧BZ w 0=BZ (w.drop i) x) (fun i x=>[.s w,.u,.n x,.n i,.u,.u,.u,.u,.u]) w.length 0 ⟨by simp,by simp,by simp⟩ rfl (fun i hh hi hP=>?_) (fun hh hP=>?_)
 ·obtain⟨h1,h2,h4⟩:=hP;rw[Eo hi]at h4;simp only[BZ]at h4;by_cases hu:AK w i=117
  ·rw[if_pos hu]at h4;simp(disch:=omega) only[AA];exact⟨hh+1,⟨by omega,by omega,h4⟩,rfl⟩
  ·rw[if_neg hu]at h4;by_cases hd:AK w i=100
   ·rw[if_pos hd]at h4;by_cases hn:hh-1<0
    ·rw[if_pos hn]at h4;simp(disch:=omega) only[AA];simp[AM,h4]
    ·rw[if_neg hn]at h4;simp(disch:=omega) only[AA];exact⟨hh-1,⟨by omega,by omega,h4⟩,rfl⟩
   ·rw[if_neg hd]at h4;simp(disch:=omega) only[AA];simp[AM,h4]
 ·obtain⟨h1,h2,h4⟩:=hP;rw[List.drop_length]at h4;simp only[BZ]at h4;by_cases h0:hh=0
  ·simp(disch:=omega) only[AA];simp only[AM,h4,h0];simp;omega
  ·simp(disch:=omega) only[AA];simp[AM,h4,h0]
end Go.Cat
namespace Go.Cat
variable{K:Nat→List D→List D→Prop}
inductive BT
 |lf
 |nd(l r:BT)
def BT.d:BT→D
 |.lf=>.z
 |.nd l r=>.p [l.d,r.d]
def BT.t:BT→List Nat
 |.lf=>[46]
 |.nd l r=>40::(l.t++(r.t++[41]))
def BT.n:BT→Nat
 |.lf=>0
 |.nd l r=>l.n+r.n+1
theorem BT.tl:∀x:BT,x.t.length=3*x.n+1
 |.lf=>rfl
 |.nd l r=>by
  have:=BT.tl l
  have:=BT.tl r
  simp only[BT.t,BT.n,AY,A7,Ap];omega
theorem BT.DZ{x:BT}:known x.d=some x.d:=by cases x<;>rfl
theorem BT.Q4{x:BT}:x.d.one=true:=by cases x<;>rfl
theorem BT.pre:∀{x y:BT}{a b:List Nat},x.t++a=y.t++b→x=y∧a=b
 |.lf,.lf,a,b,h=>by simpa[BT.t]using h
 |.lf,.nd _ _,a,b,h=>by simp[BT.t]at h
 |.nd _ _,.lf,a,b,h=>by simp[BT.t]at h
 |.nd l r,.nd l' r',a,b,h=>by
  simp only[BT.t,List.cons_append,CI,List.cons.injEq,true_and]at h
  obtain⟨h1,h2⟩:=BT.pre h
  obtain⟨h3,h4⟩:=BT.pre h2
  subst h1;subst h3
  simpa using h4
theorem BT.inj{x y:BT}(h:x.t=y.t):x=y:=(BT.pre (a:=[]) (b:=[]) (by rw[h])).1
theorem K4{s:List Nat}{i:Nat}{c:Nat}{r:List Nat}(h:s.drop i=c::r):i<s.length∧AK s i=c∧s.drop (i+1)=r:=by
 have hi:i<s.length:=by
  rcases Bh i s.length with q|q
  ·exact q
  ·rw[List.drop_of_length_le q]at h;cases h
 rw[Eo hi]at h;injection h with h1 h2;exact⟨hi,h1,h2⟩
theorem Ij{s a b:List Nat}{i:Nat}(h:s.drop i=a++b):s.drop (i+a.length)=b:=by rw[←List.drop_drop,h];simp
theorem Ks[HA K]{s:List Nat}(hl:s.length≤1000000000):∀(x:BT)(i:Nat)(r:List Nat),s.drop i=x.t++r→K 208 [.s s,.n i] [x.d,.n (i+x.t.length)]
 |.lf,i,r,h=>by
  obtain⟨hi,hc,_⟩:=K4 (c:=46) (r:=r) (by simpa[BT.t]using h)
  refine qb IX rfl ?_;simp only[IX]
  simp(disch:=omega) only[AA,hc]
  simp[BT.d,BT.t]
 |.nd a b,i,r,h=>by
  simp only[BT.t,List.cons_append,CI]at h
  obtain⟨hi,hc,h1⟩:=K4 h
  have h2:=Ij h1
  have h3:=Ij h2
  obtain⟨h4,h5,h6⟩:=K4 (c:=41) (r:=r) (by simpa using h3)
  have k1:=Ks hl a (i+1) _ h1
  have k2:=Ks hl b (i+1+a.t.length) _ h2
  have e1:((i+1:Nat):Int)=(i:Int)+1:=by omega
  have e2:((i+1+a.t.length:Nat):Int)=(i:Int)+1+a.t.length:=by omega
  rw[e1]at k1
  rw[e2]at k2
  have e3:AK s ((i:Int)+1+a.t.length+b.t.length)=41:=by rw[←h5];congr 1
  refine qb IX rfl ?_;simp only[IX]
  simp(disch:=omega) only[AA,hc]
  refine AD (k1) rfl ?_
  simp(disch:=omega) only[AA]
  refine AD (k2) rfl ?_
  simp(disch:=omega) only[AA,e3,BT.Q4]
  simp only[BT.d,BT.t,AY,A7,Ap]
  exact D2 rfl (congrArg D.n (by omega))
def Hx(s:List Nat)(i:Nat):Prop:=∀(x:BT)(r:List Nat),s.drop i≠x.t++r
theorem AVM[HA K]{s:List Nat}(hl:s.length≤1000000000):∀(n i:Nat),s.length-i≤n→Hx s i→K 208 [.s s,.n i] [.z,.n (-1)]:=by
 intro n;induction n with
 |zero=>
  intro i hi _
  refine qb IX rfl ?_;simp only[IX]
  have:s.length≤i:=by omega
  simp(disch:=omega) only[AA]
 |succ n ih=>
  intro i hi hno
  refine qb IX rfl ?_;simp only[IX]
  by_cases h0:i<s.length
  ·by_cases h46:AK s i=46
   ·exact absurd (Eo h0) (by rw[h46];exact hno .lf _)
   ·by_cases h40:AK s i=40
    ·have e1:((i+1:Nat):Int)=(i:Int)+1:=by omega
     have hd:s.drop i=40::s.drop (i+1):=by rw[Eo h0,h40]
     by_cases ha:Hx s (i+1)
     ·have k1:=ih (i+1) (by omega) ha
      rw[e1]at k1
      simp(disch:=omega) only[AA,h40]
      refine AD (k1) rfl ?_
      simp(disch:=omega) only[AA]
     ·obtain⟨a,r1,ha⟩:∃(a:BT)(r:List Nat),s.drop (i+1)=a.t++r:=by
       refine Classical.byContradiction fun q=>ha fun x r e=>q ⟨x,r,e⟩
      have k1:=Ks (K:=K) hl a (i+1) _ ha
      rw[e1]at k1
      have h2:=Ij ha
      have e2:((i+1+a.t.length:Nat):Int)=(i:Int)+1+a.t.length:=by omega
      have hlen:=congrArg List.length ha
      simp only[List.length_drop,A7]at hlen
      by_cases hb:Hx s (i+1+a.t.length)
      ·have k2:=ih (i+1+a.t.length) (by omega) hb
       rw[e2]at k2
       simp(disch:=omega) only[AA,h40]
       refine AD (k1) rfl ?_
       simp(disch:=omega) only[AA]
       refine AD (k2) rfl ?_
       simp(disch:=omega) only[AA]
      ·obtain⟨b,r2,hb⟩:∃(b:BT)(r:List Nat),s.drop (i+1+a.t.length)=b.t++r:=by
        refine Classical.byContradiction fun q=>hb fun x r e=>q ⟨x,r,e⟩
       have k2:=Ks (K:=K) hl b (i+1+a.t.length) _ hb
       rw[e2]at k2
       have h3:=Ij hb
       have hlen2:=congrArg List.length hb
       simp only[List.length_drop,A7]at hlen2
       by_cases h4:i+1+a.t.length+b.t.length<s.length
       ·have h5:AK s ((i:Int)+1+a.t.length+b.t.length)≠41:=by
         intro q
         have e3:AK s ((i+1+a.t.length+b.t.length:Nat):Int)=41:=by rw[←q];congr 1
         rw[Eo h4,e3]at h3
         refine hno (.nd a b) (s.drop (i+1+a.t.length+b.t.length+1)) ?_
         rw[hd,ha,←h2,hb,←h3]
         simp[BT.t]
        simp(disch:=omega) only[AA,h40]
        refine AD (k1) rfl ?_
        simp(disch:=omega) only[AA]
        refine AD (k2) rfl ?_
        simp(disch:=omega) only[AA]
       ·simp(disch:=omega) only[AA,h40]
        refine AD (k1) rfl ?_
        simp(disch:=omega) only[AA]
        refine AD (k2) rfl ?_
        simp(disch:=omega) only[AA]
    ·simp(disch:=omega) only[AA]
  ·simp(disch:=omega) only[AA]
theorem Jg[HA K]{s:List Nat}(hl:s.length≤1000000000):∀(x:BT)(i:Nat)(r:List Nat),s.drop i=x.t++r→K 188 [.s s,.n i] [.n (i+x.t.length)]
 |.lf,i,r,h=>by
  obtain⟨hi,hc,_⟩:=K4 (c:=46) (r:=r) (by simpa[BT.t]using h)
  refine qb Iw rfl ?_;simp only[Iw]
  simp(disch:=omega) only[AA,hc]
  simp[BT.t]
 |.nd a b,i,r,h=>by
  simp only[BT.t,List.cons_append,CI]at h
  obtain⟨hi,hc,h1⟩:=K4 h
  have h2:=Ij h1
  have h3:=Ij h2
  obtain⟨h4,h5,h6⟩:=K4 (c:=41) (r:=r) (by simpa using h3)
  have k1:=Jg hl a (i+1) _ h1
  have k2:=Jg hl b (i+1+a.t.length) _ h2
  have e1:((i+1:Nat):Int)=(i:Int)+1:=by omega
  have e2:((i+1+a.t.length:Nat):Int)=(i:Int)+1+a.t.length:=by omega
  rw[e1]at k1
  rw[e2]at k2
  have e3:AK s ((i:Int)+1+a.t.length+b.t.length)=41:=by rw[←h5];congr 1
  refine qb Iw rfl ?_;simp only[Iw]
  simp(disch:=omega) only[AA,hc]
  refine AD (k1) rfl ?_
  simp(disch:=omega) only[AA]
  refine AD (k2) rfl ?_
  simp(disch:=omega) only[AA,e3]
  simp only[BT.t,AY,A7,Ap]
  exact Dn (by omega)
theorem AY0[HA K]{s:List Nat}(hl:s.length≤1000000000):∀(n i:Nat),s.length-i≤n→Hx s i→K 188 [.s s,.n i] [.n (-1)]:=by
 intro n;induction n with
 |zero=>
  intro i hi _
  refine qb Iw rfl ?_;simp only[Iw]
  have:s.length≤i:=by omega
  simp(disch:=omega) only[AA]
 |succ n ih=>
  intro i hi hno
  refine qb Iw rfl ?_;simp only[Iw]
  by_cases h0:i<s.length
  ·by_cases h46:AK s i=46
   ·exact absurd (Eo h0) (by rw[h46];exact hno .lf _)
   ·by_cases h40:AK s i=40
    ·have e1:((i+1:Nat):Int)=(i:Int)+1:=by omega
     have hd:s.drop i=40::s.drop (i+1):=by rw[Eo h0,h40]
     by_cases ha:Hx s (i+1)
     ·have k1:=ih (i+1) (by omega) ha
      rw[e1]at k1
      simp(disch:=omega) only[AA,h40]
      refine AD (k1) rfl ?_
      simp(disch:=omega) only[AA]
     ·obtain⟨a,r1,ha⟩:∃(a:BT)(r:List Nat),s.drop (i+1)=a.t++r:=by
       refine Classical.byContradiction fun q=>ha fun x r e=>q ⟨x,r,e⟩
      have k1:=Jg (K:=K) hl a (i+1) _ ha
      rw[e1]at k1
      have h2:=Ij ha
      have e2:((i+1+a.t.length:Nat):Int)=(i:Int)+1+a.t.length:=by omega
      have hlen:=congrArg List.length ha
      simp only[List.length_drop,A7]at hlen
      by_cases hb:Hx s (i+1+a.t.length)
      ·have k2:=ih (i+1+a.t.length) (by omega) hb
       rw[e2]at k2
       simp(disch:=omega) only[AA,h40]
       refine AD (k1) rfl ?_
       simp(disch:=omega) only[AA]
       refine AD (k2) rfl ?_
       simp(disch:=omega) only[AA]
      ·obtain⟨b,r2,hb⟩:∃(b:BT)(r:List Nat),s.drop (i+1+a.t.length)=b.t++r:=by
        refine Classical.byContradiction fun q=>hb fun x r e=>q ⟨x,r,e⟩
       have k2:=Jg (K:=K) hl b (i+1+a.t.length) _ hb
       rw[e2]at k2
       have h3:=Ij hb
       have hlen2:=congrArg List.length hb
       simp only[List.length_drop,A7]at hlen2
       by_cases h4:i+1+a.t.length+b.t.length<s.length
       ·have h5:AK s ((i:Int)+1+a.t.length+b.t.length)≠41:=by
         intro q
         have e3:AK s ((i+1+a.t.length+b.t.length:Nat):Int)=41:=by rw[←q];congr 1
         rw[Eo h4,e3]at h3
         refine hno (.nd a b) (s.drop (i+1+a.t.length+b.t.length+1)) ?_
         rw[hd,ha,←h2,hb,←h3]
         simp[BT.t]
        simp(disch:=omega) only[AA,h40]
        refine AD (k1) rfl ?_
        simp(disch:=omega) only[AA]
        refine AD (k2) rfl ?_
        simp(disch:=omega) only[AA]
       ·simp(disch:=omega) only[AA,h40]
        refine AD (k1) rfl ?_
        simp(disch:=omega) only[AA]
        refine AD (k2) rfl ?_
        simp(disch:=omega) only[AA]
    ·simp(disch:=omega) only[AA]
  ·simp(disch:=omega) only[AA]
theorem JU:(false==true)=false:=rfl
theorem Ie[HA K]:∀(x:BT),x.n≤1000000→K 197 [x.d] [.n x.n]
 |.lf,_=>by
  refine qb Q3 rfl ?_;simp only[Q3]
  simp only[BT.d,BT.n]
  simp(disch:=omega) only[AA]
 |.nd l r,h=>by
  simp only[BT.n]at h
  have k1:=Ie l (by omega)
  have k2:=Ie r (by omega)
  refine qb Q3 rfl ?_;simp only[Q3]
  simp only[BT.d,BT.n]
  simp(disch:=omega) only[AA,BT.DZ,JU]
  refine AD (k1) rfl ?_
  simp(disch:=omega) only[AA,BT.DZ]
  refine AD (k2) rfl ?_
  simp(disch:=omega) only[AA]
  exact Dn (by omega)
def isT(s:List Nat):Prop:=s.length≤25∧∃x:BT,s=x.t
open Classical in
noncomputable def Ct(s:List Nat):Bool:=decide (isT s)
theorem F7{x:BT}(h:x.n≤8):Ct x.t=true:=by have:=BT.tl x;simp only[Ct,Aj];exact⟨by omega,x,rfl⟩
theorem JM{s:List Nat}(h:Ct s=true):∃x:BT,s=x.t∧x.n≤8:=by
 have h:isT s:=by simp only[Ct,Aj]at h;exact h
 obtain⟨h1,x,rfl⟩:=h;have:=BT.tl x;exact⟨x,rfl,by omega⟩
theorem Vq{s:List Nat}(h:Ct s=false):¬isT s:=by simp only[Ct,decide_eq_false_iff_not]at h;exact h
theorem KW[HA K]{x:BT}(h:x.n≤8):K 194 [.s x.t] [x.d,.b true]:=by
 have hl:=BT.tl x;have k1:=Ks (K:=K) (s:=x.t) (by omega) x 0 [] (by simp);have e0:((0:Nat):Int)+(x.t.length:Int)=x.t.length:=by omega
 rw[e0]at k1;refine qb Oa rfl ?_;simp only[Oa];simp(disch:=omega) only[AA];refine AD (k1) rfl ?_;simp(disch:=omega) only[AA,BT.DZ];refine AD (Ie (K:=K) x (by omega)) rfl ?_;simp(disch:=omega) only[AA]
theorem SE[HA K]{s:List Nat}(h:Ct s=false):K 194 [.s s] [.z,.b false]:=by
 have hn:=Vq h;refine qb Oa rfl ?_;simp only[Oa];by_cases hl:25<s.length
 ·simp(disch:=omega) only[AA]
 ·by_cases hno:Hx s 0
  ·have k1:=AVM (K:=K) (s:=s) (by omega) s.length 0 (by omega) hno;simp(disch:=omega) only[AA];refine AD (k1) rfl ?_;simp(disch:=omega) only[AA]
  ·obtain⟨x,r,ha⟩:∃(x:BT)(r:List Nat),s.drop 0=x.t++r:=Classical.byContradiction fun q=>hno fun x r e=>q ⟨x,r,e⟩;have k1:=Ks (K:=K) (s:=s) (by omega) x 0 r ha;have e0:((0:Nat):Int)+(x.t.length:Int)=x.t.length:=by omega
   rw[e0]at k1;rw[List.drop_zero]at ha;have hlen:=congrArg List.length ha;rw[A7]at hlen;have hr:r.length≠0:=by intro q;have:r=[]:=Dt q;subst this;exact hn ⟨by omega,x,by simpa using ha⟩
   have hx:=BT.tl x;simp(disch:=omega) only[AA];refine AD (k1) rfl ?_;simp(disch:=omega) only[AA]
theorem Ph[HA K]{s:List Nat}:K 167 [.s s] [.b (Ct s)]:=by
 refine qb ALI rfl ?_;simp only[ALI];simp(disch:=omega) only[AA]
 cases h:Ct s
 ·refine AD (SE (K:=K) h) rfl ?_;simp(disch:=omega) only[AA]
 ·obtain⟨x,rfl,hx⟩:=JM h;refine AD (KW (K:=K) hx) rfl ?_;simp(disch:=omega) only[AA]
theorem F8[HA K]{s:List Nat}:K 160 [.s s] [.b (Ct s)]:=by
 refine qb AGH rfl ?_;simp only[AGH]
 cases h:Ct s
 ·have hn:=Vq h;by_cases hl:25<s.length
  ·simp(disch:=omega) only[AA]
  ·by_cases hno:Hx s 0
   ·have k1:=AY0 (K:=K) (s:=s) (by omega) s.length 0 (by omega) hno;simp(disch:=omega) only[AA];refine AD (k1) rfl ?_;simp(disch:=omega) only[AA]
   ·obtain⟨x,r,ha⟩:∃(x:BT)(r:List Nat),s.drop 0=x.t++r:=Classical.byContradiction fun q=>hno fun x r e=>q ⟨x,r,e⟩;have k1:=Jg (K:=K) (s:=s) (by omega) x 0 r ha;have e0:((0:Nat):Int)+(x.t.length:Int)=x.t.length:=by omega
    rw[e0]at k1;rw[List.drop_zero]at ha;have hlen:=congrArg List.length ha;rw[A7]at hlen;have hr:r.length≠0:=by intro q;have:r=[]:=Dt q;subst this;exact hn ⟨by omega,x,by simpa using ha⟩
    simp(disch:=omega) only[AA];refine AD (k1) rfl ?_;simp(disch:=omega) only[AA]
 ·obtain⟨x,rfl,hx⟩:=JM h;have hl:=BT.tl x;have k1:=Jg (K:=K) (s:=x.t) (by omega) x 0 [] (by simp);have e0:((0:Nat):Int)+(x.t.length:Int)=x.t.length:=by omega
  rw[e0]at k1;have e1:(x.t==[])=false:=beq_eq_false_iff_ne.2 fun q=>by rw[q]at hl;simp at hl
  simp(disch:=omega) only[AA];refine AD (k1) rfl ?_;simp(disch:=omega) only[AA,e1]
end Go.Cat
