/-
 Sorting of rows: insertion, as the library does it for short lists.
-/
import Derived.Test.YthoilpmggmenbaaGreatPfIn
import Derived.Test.YthoilpmggmenbaaGreatQd0LawReports
import Derived.Test.YthoilpmggmenbaaGreatQd1LawReports
import Derived.Test.YthoilpmggmenbaaGreatQd2LawReports
import Derived.Test.YthoilpmggmenbaaGreatQd3LawReports
import Derived.Test.YthoilpmggmenbaaGreatPfStat
import Derived.Test.YthoilpmggmenbaaGreatPfFmt
set_option linter.unusedSimpArgs false
set_option linter.unusedVariables false
namespace Go.Cat
variable{K:Nat→List D→List D→Prop}
def B9(x y:List Int):Bool:=decide (AE x 0<AE y 0)||(decide (AE x 0=AE y 0)&&decide (AE x 1<AE y 1))
def CT(x:List Int):Prop:=x.length=2
theorem OX{x:List Int}(h:CT x):x=[AE x 0,AE x 1]:=by
 obtain⟨a,b,rfl⟩:∃a b,x=[a,b]:=by
  match x,h with
  |[a,b],_=>exact⟨a,b,rfl⟩
 rfl
theorem WQ{x y z:List Int}(h1:B9 x z=false)(h2:B9 y z=true):B9 y x=true:=by simp only[B9,Bool.or_eq_true,AX,Aj,Bool.or_eq_false_iff,Bool.and_eq_false_iff,decide_eq_false_iff_not]at*;omega
theorem SH{x y:List Int}(h:B9 x y=true):B9 y x=false:=by simp only[B9,Bool.or_eq_true,AX,Aj,Bool.or_eq_false_iff,Bool.and_eq_false_iff,decide_eq_false_iff_not]at*;omega
theorem ABA{x y:List Int}(hx:CT x)(hy:CT y)(h1:B9 x y=false)(h2:B9 y x=false):x=y:=by
 simp only[B9,Bool.or_eq_false_iff,Bool.and_eq_false_iff,decide_eq_false_iff_not]at*;have a:AE x 0=AE y 0:=by omega
 have b:AE x 1=AE y 1:=by omega
 rw[OX hx,OX hy,a,b]
def BY(x:List Int):List (List Int)→List (List Int)
 |[]=>[x]
 |y::t=>if B9 x y=true then y::BY x t else x::y::t
theorem Ug{x:List Int}:∀t,(BY x t).length=t.length+1
 |[]=>rfl
 |y::t=>by
  unfold BY
  split
  ·simp[Ug t]
  ·rfl
theorem OL{x z:List Int}:∀{t},z∈BY x t↔z=x∨z∈t
 |[]=>by simp[BY]
 |y::t=>by
  unfold BY
  split
  ·simp only[Aa,OL (t:=t)]
   constructor<;>rintro(h|h|h)<;>simp[h]
  ·simp
theorem AHM{x y:List Int}(hx:CT x)(hy:CT y):∀t,BY x (BY y t)=BY y (BY x t)
 |[]=>by
  simp only[BY]
  cases h1:B9 x y
  ·cases h2:B9 y x
   ·rw[ABA hx hy h1 h2]
   ·simp
  ·simp[SH h1]
 |z::t=>by
  have ih:=AHM hx hy t
  simp only[BY]
  cases h1:B9 y z<;>cases h2:B9 x z
  ·simp only[HF,if_false,BY,h1,h2]
   cases h3:B9 x y
   ·cases h4:B9 y x
    ·rw[ABA hx hy h3 h4]
    ·simp
   ·simp[SH h3]
  ·have:=WQ h1 h2
   simp[BY,h1,h2,this]
  ·have:=WQ h2 h1
   simp[BY,h1,h2,this]
  ·simp[BY,h1,h2,ih]
def Hj(d:List (List Int)):List (List Int):=d.foldl (fun t x=>BY x t) []
def DN(d:List (List Int)):List (List Int):=(Hj d).reverse
theorem ASY{d e:List (List Int)}(h:d.Perm e)(h2:∀x∈d,CT x):Hj d=Hj e:=
 List.Perm.foldl_eq' h (fun x hx y hy z=>(AHM (h2 x hx) (h2 y hy) z).symm) []
theorem ARS{d e:List (List Int)}(h:d.Perm e)(h2:∀x∈d,CT x):DN d=DN e:=by rw[DN,DN,ASY h h2]
theorem Qe:∀(d t:List (List Int)),(d.foldl (fun t x=>BY x t) t).length=t.length+d.length
 |[],t=>rfl
 |x::d,t=>by
  rw[List.foldl_cons,Qe d,Ug,AY];omega
theorem ATK{d:List (List Int)}:(Hj d).length=d.length:=by rw[Hj,Qe];simp
theorem AAB{d:List (List Int)}:(DN d).length=d.length:=by rw[DN,List.length_reverse,ATK]
theorem PC{z:List Int}:∀{d t:List (List Int)},z∈d.foldl (fun t x=>BY x t) t↔z∈d∨z∈t
 |[],t=>by simp
 |x::d,t=>by
  rw[List.foldl_cons,PC (d:=d),OL,Aa]
  constructor
  ·rintro(h|h|h)
   ·exact .inl (.inr h)
   ·exact .inl (.inl h)
   ·exact .inr h
  ·rintro((h|h)|h)
   ·exact .inr (.inl h)
   ·exact .inl h
   ·exact .inr (.inr h)
theorem Ps{z:List Int}{d:List (List Int)}:z∈DN d↔z∈d:=by rw[DN,List.mem_reverse,Hj,PC];simp
theorem AF1[HA K]{x:Int}:K 211 [.n x] [.b false]:=by refine qb AM6 rfl ?_;simp only[AM6];simp(disch:=omega) only[AA]
theorem AX7[HA K]{x y:Int}:K 377 [.n x,.n y] [.n (if x<y then -1 else if y<x then 1 else 0)]:=by
 refine qb Xq rfl ?_;simp only[Xq];simp(disch:=omega) only[AA];refine AD (AF1 (K:=K)) rfl ?_;simp(disch:=omega) only[AA];refine AD (AF1 (K:=K)) rfl ?_;by_cases h:x<y
 ·simp(disch:=omega) only[AA];rw[if_pos h]
 ·by_cases h2:y<x
  ·simp(disch:=omega) only[AA];rw[if_neg h,if_pos h2]
  ·simp(disch:=omega) only[AA];rw[if_neg h,if_neg h2]
def Iq(x y:List Int):Int:=if B9 x y=true then -1 else if B9 y x=true then 1 else 0
theorem Wm{x y:List Int}:decide (Iq x y<0)=B9 x y:=by
 unfold Iq
 cases B9 x y
 ·cases B9 y x<;>rfl
 ·rfl
theorem Xp[HA K]{x y:List Int}(hx:CT x)(hy:CT y):K 364 [LI x,LI y] [.n (Iq x y)]:=by
 have lx:x.length=2:=hx;have ly:y.length=2:=hy;refine qb AKG rfl ?_;simp only[AKG];simp(disch:=omega) only[AA];refine AL (fun i=>∀j:Nat,j<i→AE x j=AE y j) (fun i=>[LI x,LI y,.u,.u,.u,.u,.u,LI x,.n x.length,.n i,.u,.u,.u,.u]) 2 (by simp) rfl (fun i hi hP=>?_) (fun hP=>?_)
 ·simp(disch:=omega) only[AA];refine AD (AX7 (K:=K)) rfl ?_;have hi2:i=0∨i=1:=by omega
  have h0:i=1→AE x 0=AE y 0:=fun q=>hP 0 (by omega);by_cases h1:AE x i<AE y i
  ·rw[if_pos h1];simp(disch:=omega) only[AA];have e:B9 x y=true:=by
    rcases hi2 with q|q
    ·subst q;have h1:AE x 0<AE y 0:=h1;simp[B9,h1]
    ·have:=h0 q;subst q;have h1:AE x 1<AE y 1:=h1;simp[B9,h1,this]
   simp[Iq,e]
  ·rw[if_neg h1];by_cases h2:AE y i<AE x i
   ·rw[if_pos h2];simp(disch:=omega) only[AA];have e:B9 y x=true:=by
     rcases hi2 with q|q
     ·subst q;have h2:AE y 0<AE x 0:=h2;simp[B9,h2]
     ·have:=h0 q;subst q;have h2:AE y 1<AE x 1:=h2;simp[B9,h2,this]
    simp[Iq,e,SH e]
   ·rw[if_neg h2];simp(disch:=omega) only[AA];exact CB hP (by omega)
 ·have a:AE x 0=AE y 0:=hP 0 (by omega);have b:AE x 1=AE y 1:=hP 1 (by omega);simp(disch:=omega) only[AA];simp[Iq,B9,a,b]
theorem wrap_u64{x:Int}(h:0≤x∧x≤1000000):IntKind.u64.wrap x=x:=by have e:x%18446744073709551616=x:=Int.emod_eq_of_lt h.1 (by omega);simp[IntKind.wrap,IntKind.bits,IntKind.signed,e]
def U7(o:Option (List D)):Bool:=match o with
 |some [.i .i64 _]=>true
 |_=>false
theorem ATX{o:Option (List D)}(h:U7 o=true):∃v:Int,o=some [.n v]:=by
 unfold U7 at h;split at h
 ·exact⟨_,rfl⟩
 ·cases h
abbrev AP5:List (Nat×IF):=[(391,I391.v)]
theorem len0:BO 13 (fun n=>U7 (Dm (Dr AP5) 60 8 391 [.i .u64 (n:Nat)]))=true:=by kernel_rfl
theorem AUF[HA K]{n:Nat}(h:n≤12):∃v:Int,K 391 [.i .u64 (n:Nat)] [.n v]:=by obtain⟨v,hv⟩:=ATX (BQ len0 n (by omega));exact⟨v,run AP5 60 8 391 hv⟩
theorem AQ8[HA K]{n:Nat}(h:n≤12):∃v:Int,K 376 [.i .u64 (n:Nat)] [.n v]:=by obtain⟨v,hv⟩:=AUF (K:=K) h;refine⟨v,?_⟩;refine qb ZY rfl ?_;simp only[ZY];simp(disch:=omega) only[AA];refine AD (hv) rfl ?_;simp(disch:=omega) only[AA]
theorem Vn{a b:List (List Int)}{x:List Int}:AG (a++x::b) a.length=x:=by simp[AG]
theorem AI8{a b:List (List Int)}{x y:List Int}:DV (a++x::b) a.length y=a++y::b:=by simp[DV]
theorem Ad6[HA K]{d:List (List Int)}(hl:d.length≤12)(hr:∀x∈d,CT x):K 382 [LL d,.n 0,.n d.length,.f 364 []] [LL (DN d)]:=by
 have hlen:∀i,((d.take i).foldl (fun t x=>BY x t) []).length=min i d.length:=fun i=>by rw[Qe];simp
 have hmem:∀i,∀x∈(d.take i).foldl (fun t x=>BY x t) [],CT x:=fun i x hx=>by
  rcases PC.1 hx with q|q
  ·exact hr x (List.mem_of_mem_take q)
  ·cases q
 refine qb AN1 rfl ?_;simp only[AN1];simp(disch:=omega) only[AA];refine Be (fun(i:Nat)=>i≤d.length∨i=1) (fun i=>[LL (((d.take i).foldl (fun t x=>BY x t) []).reverse++d.drop i),.n 0,.n d.length,.f 364 [],.n i,.u,.u,.u]) (fun i=>d.length-i) 1 (.inr rfl) ?_ ?_
 ·cases d with
  |nil=>rfl
  |cons x d=>simp[BY]
 ·intro i hi;by_cases hlt:i<d.length
  ·have hs:((d.take (i+1)).foldl (fun t x=>BY x t) [])=BY (d[i]) ((d.take i).foldl (fun t x=>BY x t) []):=by
    rw[CU hlt,List.foldl_append];rfl
   have hd:=List.drop_eq_getElem_cons hlt
   have hl1:=hlen i
   have hm1:=hmem i
   have hx:CT (d[i]):=hr _ (List.getElem_mem hlt)
   rw[hd]
   generalize d[i]=x at hs hx hd⊢
   obtain⟨post,hpost⟩:∃post,post=d.drop (i+1):=⟨_,rfl⟩
   rw[←hpost]at hd⊢
   have hpl:i+1+post.length=d.length:=by
    have:=congrArg List.length hd
    simp only[List.length_drop,AY]at this;omega
   rw[show min i d.length=i by omega]at hl1
   generalize hT:(d.take i).foldl (fun t x=>BY x t) []=T at hs hl1 hm1
   simp(disch:=omega) only[AA]
   refine Be (fun(y:Nat×List (List Int)×List (List Int))=>y.1=y.2.1.length∧(∀z∈y.2.1,CT z)∧y.2.1.length+1+y.2.2.length=d.length∧(BY x y.2.1).reverse++y.2.2=(BY x T).reverse++post) (fun y=>[LL (y.2.1.reverse++x::y.2.2),.n 0,.n d.length,.f 364 [],.n i,.n y.1,.u,.u]) (fun y=>y.1) (i,T,post) ⟨hl1.symm,hm1,by simp only;omega,rfl⟩ rfl ?_
   rintro⟨j,t,po⟩ ⟨g1,g2,g3,g4⟩
   simp only at g1 g2 g3 g4⊢
   subst g1
   have hll:(t.reverse++x::po).length=d.length:=by simp;omega
   cases t with
   |nil=>
    simp only[Ap,List.reverse_nil,List.nil_append]at g3 hll g4⊢
    simp(disch:=omega) only[AA]
    refine⟨i+1,by omega,.inl (by omega),?_⟩
    rw[hs,←hpost,←g4]
    have hw:IntKind.i64.wrap ((i:Int)+1)=(i:Int)+1:=wrap_i64 (by omega)
    simp only[hw,Ux,Uh,R7,Vh,RV,BY]
    simp
   |cons y t=>
    have e0:((y::t).reverse++x::po)=t.reverse++y::x::po:=by simp
    have ea:AG (t.reverse++y::x::po) t.length=y:=by
     have:=Vn (a:=t.reverse) (b:=x::po) (x:=y)
     rwa [List.length_reverse]at this
    have eb:AG (t.reverse++y::x::po) ((t.length:Int)+1)=x:=by
     have:=Vn (a:=t.reverse++[y]) (b:=po) (x:=x)
     simp only[A7,List.length_reverse,AY,Ap,CI,List.singleton_append]at this
     exact this
    have ec:DV (t.reverse++y::x::po) ((t.length:Int)+1) y=t.reverse++y::y::po:=by
     have:=AI8 (a:=t.reverse++[y]) (b:=po) (x:=x) (y:=y)
     simp only[A7,List.length_reverse,AY,Ap,CI,List.singleton_append]at this
     exact this
    have ed:DV (t.reverse++y::y::po) t.length x=t.reverse++x::y::po:=by
     have:=AI8 (a:=t.reverse) (b:=y::po) (x:=y) (y:=x)
     rwa [List.length_reverse]at this
    have hll1:(t.reverse++y::x::po).length=d.length:=by rw[←e0];exact hll
    have hll2:(t.reverse++y::y::po).length=d.length:=by rw[←hll1];simp
    simp only[AY]at g3⊢
    rw[e0]
    have ky:K 364 [LI x,LI y] [.n (Iq x y)]:=Xp hx (g2 y (by simp))
    simp(disch:=omega) only[AA,CA,ea,eb]
    refine AD (ky) rfl ?_
    simp(disch:=omega) only[AA,Wm]
    cases hc:B9 x y
    ·simp(disch:=omega) only[AA]
     refine⟨i+1,by omega,.inl (by omega),?_⟩
     rw[hs]
     rw[BY,hc]at g4
     simp only[HF,if_false,List.reverse_cons,CI,List.singleton_append]at g4
     rw[←hpost,←g4]
     simp
    ·simp(disch:=omega) only[AA,CA,ea,eb,ec,ed]
     refine⟨(t.length,t,y::po),by simp only;omega,⟨rfl,fun z hz=>g2 z (by simp[hz]),by simp only[AY];omega,?_⟩,by simp⟩
     rw[BY,if_pos hc]at g4
     simpa using g4
  ·simp(disch:=omega) only[AA];have e1:d.take i=d:=List.take_of_length_le (by omega);have e2:d.drop i=[]:=List.drop_of_length_le (by omega);rw[e1,e2,List.append_nil];rfl
theorem AZX[HA K]{d:List (List Int)}{v:Int}(hl:d.length≤12)(hr:∀x∈d,CT x):K 375 [LL d,.n 0,.n d.length,.n v,.f 364 []] [LL (DN d)]:=by refine qb AKU rfl ?_;simp only[AKU];simp(disch:=omega) only[AA];refine Be (fun(_:Unit)=>True) (fun _=>[LL d,.n 0,.n d.length,.n v,.f 364 [],.b true,.b true,.u,.u,.u,.u,.u,.u,.u,.u,.u,.u,.u,.u,.u,.u,.u,.u,.u]) (fun _=>0) () trivial rfl (fun _ _=>?_);simp(disch:=omega) only[AA];refine AD (Ad6 (K:=K) hl hr) rfl ?_;simp(disch:=omega) only[AA]
theorem Vs[HA K]{d:List (List Int)}(hl:d.length≤12)(hr:∀x∈d,CT x):K 363 [LL d,.f 364 []] [LL (DN d)]:=by obtain⟨v,hv⟩:=AQ8 (K:=K) (n:=d.length) hl;refine qb ACG rfl ?_;simp only[ACG];simp(disch:=omega) only[AA,wrap_u64];refine AD (hv) rfl ?_;simp(disch:=omega) only[AA];refine AD (AZX (K:=K) (v:=v) hl hr) rfl ?_;simp(disch:=omega) only[AA]
end Go.Cat
namespace Go.Cat
variable{K:Nat→List D→List D→Prop}
def BT.EX:BT→Bool
 |.lf=>true
 |.nd _ _=>false
theorem BT.nz{x:BT}:KI x.d=some x.EX:=by cases x<;>rfl
theorem BT.ASD{x:BT}:x.EX=decide (x.n=0):=by cases x<;>simp[BT.EX,BT.n]
theorem BT.isLf_t{x:BT}(h:x.EX=true):x=.lf:=by cases x<;>simp[BT.EX]at h⊢
def Cm:BT→Int→Int→List (List Int)
 |.lf,_,_=>[]
 |.nd a b,l,r=>(if a.EX=true then []else [[l,l+a.n+1]])++((if b.EX=true then []else [[l+a.n+1,r]])++(Cm a l (l+a.n+1)++Cm b (l+a.n+1) r))
def Ia:BT→Int→Int→List (List Int)
 |.lf,_,_=>[]
 |.nd a b,l,r=>[[l,l+a.n+1,r]]++(Ia a l (l+a.n+1)++Ia b (l+a.n+1) r)
theorem UN:∀{x:BT}{l r:Int},(Cm x l r).length≤2*x.n
 |.lf,_,_=>by simp[Cm]
 |.nd a b,l,r=>by
  have h1:=UN (x:=a) (l:=l) (r:=l+a.n+1)
  have h2:=UN (x:=b) (l:=l+a.n+1) (r:=r)
  simp only[Cm,A7,BT.n]
  have:(if a.EX=true then []else [[l,l+(a.n:Int)+1]]).length≤1:=by split<;>simp
  have:(if b.EX=true then []else [[l+(a.n:Int)+1,r]]).length≤1:=by split<;>simp
  omega
theorem LQ:∀{x:BT}{l r:Int},(Cm x l r).length≤x.n-1
 |.lf,_,_=>by simp[Cm]
 |.nd a b,l,r=>by
  have h1:=LQ (x:=a) (l:=l) (r:=l+a.n+1)
  have h2:=LQ (x:=b) (l:=l+a.n+1) (r:=r)
  simp only[Cm,A7,BT.n,BT.ASD,Aj]
  have e1:(if a.n=0 then []else [[l,l+(a.n:Int)+1]]).length=if a.n=0 then 0 else 1:=by split<;>rfl
  have e2:(if b.n=0 then []else [[l+(a.n:Int)+1,r]]).length=if b.n=0 then 0 else 1:=by split<;>rfl
  rw[e1,e2]
  split<;>split<;>omega
theorem ALP:∀{x:BT}{l r:Int},(Ia x l r).length=x.n
 |.lf,_,_=>rfl
 |.nd a b,l,r=>by
  simp only[Ia,A7,BT.n,AY,Ap,ALP];omega
theorem JO:∀{x:BT}{l r:Int},∀z∈Cm x l r,CT z
 |.lf,_,_,z,h=>by simp[Cm]at h
 |.nd a b,l,r,z,h=>by
  simp only[Cm,Af]at h
  rcases h with h|h|h|h
  ·split at h
   ·cases h
   ·simp at h;subst h;rfl
  ·split at h
   ·cases h
   ·simp at h;subst h;rfl
  ·exact JO z h
  ·exact JO z h
theorem b_tf:(true==false)=false:=rfl
theorem Li{a b:List (List Int)}(h:a.length+b.length≤1099511627776):EB false (LL a) (LL b)=some (LL (a++b)):=Ii ⟨h,rfl⟩
theorem TY[HA K]:∀{x:BT}{l r:Int}{c s:List (List Int)},x.n≤1000→0≤l→l+x.n≤100000→r=l+x.n+1→c.length+x.n≤1000000→s.length+2*x.n≤1000000→
  K 541 [x.d,.n l,.n r,LL c,LL s] [LL (c++Ia x l r),LL (s++Cm x l r)]
 |.lf,l,r,c,s,_,_,_,_,_,_=>by
  refine qb Pd rfl ?_;simp only[Pd]
  simp only[BT.d,Ia,Cm,List.append_nil]
  simp(disch:=first|omega|simp only[vl];omega) only[AA]
 |.nd a b,l,r,c,s,h,h0,h1,hr,hc,hs=>by
  simp only[BT.n]at h h1 hr hc hs
  have l1:=ALP (x:=a) (l:=l) (r:=l+a.n+1)
  have l2:=UN (x:=a) (l:=l) (r:=l+a.n+1)
  have kn:=Ie (K:=K) a (by omega)
  refine qb Pd rfl ?_;simp only[Pd]
  simp only[BT.d]
  simp(disch:=first|omega|simp only[vl];omega) only[AA,BT.DZ,JU]
  refine AD (kn) rfl ?_
  simp(disch:=first|omega|simp only[vl];omega) only[AA,Ty,Fm,Li]
  have ea:(l+(a.n:Int)+1)=l+a.n+1:=rfl
  have ka:=fun(s':List (List Int))(hs':s'.length≤s.length+2)=>TY (x:=a) (l:=l) (r:=l+a.n+1) (c:=c++[[l,l+(a.n:Int)+1,r]]) (s:=s') (by omega) h0 (by omega) rfl (by simp;omega) (by omega)
  have kb:=fun(s':List (List Int))(hs':s'.length≤s.length+2+2*a.n)=>TY (x:=b) (l:=l+a.n+1) (r:=r) (c:=(c++[[l,l+(a.n:Int)+1,r]])++Ia a l (l+a.n+1)) (s:=s') (by omega) (by omega) (by omega) (by omega) (by simp;omega) (by omega)
  cases hla:a.EX<;>cases hlb:b.EX
  all_goals
   simp(disch:=first|omega|simp only[vl];omega) only[AA,BT.DZ,BT.nz,hla,hlb,JU,b_tf,MM,Fm,Li]
   refine AD (ka _ (by first|omega|(simp only[A7,AY,Ap];omega))) rfl ?_
   simp(disch:=first|omega|simp only[vl];omega) only[AA,BT.DZ]
   refine AD (kb _ (by first|omega|(simp only[A7,AY,Ap];omega))) rfl ?_
   simp(disch:=first|omega|simp only[vl];omega) only[AA]
   refine D2 ?_ ?_
   ·simp[Ia]
   ·simp[Cm,hla,hlb]
end Go.Cat
