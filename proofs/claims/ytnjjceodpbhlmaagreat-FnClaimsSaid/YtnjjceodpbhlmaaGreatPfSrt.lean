/-
 Sorting of rows: insertion, as the library does it for short lists.
-/
import Derived.Test.YtnjjceodpbhlmaaGreatPfPath
import Derived.Test.YtnjjceodpbhlmaaGreatIrHas
set_option linter.unusedSimpArgs false
set_option linter.unusedVariables false
namespace Go.Cat
variable {K:Nat→List D→List D→Prop}
def BL (x y:List Int):Bool:=decide (AD x 0<AD y 0) || (decide (AD x 0=AD y 0)&&decide (AD x 1<AD y 1))
def Bl (x:List Int):Prop:=x.length=2
theorem S1 {x:List Int} (h:Bl x):x=[AD x 0,AD x 1]:=by
 obtain ⟨a,b,rfl⟩:∃ a b,x=[a,b]:=by
  match x,h with
  | [a,b],_=>exact ⟨a,b,rfl⟩
 rfl
theorem AH4 {x y z:List Int} (h1:BL x y=true) (h2:BL y z=true):BL x z=true:=by
 simp only [BL,Bool.or_eq_true,Ac,Aj] at*
 omega
theorem AE9 {x y z:List Int} (h1:BL x z=false) (h2:BL y z=true):BL y x=true:=by
 simp only [BL,Bool.or_eq_true,Ac,Aj,Bool.or_eq_false_iff,Bool.and_eq_false_iff,decide_eq_false_iff_not] at*
 omega
theorem M3 {x y:List Int} (h:BL x y=true):BL y x=false:=by
 simp only [BL,Bool.or_eq_true,Ac,Aj,Bool.or_eq_false_iff,Bool.and_eq_false_iff,decide_eq_false_iff_not] at*
 omega
theorem AA9 {x y:List Int} (hx:Bl x) (hy:Bl y) (h1:BL x y=false) (h2:BL y x=false):x=y:=by
 simp only [BL,Bool.or_eq_false_iff,Bool.and_eq_false_iff,decide_eq_false_iff_not] at*
 have a:AD x 0=AD y 0:=by omega
 have b:AD x 1=AD y 1:=by omega
 rw [S1 hx,S1 hy,a,b]
def BS (x:List Int):List (List Int)→List (List Int)
 | []=>[x]
 | y::t=>if BL x y=true then y::BS x t else x::y::t
theorem SU {x:List Int}:∀ t,(BS x t).length=t.length+1
 | []=>rfl
 | y::t=>by
  unfold BS
  split
  ·simp [SU t]
  ·rfl
theorem PL {x z:List Int}:∀ {t},z∈BS x t↔z=x∨z∈t
 | []=>by simp [BS]
 | y::t=>by
  unfold BS
  split
  ·simp only [A5,PL (t:=t)]
   constructor <;> rintro (h | h | h) <;> simp [h]
  ·simp
theorem YQ {x y:List Int} (hx:Bl x) (hy:Bl y):∀ t,BS x (BS y t)=BS y (BS x t)
 | []=>by
  simp only [BS]
  cases h1:BL x y
  ·cases h2:BL y x
   ·rw [AA9 hx hy h1 h2]
   ·simp
  ·simp [M3 h1]
 | z::t=>by
  have ih:=YQ hx hy t
  simp only [BS]
  cases h1:BL y z <;> cases h2:BL x z
  ·simp only [GR,if_false,BS,h1,h2]
   cases h3:BL x y
   ·cases h4:BL y x
    ·rw [AA9 hx hy h3 h4]
    ·simp
   ·simp [M3 h3]
  ·have:=AE9 h1 h2
   simp [BS,h1,h2,this]
  ·have:=AE9 h2 h1
   simp [BS,h1,h2,this]
  ·simp [BS,h1,h2,ih]
def Gy (d:List (List Int)):List (List Int):=d.foldl (fun t x=>BS x t) []
def Ct (d:List (List Int)):List (List Int):=(Gy d).reverse
theorem AR0 {d e:List (List Int)} (h:d.Perm e) (h2:∀ x∈d,Bl x):Gy d=Gy e:=
 List.Perm.foldl_eq' h (fun x hx y hy z=>(YQ (h2 x hx) (h2 y hy) z).symm) []
theorem AK6 {d e:List (List Int)} (h:d.Perm e) (h2:∀ x∈d,Bl x):Ct d=Ct e:=by rw [Ct,Ct,AR0 h h2]
theorem OX:∀ (d t:List (List Int)),(d.foldl (fun t x=>BS x t) t).length=t.length+d.length
 | [],t=>rfl
 | x::d,t=>by
  rw [List.foldl_cons,OX d,SU,A6]; omega
theorem YP {d:List (List Int)}:(Gy d).length=d.length:=by rw [Gy,OX]; simp
theorem WV {d:List (List Int)}:(Ct d).length=d.length:=by rw [Ct,List.length_reverse,YP]
theorem QH {z:List Int}:∀ {d t:List (List Int)},z∈d.foldl (fun t x=>BS x t) t↔z∈d∨z∈t
 | [],t=>by simp
 | x::d,t=>by
  rw [List.foldl_cons,QH (d:=d),PL,A5]
  constructor
  ·rintro (h | h | h)
   ·exact .inl (.inr h)
   ·exact .inl (.inl h)
   ·exact .inr h
  ·rintro ((h | h) | h)
   ·exact .inr (.inl h)
   ·exact .inl h
   ·exact .inr (.inr h)
theorem AHU {z:List Int} {d:List (List Int)}:z∈Ct d↔z∈d:=by rw [Ct,List.mem_reverse,Gy,QH]; simp
theorem AES [HA K] {x:Int}:K 211 [.n x] [.b false]:=by
 refine AG (f:=JG) rfl ?_; simp only [JG,zu]
 simp (disch:=omega) only [AA]
theorem US [HA K] {x y:Int}:K 377 [.n x,.n y] [.n (if x<y then -1 else if y<x then 1 else 0)]:=by
 refine AG (f:=Kq) rfl ?_; simp only [Kq,zu]
 simp (disch:=omega) only [AA]
 refine AE (AES (K:=K)) rfl ?_
 simp (disch:=omega) only [AA]
 refine AE (AES (K:=K)) rfl ?_
 by_cases h:x<y
 ·simp (disch:=omega) only [AA]
  rw [if_pos h]
 ·by_cases h2:y<x
  ·simp (disch:=omega) only [AA]
   rw [if_neg h,if_pos h2]
  ·simp (disch:=omega) only [AA]
   rw [if_neg h,if_neg h2]
def GS (x y:List Int):Int:=if BL x y=true then -1 else if BL y x=true then 1 else 0
theorem AFN {x y:List Int}:decide (GS x y<0)=BL x y:=by
 unfold GS
 cases BL x y
 ·cases BL y x <;> rfl
 ·rfl
theorem Vr [HA K] {x y:List Int} (hx:Bl x) (hy:Bl y):K 364 [LI x,LI y] [.n (GS x y)]:=by
 have lx:x.length=2:=hx
 have ly:y.length=2:=hy
 refine AG (f:=IL) rfl ?_; simp only [IL,zu]
 simp (disch:=omega) only [AA]
 refine Ag (fun i=>∀ j:Nat,j<i→AD x j=AD y j) (fun i=>[LI x,LI y,.u,.u,.u,.u,.u,LI x,.n x.length,.n i,.u,.u,.u,.u]) 2 (by simp) rfl (fun i hi hP=>?_) (fun hP=>?_)
 ·simp (disch:=omega) only [AA]
  refine AE (US (K:=K)) rfl ?_
  have hi2:i=0∨i=1:=by omega
  have h0:i=1→AD x 0=AD y 0:=fun q=>hP 0 (by omega)
  by_cases h1:AD x i<AD y i
  ·rw [if_pos h1]
   simp (disch:=omega) only [AA]
   have e:BL x y=true:=by
    rcases hi2 with q | q
    ·subst q
     have h1:AD x 0<AD y 0:=h1
     simp [BL,h1]
    ·have:=h0 q
     subst q
     have h1:AD x 1<AD y 1:=h1
     simp [BL,h1,this]
   simp [GS,e]
  ·rw [if_neg h1]
   by_cases h2:AD y i<AD x i
   ·rw [if_pos h2]
    simp (disch:=omega) only [AA]
    have e:BL y x=true:=by
     rcases hi2 with q | q
     ·subst q
      have h2:AD y 0<AD x 0:=h2
      simp [BL,h2]
     ·have:=h0 q
      subst q
      have h2:AD y 1<AD x 1:=h2
      simp [BL,h2,this]
    simp [GS,e,M3 e]
   ·rw [if_neg h2]
    simp (disch:=omega) only [AA]
    exact CH hP (by omega)
 ·have a:AD x 0=AD y 0:=hP 0 (by omega)
  have b:AD x 1=AD y 1:=hP 1 (by omega)
  simp (disch:=omega) only [AA]
  simp [GS,BL,a,b]
theorem wrap_u64 {x:Int} (h:0≤x∧x≤1000000):IntKind.u64.wrap x=x:=by
 have e:x % 18446744073709551616=x:=Int.emod_eq_of_lt h.1 (by omega)
 simp [IntKind.wrap,IntKind.bits,IntKind.signed,e]
def SA (o:Option (List D)):Bool:=match o with
 | some [.i .i64 _]=>true
 | _=>false
theorem AP7 {o:Option (List D)} (h:SA o=true):∃ v:Int,o=some [.n v]:=by
 unfold SA at h
 split at h
 ·exact ⟨_,rfl⟩
 ·cases h
abbrev U1:List (Nat×IF):=[(391,PT)]
theorem len0:Ez 13 (fun n=>SA (Ji (JL U1) 60 8 391 [.i .u64 (n:Nat)]))=true:=by kernel_rfl
theorem AG4 [HA K] {n:Nat} (h:n≤12):∃ v:Int,K 391 [.i .u64 (n:Nat)] [.n v]:=by
 obtain ⟨v,hv⟩:=AP7 (Ep len0 n (by omega))
 exact ⟨v,run U1 60 8 391 hv⟩
theorem Xr [HA K] {n:Nat} (h:n≤12):∃ v:Int,K 376 [.i .u64 (n:Nat)] [.n v]:=by
 obtain ⟨v,hv⟩:=AG4 (K:=K) h
 refine ⟨v,?_⟩
 refine AG (f:=Ke) rfl ?_; simp only [Ke,zu]
 simp (disch:=omega) only [AA]
 refine AE (hv) rfl ?_
 simp (disch:=omega) only [AA]
theorem O5 {a b:List (List Int)} {x:List Int}:AH (a++x::b) a.length=x:=by simp [AH]
theorem OC {a b:List (List Int)} {x y:List Int}:EZ (a++x::b) a.length y=a++y::b:=by simp [EZ]
theorem AHE [HA K] {d:List (List Int)} (hl:d.length≤12) (hr:∀ x∈d,Bl x):K 382 [LL d,.n 0,.n d.length,.f 364 []] [LL (Ct d)]:=by
 have hlen:∀ i,((d.take i).foldl (fun t x=>BS x t) []).length=min i d.length:=fun i=>by rw [OX]; simp
 have hmem:∀ i,∀ x∈(d.take i).foldl (fun t x=>BS x t) [],Bl x:=fun i x hx=>by
  rcases QH.1 hx with q | q
  ·exact hr x (List.mem_of_mem_take q)
  ·cases q
 refine AG (f:=II) rfl ?_; simp only [II,zu]
 simp (disch:=omega) only [AA]
 refine B9 (fun (i:Nat)=>i≤d.length∨i=1) (fun i=>[LL (((d.take i).foldl (fun t x=>BS x t) []).reverse++d.drop i),.n 0,.n d.length,.f 364 [],.n i,.u,.u,.u]) (fun i=>d.length-i) 1 (.inr rfl) ?_ ?_
 ·cases d with
  | nil=>rfl
  | cons x d=>simp [BS]
 ·intro i hi
  by_cases hlt:i<d.length
  ·have hs:((d.take (i+1)).foldl (fun t x=>BS x t) [])=BS (d[i]) ((d.take i).foldl (fun t x=>BS x t) []):=by
    rw [ED hlt,List.foldl_append]; rfl
   have hd:=List.drop_eq_getElem_cons hlt
   have hl1:=hlen i
   have hm1:=hmem i
   have hx:Bl (d[i]):=hr _ (List.getElem_mem hlt)
   rw [hd]
   generalize d[i]=x at hs hx hd ⊢
   obtain ⟨post,hpost⟩:∃ post,post=d.drop (i+1):=⟨_,rfl⟩
   rw [← hpost] at hd ⊢
   have hpl:i+1+post.length=d.length:=by
    have:=congrArg List.length hd
    simp only [List.length_drop,A6] at this; omega
   rw [show min i d.length=i by omega] at hl1
   generalize hT:(d.take i).foldl (fun t x=>BS x t) []=T at hs hl1 hm1
   simp (disch:=omega) only [AA]
   refine B9 (fun (y:Nat×List (List Int)×List (List Int))=>y.1=y.2.1.length∧(∀ z∈y.2.1,Bl z)∧y.2.1.length+1+y.2.2.length=d.length∧(BS x y.2.1).reverse++y.2.2=(BS x T).reverse++post) (fun y=>[LL (y.2.1.reverse++x::y.2.2),.n 0,.n d.length,.f 364 [],.n i,.n y.1,.u,.u]) (fun y=>y.1) (i,T,post) ⟨hl1.symm,hm1,by simp only; omega,rfl⟩ rfl ?_
   rintro ⟨j,t,po⟩ ⟨g1,g2,g3,g4⟩
   simp only at g1 g2 g3 g4 ⊢
   subst g1
   have hll:(t.reverse++x::po).length=d.length:=by simp; omega
   cases t with
   | nil=>
    simp only [Aq,List.reverse_nil,List.nil_append] at g3 hll g4 ⊢
    simp (disch:=omega) only [AA]
    refine ⟨i+1,by omega,.inl (by omega),?_⟩
    rw [hs,← hpost,← g4]
    have hw:IntKind.i64.wrap ((i:Int)+1)=(i:Int)+1:=wrap_i64 (by omega)
    simp only [hw,QC,P3,QB,QS,P8,BS]
    simp
   | cons y t=>
    have e0:((y::t).reverse++x::po)=t.reverse++y::x::po:=by simp
    have ea:AH (t.reverse++y::x::po) t.length=y:=by
     have:=O5 (a:=t.reverse) (b:=x::po) (x:=y)
     rwa [List.length_reverse] at this
    have eb:AH (t.reverse++y::x::po) ((t.length:Int)+1)=x:=by
     have:=O5 (a:=t.reverse++[y]) (b:=po) (x:=x)
     simp only [Ad,List.length_reverse,A6,Aq,Bw,List.singleton_append] at this
     exact this
    have ec:EZ (t.reverse++y::x::po) ((t.length:Int)+1) y=t.reverse++y::y::po:=by
     have:=OC (a:=t.reverse++[y]) (b:=po) (x:=x) (y:=y)
     simp only [Ad,List.length_reverse,A6,Aq,Bw,List.singleton_append] at this
     exact this
    have ed:EZ (t.reverse++y::y::po) t.length x=t.reverse++x::y::po:=by
     have:=OC (a:=t.reverse) (b:=y::po) (x:=y) (y:=x)
     rwa [List.length_reverse] at this
    have hll1:(t.reverse++y::x::po).length=d.length:=by rw [← e0]; exact hll
    have hll2:(t.reverse++y::y::po).length=d.length:=by rw [← hll1]; simp
    simp only [A6] at g3 ⊢
    rw [e0]
    have ky:K 364 [LI x,LI y] [.n (GS x y)]:=Vr hx (g2 y (by simp))
    simp (disch:=omega) only [AA,Dv,ea,eb]
    refine AE (ky) rfl ?_
    simp (disch:=omega) only [AA,AFN]
    cases hc:BL x y
    ·simp (disch:=omega) only [AA]
     refine ⟨i+1,by omega,.inl (by omega),?_⟩
     rw [hs]
     rw [BS,hc] at g4
     simp only [GR,if_false,List.reverse_cons,Bw,List.singleton_append] at g4
     rw [← hpost,← g4]
     simp
    ·simp (disch:=omega) only [AA,Dv,ea,eb,ec,ed]
     refine ⟨(t.length,t,y::po),by simp only; omega,⟨rfl,fun z hz=>g2 z (by simp [hz]),by simp only [A6]; omega,?_⟩,by simp⟩
     rw [BS,if_pos hc] at g4
     simpa using g4
  ·simp (disch:=omega) only [AA]
   have e1:d.take i=d:=List.take_of_length_le (by omega)
   have e2:d.drop i=[]:=List.drop_of_length_le (by omega)
   rw [e1,e2,List.append_nil]
   rfl
theorem ARB [HA K] {d:List (List Int)} {v:Int} (hl:d.length≤12) (hr:∀ x∈d,Bl x):K 375 [LL d,.n 0,.n d.length,.n v,.f 364 []] [LL (Ct d)]:=by
 refine AG (f:=Ia) rfl ?_; simp only [Ia,zu]
 simp (disch:=omega) only [AA]
 refine B9 (fun (_:Unit)=>True) (fun _=>[LL d,.n 0,.n d.length,.n v,.f 364 [],.b true,.b true,.u,.u,.u,.u,.u,.u,.u,.u,.u,.u,.u,.u,.u,.u,.u,.u,.u]) (fun _=>0) () trivial rfl (fun _ _=>?_)
 simp (disch:=omega) only [AA]
 refine AE (AHE (K:=K) hl hr) rfl ?_
 simp (disch:=omega) only [AA]
theorem AKZ [HA K] {d:List (List Int)} (hl:d.length≤12) (hr:∀ x∈d,Bl x):K 363 [LL d,.f 364 []] [LL (Ct d)]:=by
 obtain ⟨v,hv⟩:=Xr (K:=K) (n:=d.length) hl
 refine AG (f:=Hf) rfl ?_; simp only [Hf,zu]
 simp (disch:=omega) only [AA,wrap_u64]
 refine AE (hv) rfl ?_
 simp (disch:=omega) only [AA]
 refine AE (ARB (K:=K) (v:=v) hl hr) rfl ?_
 simp (disch:=omega) only [AA]
end Go.Cat
