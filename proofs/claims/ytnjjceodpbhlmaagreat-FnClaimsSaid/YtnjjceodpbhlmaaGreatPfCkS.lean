/-
 Sorting of rows of three numbers.
-/
import Derived.Test.YtnjjceodpbhlmaaGreatPfSrt
set_option linter.unusedSimpArgs false
set_option linter.unusedVariables false
namespace Go.Cat
variable {K:Nat→List D→List D→Prop}
def E2 (x y:List Int):Bool:=decide (AD x 0<AD y 0) || (decide (AD x 0=AD y 0)&&(decide (AD x 1<AD y 1) || (decide (AD x 1=AD y 1)&&decide (AD x 2<AD y 2))))
def HP (x:List Int):Prop:=x.length=3
def DC (x:List Int):List (List Int)→List (List Int)
 | []=>[x]
 | y::t=>if E2 x y=true then y::DC x t else x::y::t
theorem XN {x:List Int}:∀ t,(DC x t).Perm (x::t)
 | []=>.refl _
 | y::t=>by
  unfold DC
  split
  ·exact ((XN t).cons y).trans (List.Perm.swap x y t)
  ·exact .refl _
def F7 (d:List (List Int)):List (List Int):=(d.foldl (fun t x=>DC x t) []).reverse
theorem QL:∀ (d t:List (List Int)),(d.foldl (fun t x=>DC x t) t).Perm (d++t)
 | [],t=>.refl _
 | x::d,t=>by
  rw [List.foldl_cons]
  refine (QL d (DC x t)).trans ?_
  exact ((XN t).append_left d).trans List.perm_middle
theorem AJC (d t:List (List Int)):(d.foldl (fun t x=>DC x t) t).length=t.length+d.length:=by
 rw [(QL d t).length_eq,Ad]; omega
theorem AQL {z:List Int} {d t:List (List Int)}:z∈d.foldl (fun t x=>DC x t) t↔z∈d∨z∈t:=by
 rw [(QL d t).mem_iff,A8]
theorem SS {d:List (List Int)}:(F7 d).Perm d:=by
 unfold F7
 exact (List.reverse_perm _).trans (by simpa using QL d [])
def Ht (x y:List Int):Int:=if E2 x y=true then -1 else if E2 y x=true then 1 else 0
theorem AK9 {x y:List Int}:decide (Ht x y<0)=E2 x y:=by
 unfold Ht
 cases E2 x y
 ·cases E2 y x <;> rfl
 ·rfl
theorem AMK {x y:List Int} (h:E2 x y=true):E2 y x=false:=by
 simp only [E2,Bool.or_eq_true,Ac,Aj,Bool.or_eq_false_iff,Bool.and_eq_false_iff,decide_eq_false_iff_not] at*
 omega
theorem ASA [HA K] {x y:List Int} (hx:HP x) (hy:HP y):K 364 [LI x,LI y] [.n (Ht x y)]:=by
 have lx:x.length=3:=hx
 have ly:y.length=3:=hy
 refine AG (f:=IL) rfl ?_; simp only [IL,zu]
 simp (disch:=omega) only [AA]
 refine Ag (fun i=>∀ j:Nat,j<i→AD x j=AD y j) (fun i=>[LI x,LI y,.u,.u,.u,.u,.u,LI x,.n x.length,.n i,.u,.u,.u,.u]) 3 (by simp) (by rw [lx]; rfl) (fun i hi hP=>?_) (fun hP=>?_)
 ·simp (disch:=omega) only [AA]
  refine AE (US (K:=K)) rfl ?_
  have hi2:i=0∨i=1∨i=2:=by omega
  have h0:1≤i→AD x 0=AD y 0:=fun q=>hP 0 (by omega)
  have h1:i=2→AD x 1=AD y 1:=fun q=>hP 1 (by omega)
  have key:∀ a b:List Int,(1≤i→AD a 0=AD b 0)→(i=2→AD a 1=AD b 1)→AD a i<AD b i→E2 a b=true:=fun a b q0 q1 q=>by
   rcases hi2 with r | r | r
   ·subst r
    have q:AD a 0<AD b 0:=q
    simp [E2,q]
   ·have e0:=q0 (by omega)
    subst r
    have q:AD a 1<AD b 1:=q
    simp [E2,q,e0]
   ·have e0:=q0 (by omega)
    have e1:=q1 r
    subst r
    have q:AD a 2<AD b 2:=q
    simp [E2,q,e0,e1]
  by_cases h2:AD x i<AD y i
  ·rw [if_pos h2]
   simp (disch:=omega) only [AA]
   simp [Ht,key x y h0 h1 h2]
  ·rw [if_neg h2]
   by_cases h3:AD y i<AD x i
   ·rw [if_pos h3]
    simp (disch:=omega) only [AA]
    have e:=key y x (fun q=>(h0 q).symm) (fun q=>(h1 q).symm) h3
    simp [Ht,e,AMK e]
   ·rw [if_neg h3]
    simp (disch:=omega) only [AA]
    exact CH hP (by omega)
 ·have a:AD x 0=AD y 0:=hP 0 (by omega)
  have b:AD x 1=AD y 1:=hP 1 (by omega)
  have c:AD x 2=AD y 2:=hP 2 (by omega)
  simp (disch:=omega) only [AA]
  simp [Ht,E2,a,b,c]
theorem ins3 [HA K] {d:List (List Int)} (hl:d.length≤12) (hr:∀ x∈d,HP x):K 382 [LL d,.n 0,.n d.length,.f 364 []] [LL (F7 d)]:=by
 have hlen:∀ i,((d.take i).foldl (fun t x=>DC x t) []).length=min i d.length:=fun i=>by rw [AJC]; simp
 have hmem:∀ i,∀ x∈(d.take i).foldl (fun t x=>DC x t) [],HP x:=fun i x hx=>by
  rcases AQL.1 hx with q | q
  ·exact hr x (List.mem_of_mem_take q)
  ·cases q
 refine AG (f:=II) rfl ?_; simp only [II,zu]
 simp (disch:=omega) only [AA]
 refine B9 (fun (i:Nat)=>i≤d.length∨i=1) (fun i=>[LL (((d.take i).foldl (fun t x=>DC x t) []).reverse++d.drop i),.n 0,.n d.length,.f 364 [],.n i,.u,.u,.u]) (fun i=>d.length-i) 1 (.inr rfl) ?_ ?_
 ·cases d with
  | nil=>rfl
  | cons x d=>simp [DC]
 ·intro i hi
  by_cases hlt:i<d.length
  ·have hs:((d.take (i+1)).foldl (fun t x=>DC x t) [])=DC (d[i]) ((d.take i).foldl (fun t x=>DC x t) []):=by
    rw [ED hlt,List.foldl_append]; rfl
   have hd:=List.drop_eq_getElem_cons hlt
   have hl1:=hlen i
   have hm1:=hmem i
   have hx:HP (d[i]):=hr _ (List.getElem_mem hlt)
   rw [hd]
   generalize d[i]=x at hs hx hd ⊢
   obtain ⟨post,hpost⟩:∃ post,post=d.drop (i+1):=⟨_,rfl⟩
   rw [← hpost] at hd ⊢
   have hpl:i+1+post.length=d.length:=by
    have:=congrArg List.length hd
    simp only [List.length_drop,A6] at this; omega
   rw [show min i d.length=i by omega] at hl1
   generalize hT:(d.take i).foldl (fun t x=>DC x t) []=T at hs hl1 hm1
   simp (disch:=omega) only [AA]
   refine B9 (fun (y:Nat×List (List Int)×List (List Int))=>y.1=y.2.1.length∧(∀ z∈y.2.1,HP z)∧y.2.1.length+1+y.2.2.length=d.length∧(DC x y.2.1).reverse++y.2.2=(DC x T).reverse++post) (fun y=>[LL (y.2.1.reverse++x::y.2.2),.n 0,.n d.length,.f 364 [],.n i,.n y.1,.u,.u]) (fun y=>y.1) (i,T,post) ⟨hl1.symm,hm1,by simp only; omega,rfl⟩ rfl ?_
   rintro ⟨j,t,po⟩ ⟨g1,g2,g3,g4⟩
   simp only at g1 g2 g3 g4 ⊢
   subst g1
   have hll:(t.reverse++x::po).length=d.length:=by simp; omega
   cases t with
   | nil=>
    simp only [Aq,List.reverse_nil,List.nil_append] at g3 hll g4 ⊢
    simp (disch:=omega) only [AA]
    refine ⟨i+1,by omega,.inl (by omega),?_⟩
    rw [hs,← hpost,← g4]
    have hw:IntKind.i64.wrap ((i:Int)+1)=(i:Int)+1:=wrap_i64 (by omega)
    simp only [hw,QC,P3,QB,QS,P8,DC]
    simp
   | cons y t=>
    have e0:((y::t).reverse++x::po)=t.reverse++y::x::po:=by simp
    have ea:AH (t.reverse++y::x::po) t.length=y:=by
     have:=O5 (a:=t.reverse) (b:=x::po) (x:=y)
     rwa [List.length_reverse] at this
    have eb:AH (t.reverse++y::x::po) ((t.length:Int)+1)=x:=by
     have:=O5 (a:=t.reverse++[y]) (b:=po) (x:=x)
     simp only [Ad,List.length_reverse,A6,Aq,Bw,List.singleton_append] at this
     exact this
    have ec:EZ (t.reverse++y::x::po) ((t.length:Int)+1) y=t.reverse++y::y::po:=by
     have:=OC (a:=t.reverse++[y]) (b:=po) (x:=x) (y:=y)
     simp only [Ad,List.length_reverse,A6,Aq,Bw,List.singleton_append] at this
     exact this
    have ed:EZ (t.reverse++y::y::po) t.length x=t.reverse++x::y::po:=by
     have:=OC (a:=t.reverse) (b:=y::po) (x:=y) (y:=x)
     rwa [List.length_reverse] at this
    have hll1:(t.reverse++y::x::po).length=d.length:=by rw [← e0]; exact hll
    have hll2:(t.reverse++y::y::po).length=d.length:=by rw [← hll1]; simp
    simp only [A6] at g3 ⊢
    rw [e0]
    have ky:K 364 [LI x,LI y] [.n (Ht x y)]:=ASA hx (g2 y (by simp))
    simp (disch:=omega) only [AA,Dv,ea,eb]
    refine AE (ky) rfl ?_
    simp (disch:=omega) only [AA,AK9]
    cases hc:E2 x y
    ·simp (disch:=omega) only [AA]
     refine ⟨i+1,by omega,.inl (by omega),?_⟩
     rw [hs]
     rw [DC,hc] at g4
     simp only [GR,if_false,List.reverse_cons,Bw,List.singleton_append] at g4
     rw [← hpost,← g4]
     simp
    ·simp (disch:=omega) only [AA,Dv,ea,eb,ec,ed]
     refine ⟨(t.length,t,y::po),by simp only; omega,⟨rfl,fun z hz=>g2 z (by simp [hz]),by simp only [A6]; omega,?_⟩,by simp⟩
     rw [DC,if_pos hc] at g4
     simpa using g4
  ·simp (disch:=omega) only [AA]
   have e1:d.take i=d:=List.take_of_length_le (by omega)
   have e2:d.drop i=[]:=List.drop_of_length_le (by omega)
   rw [e1,e2,List.append_nil]
   rfl
theorem pdq3 [HA K] {d:List (List Int)} {v:Int} (hl:d.length≤12) (hr:∀ x∈d,HP x):K 375 [LL d,.n 0,.n d.length,.n v,.f 364 []] [LL (F7 d)]:=by
 refine AG (f:=Ia) rfl ?_; simp only [Ia,zu]
 simp (disch:=omega) only [AA]
 refine B9 (fun (_:Unit)=>True) (fun _=>[LL d,.n 0,.n d.length,.n v,.f 364 [],.b true,.b true,.u,.u,.u,.u,.u,.u,.u,.u,.u,.u,.u,.u,.u,.u,.u,.u,.u]) (fun _=>0) () trivial rfl (fun _ _=>?_)
 simp (disch:=omega) only [AA]
 refine AE (ins3 (K:=K) hl hr) rfl ?_
 simp (disch:=omega) only [AA]
theorem AG6 [HA K] {d:List (List Int)} (hl:d.length≤12) (hr:∀ x∈d,HP x):K 363 [LL d,.f 364 []] [LL (F7 d)]:=by
 obtain ⟨v,hv⟩:=Xr (K:=K) (n:=d.length) hl
 refine AG (f:=Hf) rfl ?_; simp only [Hf,zu]
 simp (disch:=omega) only [AA,wrap_u64]
 refine AE (hv) rfl ?_
 simp (disch:=omega) only [AA]
 refine AE (pdq3 (K:=K) (v:=v) hl hr) rfl ?_
 simp (disch:=omega) only [AA]
end Go.Cat
