/-
 What the library's Delete does to an owned row of numbers, as a contract of this layer.
-/
import Derived.Test.YthoilpmggmenbaaGreatCatFour
import Derived.Shelf.Slices.Delete
set_option linter.unusedSimpArgs false
set_option linter.unusedVariables false
namespace Go.Cat
open Go.Shelf Go.Sort Go.Proofs
theorem AKE{fid:Nat->Nat}{h:Array Obj}{Z:Nat->Prop}:∀{l:List Int}{vs:List Value},AP fid h Z (l.map D.n) vs->∀j:Nat,(H:j<l.length)->vs[j]?=some (.int .i64 (l[j]'H))
 |[],_,_,j,H=>by simp at H
 |x::l,[],r,_,_=>by simp[AP]at r
 |x::l,v::vs,r,j,H=>by
  simp only[List.map_cons,AP,Rd]at r
  cases j with
  |zero=>simp[r.1]
  |succ j=>simpa using AKE r.2 j (by simpa using H)
theorem AAE{fid:Nat->Nat}{h:Array Obj}{Z:Nat->Prop}:∀{l:List Int}{vs:List Value},(∀j:Nat,(H:j<l.length)->vs[j]?=some (.int .i64 (l[j]'H)))->AP fid h Z (l.map D.n) vs
 |[],_,_=>by simp[AP]
 |x::l,[],r=>by have:=r 0 (by simp);simp at this
 |x::l,v::vs,r=>by simp only[List.map_cons,AP,Rd];have h0:=r 0 (by simp);simp only[List.getElem?_cons_zero,AL,List.getElem_cons_zero]at h0;refine⟨h0,AAE λj H=>?_⟩;have a:=r (j+1) (by simpa using H);simpa only[List.getElem?_cons_succ,List.getElem_cons_succ]using a
theorem AXJ{P:Program}{ρ:Ren}(L:Lays2.n23 P ρ)(fid:Nat->Nat){f:Nat}(Y:f=ρ.f 23)(l:List Int)(i:Nat)(hi:i<l.length)(hl:l.length<=1000):
  G5 P fid f ⟨[.o .v,.v,.v],[.o .v],[],none⟩ [LI l,.n i,.n ((i:Int)+1)] [LI (l.take i++l.drop (i+1))]:=by
 subst Y;intro w X args B hnd hX h _;match args,h with
 |[],h=>simp[BO]at h
 |[_],h=>simp[BO]at h
 |[_,_],h=>simp[BO]at h
 |_::_::_::_::_,h=>simp[BO]at h
 |[v0,v1,v2],h=>
  simp only[BO]at h
  obtain⟨B0,B1,rfl,h0,B2,B3,rfl,M,B4,B5,rfl,N,rfl⟩:=h
  simp only[AE,Rd]at M N
  obtain⟨rfl,rfl⟩:=M
  obtain⟨rfl,rfl⟩:=N
  simp only[LI,AE]at h0
  rcases h0 with⟨q|q,_⟩|⟨xs,q,h0⟩
  .cases q
  .simp[D.flat]at q
  injection q with q
  subst q
  rcases h0 with⟨_,q,_⟩|⟨b,off,cap,cs,e,R,B',rfl,rfl,x,ht,I,T,J,he⟩
  .rw[List.map_eq_nil_iff]at q
   subst q
   simp at hi
  obtain⟨rfl,hr⟩:=Fc.1 he
  rw[List.length_map]at I
  have W:=AKE hr
  have F:R=(0,0):=ht
  subst F
  have U:Sort.Holds (Value.int .i64) w b off l.toArray:=by
   intro j C
   have k:j<l.length:=by simpa using C
   have O:=W j k
   rw[Ed]at O
   refine⟨?_,by simp[World.frozen?,x]⟩
   simp only[World.cell?,x]
   rw[O]
   simp[k]
  simp only[List.length_map,List.append_nil]
  have H:=Any.slices_Delete_int L b off cap i (i+1) l w U I J (by omega) (by omega)
  rw[show((i+1:Nat):Int)=(i:Int)+1 from rfl]at H
  refine Calls.mono H ?_
  rintro e' w' ⟨rfl,q,rfl⟩
  have c:(l.take i++l.drop (i+1)).length=l.length-1:=by simp;omega
  have V:b<w.heap.size:=Cd x
  have a:(putRow (Value.int .i64) (Sort.ahead w q) b off (l.take i++l.drop (i+1)++List.replicate (i+1-i) 0).toArray).heap=w.heap.modify b (onCells (putCells (Value.int .i64) off (l.take i++l.drop (i+1)++List.replicate (i+1-i) 0).toArray)):=rfl
  refine⟨_,[_],[b],rfl,rfl,rfl,⟨by simp,λQ g Z=>?_⟩,rfl,rfl,rfl,by simp,λQ g=>.inl (by simpa using g),?_⟩
  .rw[a,Array.getElem?_modify,if_neg (by rintro rfl;exact Z (by simp))]
  .simp only[Sg.outs,List.map_nil,List.append_nil,BO]
   refine⟨[b],[],rfl,?_,rfl⟩
   simp only[LI,AE]
   refine .inr ⟨_,rfl,.inr ⟨b,off,cap,_,e,(0,0),[],rfl,?_,by rw[a,Array.getElem?_modify,if_pos rfl,x];rfl,rfl,?_,?_,J,Fc.2 ⟨rfl,AAE λj C=>?_⟩⟩⟩
   .rw[List.length_map,c,show l.length-(i+1-i)=l.length-1 by omega]
   .rw[List.length_map,c];omega
   .simp[putCells];exact T
   .rw[Ed]
    simp only[putCells]
    rw[Array.getElem?_mapIdx]
    have s:off+j<cs.size:=by rw[c]at C;omega
    have G:j<(l.take i++l.drop (i+1)).length:=C
    rw[Array.getElem?_eq_getElem s]
    simp only[Option.map_some,Nat.add_sub_cancel_left]
    rw[if_pos ⟨by omega,by rw[List.size_toArray,AZ];omega⟩,getElem!_pos _ j (by rw[List.size_toArray,AZ];omega),List.getElem_toArray,List.getElem_append_left G]
end Go.Cat
