/-
 What the library's Delete does to an owned row of numbers, as a contract of this layer.
-/
import Derived.Test.YthoilpmggmenbaaGreatCatThree
import Derived.Test.YthoilpmggmenbaaGreatCatFour
import Derived.Shelf.Slices.Delete
set_option linter.unusedSimpArgs false
set_option linter.unusedVariables false
namespace Go.Cat
open Go.Shelf Go.Sort Go.Proofs
theorem YF{fid:Nat→Nat}{h:Array Obj}{Z:Nat→Prop}:∀{l:List Int}{vs:List Value},AP fid h Z (l.map D.n) vs→∀j:Nat,(hj:j<l.length)→vs[j]?=some (.int .i64 (l[j]'hj))
 |[],_,_,j,hj=>by simp at hj
 |x::l,[],r,_,_=>by simp[AP]at r
 |x::l,v::vs,r,j,hj=>by
  simp only[List.map_cons,AP,Rd]at r
  cases j with
  |zero=>simp[r.1]
  |succ j=>simpa using YF r.2 j (by simpa using hj)
theorem AP7{fid:Nat→Nat}{h:Array Obj}{Z:Nat→Prop}:∀{l:List Int}{vs:List Value},(∀j:Nat,(hj:j<l.length)→vs[j]?=some (.int .i64 (l[j]'hj)))→AP fid h Z (l.map D.n) vs
 |[],_,_=>by simp[AP]
 |x::l,[],r=>by have:=r 0 (by simp);simp at this
 |x::l,v::vs,r=>by
  simp only[List.map_cons,AP,Rd]
  have h0:=r 0 (by simp)
  simp only[List.getElem?_cons_zero,AI,List.getElem_cons_zero]at h0
  refine⟨h0,AP7 fun j hj=>?_⟩
  have h1:=r (j+1) (by simpa using hj)
  simpa only[List.getElem?_cons_succ,List.getElem_cons_succ]using h1
theorem AcU{P:Program}{ρ:Ren}(L:Lays2.n23 P ρ)(fid:Nat→Nat){f:Nat}(hf:f=ρ.f 23)(l:List Int)(i:Nat)(hi:i<l.length)(hl:l.length≤1000):
  GY P fid f ⟨[.o .v,.v,.v],[.o .v],[],none⟩ [LI l,.n i,.n ((i:Int)+1)] [LI (l.take i++l.drop (i+1))]:=by
 subst hf;intro w X args B hnd hX hE _;match args,hE with
 |[],hE=>simp[BV]at hE
 |[_],hE=>simp[BV]at hE
 |[_,_],hE=>simp[BV]at hE
 |_::_::_::_::_,hE=>simp[BV]at hE
 |[v0,v1,v2],hE=>
  simp only[BV]at hE
  obtain⟨B0,B1,rfl,h0,B2,B3,rfl,h1,B4,B5,rfl,h2,rfl⟩:=hE
  simp only[AF,Rd]at h1 h2
  obtain⟨rfl,rfl⟩:=h1
  obtain⟨rfl,rfl⟩:=h2
  simp only[LI,AF]at h0
  rcases h0 with⟨q|q,_⟩|⟨xs,q,h0⟩
  ·cases q
  ·simp[D.flat]at q
  injection q with q
  subst q
  rcases h0 with⟨_,q,_⟩|⟨b,off,cap,cs,e,fz,B',rfl,rfl,hb,ht,g1,g2,g3,he⟩
  ·rw[List.map_eq_nil_iff]at q
   subst q
   simp at hi
  obtain⟨rfl,hr⟩:=FX.1 he
  rw[List.length_map]at g1
  have hc:=YF hr
  have hfz:fz=(0,0):=ht
  subst hfz
  have hH:Sort.Holds (Value.int .i64) w b off l.toArray:=by
   intro j hj
   have hj':j<l.length:=by simpa using hj
   have h3:=hc j hj'
   rw[EO]at h3
   refine⟨?_,by simp[World.frozen?,hb]⟩
   simp only[World.cell?,hb]
   rw[h3]
   simp[hj']
  simp only[List.length_map,List.append_nil]
  have hcall:=Any.slices_Delete_int L b off cap i (i+1) l w hH g1 g3 (by omega) (by omega)
  rw[show((i+1:Nat):Int)=(i:Int)+1 from rfl]at hcall
  refine Calls.mono hcall ?_
  rintro e' w' ⟨rfl,q,rfl⟩
  have hlen:(l.take i++l.drop (i+1)).length=l.length-1:=by simp;omega
  have hbs:b<w.heap.size:=C3 hb
  have hheap:(putRow (Value.int .i64) (Sort.ahead w q) b off (l.take i++l.drop (i+1)++List.replicate (i+1-i) 0).toArray).heap=w.heap.modify b (onCells (putCells (Value.int .i64) off (l.take i++l.drop (i+1)++List.replicate (i+1-i) 0).toArray)):=rfl
  refine⟨_,[_],[b],rfl,rfl,rfl,⟨by simp,fun b' hb' hn=>?_⟩,rfl,rfl,rfl,by simp,fun b' hb'=>.inl (by simpa using hb'),?_⟩
  ·rw[hheap,Array.getElem?_modify,if_neg (by rintro rfl;exact hn (by simp))]
  ·simp only[Sg.outs,List.map_nil,List.append_nil,BV]
   refine⟨[b],[],rfl,?_,rfl⟩
   simp only[LI,AF]
   refine .inr ⟨_,rfl,.inr ⟨b,off,cap,_,e,(0,0),[],rfl,?_,by rw[hheap,Array.getElem?_modify,if_pos rfl,hb];rfl,rfl,?_,?_,g3,FX.2 ⟨rfl,AP7 fun j hj=>?_⟩⟩⟩
   ·rw[List.length_map,hlen,show l.length-(i+1-i)=l.length-1 by omega]
   ·rw[List.length_map,hlen];omega
   ·simp[putCells];exact g2
   ·rw[EO]
    simp only[putCells]
    rw[Array.getElem?_mapIdx]
    have hoff:off+j<cs.size:=by rw[hlen]at hj;omega
    have hj2:j<(l.take i++l.drop (i+1)).length:=hj
    rw[Array.getElem?_eq_getElem hoff]
    simp only[Option.map_some,Nat.add_sub_cancel_left]
    rw[if_pos ⟨by omega,by rw[List.size_toArray,A7];omega⟩,getElem!_pos _ j (by rw[List.size_toArray,A7];omega),List.getElem_toArray,List.getElem_append_left hj2]
end Go.Cat
