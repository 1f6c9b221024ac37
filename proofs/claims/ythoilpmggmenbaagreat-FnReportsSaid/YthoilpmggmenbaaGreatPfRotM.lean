/-
 Trees in memory, each node in a block of its own.
-/
import Derived.Test.YthoilpmggmenbaaGreatCatThree
import Derived.Test.YthoilpmggmenbaaGreatPfStat
import Derived.Below
import Derived.Test.YthoilpmggmenbaaGreatQd0LawReports
import Derived.Test.YthoilpmggmenbaaGreatQd1LawReports
import Derived.Test.YthoilpmggmenbaaGreatQd2LawReports
import Derived.Test.YthoilpmggmenbaaGreatQd3LawReports
set_option linter.unusedSimpArgs false
set_option linter.unusedVariables false
namespace Go.Cat
inductive AT where
 |nil
 |node(b:Nat)(l r:AT)
namespace AT
def ptr:AT→Value
 |nil=>.pointer none
 |node b _ _=>.pointer (some ⟨b,0,none⟩)
def In(h:Array Obj):AT→Prop
 |nil=>True
 |node b l r=>(∃e,h[b]?=some (.cells #[l.ptr,r.ptr] e (0,0)))∧l.In h∧r.In h
def bl:AT→List Nat
 |nil=>[]
 |node b l r=>b::(l.bl++r.bl)
def size:AT→Nat
 |nil=>0
 |node _ l r=>l.size+r.size+1
def find:AT→Int→AT
 |nil,_=>nil
 |node b l r,v=>if v<0 then nil else if v<l.size then l.find v else if v=l.size then node b l r else r.find (v-l.size-1)
def Fu:AT→Int→AT→AT
 |nil,_,_=>nil
 |node b l r,v,x=>if v<0 then node b l r else if v<l.size then node b (l.Fu v x) r else if v=l.size then x else node b l (r.Fu (v-l.size-1) x)
theorem In.mono{h h':Array Obj}:∀{T:AT},T.In h→(∀b∈T.bl,h'[b]?=h[b]?)→T.In h'
 |nil,_,_=>trivial
 |node b l r,⟨⟨e,h1⟩,h2,h3⟩,hs=>⟨⟨e,by rw[hs b (by simp[bl]),h1]⟩,h2.mono fun x hx=>hs x (by simp[bl,hx]),h3.mono fun x hx=>hs x (by simp[bl,hx])⟩
theorem In.lt{h:Array Obj}:∀{T:AT},T.In h→∀b∈T.bl,b<h.size
 |node b l r,⟨⟨e,h1⟩,h2,h3⟩,x,hx=>by
  simp only[bl,Aa,Af]at hx
  rcases hx with rfl|hx|hx
  ·exact C3 h1
  ·exact h2.lt x hx
  ·exact h3.lt x hx
theorem LN{h:Array Obj}:∀{T:AT}{v:Int},T.In h→(T.find v).In h
 |nil,_,_=>trivial
 |node b l r,v,hi=>by
  simp only[find]
  split
  ·trivial
  ·split
   ·exact LN hi.2.1
   ·split
    ·exact hi
    ·exact LN hi.2.2
theorem Ig:∀{T:AT}{v:Int}{x:Nat},x∈(T.find v).bl→x∈T.bl
 |nil,_,_,hx=>hx
 |node b l r,v,x,hx=>by
  simp only[find]at hx
  split at hx
  ·simp[bl]at hx
  ·split at hx
   ·simp[bl,Ig hx]
   ·split at hx
    ·exact hx
    ·simp[bl,Ig hx]
theorem OI:∀{T:AT}{v:Int},T.bl.Nodup→(T.find v).bl.Nodup
 |nil,_,h=>h
 |node b l r,v,h=>by
  simp only[find]
  have h':=h
  simp only[bl,List.nodup_cons,List.nodup_append]at h'
  split
  ·exact List.nodup_nil
  ·split
   ·exact OI h'.2.1
   ·split
    ·exact h
    ·exact OI h'.2.2.1
theorem OP:∀{T:AT}{v:Int}{x:AT},x.ptr=(T.find v).ptr→T.find v≠nil→(T.Fu v x).ptr=T.ptr
 |nil,_,_,_,h=>(h rfl).elim
 |node b l r,v,x,hx,h=>by
  simp only[Fu]
  simp only[find]at hx h
  split
  ·rfl
  ·rename_i h1
   rw[if_neg h1]at hx h
   split
   ·rfl
   ·rename_i h2
    rw[if_neg h2]at hx h
    split
    ·rename_i h3;rw[if_pos h3]at hx;exact hx
    ·rfl
theorem Nr{h h':Array Obj}{x:AT}:∀{T:AT}{v:Int},T.In h→T.bl.Nodup→T.find v≠nil→x.In h'→x.ptr=(T.find v).ptr→(∀b∈T.bl,b∉(T.find v).bl→h'[b]?=h[b]?)→(T.Fu v x).In h'
 |nil,_,_,_,h,_,_,_=>(h rfl).elim
 |node b l r,v,hi,hn,hne,hx,hp,hs=>by
  simp only[bl,List.nodup_cons,Af,not_or,List.nodup_append]at hn
  obtain⟨⟨n1,n2⟩,n3,n4,n5⟩:=hn
  simp only[Fu]
  simp only[find]at hne hp hs
  by_cases h1:v<0
  ·rw[if_pos h1]at hne;exact(hne rfl).elim
  rw[if_neg h1]at hne hp hs⊢
  by_cases h2:v<l.size
  ·rw[if_pos h2]at hne hp hs⊢
   obtain⟨⟨e,g1⟩,g2,g3⟩:=hi
   refine⟨⟨e,?_⟩,Nr g2 n3 hne hx hp fun y hy hy2=>hs y (by simp[bl,hy]) hy2,g3.mono fun y hy=>hs y (by simp[bl,hy]) fun q=>n5 y (Ig q) y hy rfl⟩
   rw[hs b (by simp[bl]) (fun q=>n1 (Ig q)),g1,OP hp hne]
  ·rw[if_neg h2]at hne hp hs⊢
   by_cases h3:v=l.size
   ·rw[if_pos h3];exact hx
   ·rw[if_neg h3]at hne hp hs⊢
    obtain⟨⟨e,g1⟩,g2,g3⟩:=hi
    refine⟨⟨e,?_⟩,g2.mono fun y hy=>hs y (by simp[bl,hy]) fun q=>n5 y hy y (Ig q) rfl,Nr g3 n4 hne hx hp fun y hy hy2=>hs y (by simp[bl,hy]) hy2⟩
    rw[hs b (by simp[bl]) (fun q=>n2 (Ig q)),g1,OP hp hne]
def sh:AT→BT
 |nil=>.lf
 |node _ l r=>.nd l.sh r.sh
theorem GN:∀T:AT,T.size=T.sh.n
 |nil=>rfl
 |node _ l r=>by simp only[size,sh,BT.n,GN l,GN r]
theorem rd{fid:Nat→Nat}{h:Array Obj}{Z:Nat→Prop}:∀{T:AT},T.In h→(∀b∈T.bl,¬Z b)→Rd fid h Z T.sh.d T.ptr
 |nil,_,_=>by simp[sh,BT.d,ptr,Rd]
 |node b l r,⟨⟨e,h1⟩,h2,h3⟩,hz=>by
  simp only[sh,BT.d,ptr,Rd]
  refine⟨b,0,_,e,(0,0),rfl,h1,hz b (by simp[bl]),?_⟩
  simp only[List.drop_zero,AP]
  exact⟨rd h2 fun x hx=>hz x (by simp[bl,hx]),rd h3 fun x hx=>hz x (by simp[bl,hx]),trivial⟩
end AT
theorem BT.LD:∀(x:BT),∀c∈x.t,c<256
 |.lf,c,h=>by simp[BT.t]at h;omega
 |.nd l r,c,h=>by
  simp only[BT.t,Aa,Af,DA,or_false]at h
  rcases h with rfl|h|h|rfl
  ·omega
  ·exact BT.LD l c h
  ·exact BT.LD r c h
  ·omega
def BF:BT→Int→Option BT
 |.lf,_=>none
 |.nd l r,v=>if v<0 then none else if v<l.n then(BF l v).map fun x=>.nd x r else if v=l.n then(match l with
   |.lf=>none
   |.nd a b=>some (.nd a (.nd b r)))else(BF r (v-l.n-1)).map fun x=>.nd l x
def By:BT→Int→Option BT
 |.lf,_=>none
 |.nd l r,v=>if v<0 then none else if v<l.n then(By l v).map fun x=>.nd x r else if v=l.n then(match r with
   |.lf=>none
   |.nd b c=>some (.nd (.nd l b) c))else(By r (v-l.n-1)).map fun x=>.nd l x
theorem Fa:∀{x:BT}{v:Int}{y:BT},BF x v=some y→y.n=x.n
 |.lf,_,_,h=>by cases h
 |.nd l r,v,y,h=>by
  simp only[BF]at h
  split at h
  ·cases h
  ·split at h
   ·obtain⟨z,hz,rfl⟩:=A9.1 h
    simp only[BT.n,Fa hz]
   ·split at h
    ·cases l with
     |lf=>cases h
     |nd a b=>
      simp only[AI]at h
      subst h
      simp only[BT.n];omega
    ·obtain⟨z,hz,rfl⟩:=A9.1 h
     simp only[BT.n,Fa hz]
theorem J8:∀{x:BT}{v:Int}{y:BT},By x v=some y→y.n=x.n
 |.lf,_,_,h=>by cases h
 |.nd l r,v,y,h=>by
  simp only[By]at h
  split at h
  ·cases h
  ·split at h
   ·obtain⟨z,hz,rfl⟩:=A9.1 h
    simp only[BT.n,J8 hz]
   ·split at h
    ·cases r with
     |lf=>cases h
     |nd a b=>
      simp only[AI]at h
      subst h
      simp only[BT.n];omega
    ·obtain⟨z,hz,rfl⟩:=A9.1 h
     simp only[BT.n,J8 hz]
open AT in
theorem UK:∀{T:AT}{v:Int},T.find v=nil→BF T.sh v=none
 |nil,_,_=>rfl
 |node b l r,v,h=>by
  simp only[find]at h
  simp only[sh,BF,←GN]
  split
  ·rfl
  ·rename_i h1
   rw[if_neg h1]at h
   split
   ·rename_i h2
    rw[if_pos h2]at h
    rw[UK h];rfl
   ·rename_i h2
    rw[if_neg h2]at h
    split
    ·rename_i h3;rw[if_pos h3]at h;cases h
    ·rename_i h3;rw[if_neg h3]at h
     rw[UK h];rfl
open AT in
theorem R6:∀{T:AT}{v:Int}{b:Nat}{r:AT},T.find v=node b nil r→BF T.sh v=none
 |nil,_,_,_,h=>by simp[find]at h
 |node b l r,v,b0,r0,h=>by
  simp only[find]at h
  simp only[sh,BF,←GN]
  split
  ·rfl
  ·rename_i h1
   rw[if_neg h1]at h
   split
   ·rename_i h2
    rw[if_pos h2]at h
    rw[R6 h];rfl
   ·rename_i h2
    rw[if_neg h2]at h
    split
    ·rename_i h3;rw[if_pos h3]at h;injection h with _ h4 _;subst h4;rfl
    ·rename_i h3;rw[if_neg h3]at h
     rw[R6 h];rfl
open AT in
theorem TQ:∀{T:AT}{v:Int}{b b1 nb:Nat}{a2 b2 c2:AT},T.find v=node b (node b1 a2 b2) c2→BF T.sh v=some (T.Fu v (node b a2 (node nb b2 c2))).sh
 |nil,_,_,_,_,_,_,_,h=>by simp[find]at h
 |node b0 l r,v,b,b1,nb,a2,b2,c2,h=>by
  simp only[find]at h
  simp only[sh,BF,←GN,Fu]
  split
  ·rename_i h1;rw[if_pos h1]at h;cases h
  ·rename_i h1
   rw[if_neg h1]at h
   split
   ·rename_i h2
    rw[if_pos h2]at h
    rw[TQ (nb:=nb) h];rfl
   ·rename_i h2
    rw[if_neg h2]at h
    split
    ·rename_i h3;rw[if_pos h3]at h;injection h with _ h4 h5;subst h4 h5;rfl
    ·rename_i h3;rw[if_neg h3]at h
     rw[TQ (nb:=nb) h];rfl
open AT in
theorem Uc:∀{T:AT}{v:Int},T.find v=nil→By T.sh v=none
 |nil,_,_=>rfl
 |node b l r,v,h=>by
  simp only[find]at h
  simp only[sh,By,←GN]
  split
  ·rfl
  ·rename_i h1
   rw[if_neg h1]at h
   split
   ·rename_i h2
    rw[if_pos h2]at h
    rw[Uc h];rfl
   ·rename_i h2
    rw[if_neg h2]at h
    split
    ·rename_i h3;rw[if_pos h3]at h;cases h
    ·rename_i h3;rw[if_neg h3]at h
     rw[Uc h];rfl
open AT in
theorem R4:∀{T:AT}{v:Int}{b:Nat}{l:AT},T.find v=node b l nil→By T.sh v=none
 |nil,_,_,_,h=>by simp[find]at h
 |node b l r,v,b0,r0,h=>by
  simp only[find]at h
  simp only[sh,By,←GN]
  split
  ·rfl
  ·rename_i h1
   rw[if_neg h1]at h
   split
   ·rename_i h2
    rw[if_pos h2]at h
    rw[R4 h];rfl
   ·rename_i h2
    rw[if_neg h2]at h
    split
    ·rename_i h3;rw[if_pos h3]at h;injection h with _ _ h4;subst h4;rfl
    ·rename_i h3;rw[if_neg h3]at h
     rw[R4 h];rfl
open AT in
theorem Rj:∀{T:AT}{v:Int}{b b1 nb:Nat}{a2 b2 c2:AT},T.find v=node b a2 (node b1 b2 c2)→By T.sh v=some (T.Fu v (node b (node nb a2 b2) c2)).sh
 |nil,_,_,_,_,_,_,_,h=>by simp[find]at h
 |node b0 l r,v,b,b1,nb,a2,b2,c2,h=>by
  simp only[find]at h
  simp only[sh,By,←GN,Fu]
  split
  ·rename_i h1;rw[if_pos h1]at h;cases h
  ·rename_i h1
   rw[if_neg h1]at h
   split
   ·rename_i h2
    rw[if_pos h2]at h
    rw[Rj (nb:=nb) h];rfl
   ·rename_i h2
    rw[if_neg h2]at h
    split
    ·rename_i h3;rw[if_pos h3]at h;injection h with _ h4 h5;subst h4 h5;rfl
    ·rename_i h3;rw[if_neg h3]at h
     rw[Rj (nb:=nb) h];rfl
open Go.RowKit in
section
open Go.RowKit
def Gr(w w':World):Prop:=w.heap.size≤w'.heap.size∧(∀b,b<w.heap.size→w'.heap[b]?=w.heap[b]?)∧w'.os=w.os∧w'.tape=w.tape∧w'.output=w.output
theorem Gr.refl(w:World):Gr w w:=⟨Nat.le_refl _,fun _ _=>rfl,rfl,rfl,rfl⟩
theorem Gr.trans{a b c:World}(h:Gr a b)(k:Gr b c):Gr a c:=
 ⟨Nat.le_trans h.1 k.1,fun x hx=>(k.2.1 x (Nat.lt_of_lt_of_le hx h.1)).trans (h.2.1 x hx),k.2.2.1.trans h.2.2.1,k.2.2.2.1.trans h.2.2.2.1,k.2.2.2.2.trans h.2.2.2.2⟩
theorem Gr.drew(w:World):Gr w w.drew:=⟨Nat.le_refl _,fun _ _=>rfl,rfl,rfl,rfl⟩
theorem Gr.alloc(w:World)(o:Obj):Gr w (w.alloc o):=by have h:=D0 w o (fun _=>False);exact⟨h.size,fun b hb=>h.same b hb id,rfl,rfl,rfl⟩
theorem AT.Ho(T:AT):∃u,T.ptr=.pointer u:=by cases T<;>exact⟨_,rfl⟩
theorem AER{s:List Nat}{S:ByteArray}(hS:BL s=.string S)(hs:∀c∈s,c<256):S.size=s.length∧∀i,(h:i<S.size)→∀c,s[i]?=some c→(S[i].toNat:Int)=c:=by
 unfold BL at hS;injection hS with hS;subst hS;have hsz:(ByteArray.mk (s.map fun c=>UInt8.ofNat c).toArray).size=s.length:=by simp[ByteArray.size]
 refine⟨hsz,fun i h c hc=>?_⟩;have hi:i<s.length:=by rw[hsz]at h;exact h
 have hc2:s[i]=c:=by simpa[hi]using hc
 have h256:=hs _ (List.getElem_mem hi);show((((s.map fun c=>UInt8.ofNat c).toArray)[i]'(by simpa using hi)).toNat:Int)=c;simp only[List.getElem_toArray,List.getElem_map];rw[hc2]at h256⊢;simp[UInt8.toNat_ofNat,Nat.mod_eq_of_lt h256]
theorem I3{w:World}{b:Nat}{l r:AT}(h:(AT.node b l r).In w.heap):w.cell? ⟨b,0,none⟩=some l.ptr∧w.cell? ⟨b,1,none⟩=some r.ptr∧w.frozen? ⟨b,0,none⟩=false∧w.frozen? ⟨b,1,none⟩=false:=by obtain⟨⟨e,h⟩,_⟩:=h;simp[World.cell?,World.frozen?,h]
theorem NO{w w':World}{T:AT}(h:T.In w.heap)(g:Gr w w'):T.In w'.heap:=h.mono fun b hb=>g.2.1 b (h.lt b hb)
theorem B6{p:Prop}(h:p):Hid p:=h
def K3(P:Program)(f:Nat):Prop:=∀(T:AT)(w:World),T.In w.heap→T.sh.n≤8→Calls P f #[T.ptr] w fun e w'=>e=.returned (.int .i64 (T.size:Int))∧Hid (Gr w w')
def TXT(P:Program)(f:Nat):Prop:=∀(T:AT)(w:World),T.In w.heap→T.sh.n≤8→Calls P f #[T.ptr] w fun e w'=>e=.returned (BL T.sh.t)∧Hid (Gr w w')
theorem Kd{w:World}{b k:Nat}{cs:Array Value}{e:TypeId}{u:Value}(h:w.heap[b]?=some (.cells cs e (0,0))):(w.setCell ⟨b,k,none⟩ u).heap[b]?=some (.cells (cs.setIfInBounds k u) e (0,0))∧(∀x,x≠b→(w.setCell ⟨b,k,none⟩ u).heap[x]?=w.heap[x]?)∧(w.setCell ⟨b,k,none⟩ u).heap.size=w.heap.size:=by
 refine⟨?_,fun x hx=>?_,by simp[World.setCell]⟩
 ·simp only[World.setCell,Array.getElem?_modify,if_true,h];rfl
 ·simp only[World.setCell,Array.getElem?_modify];rw[if_neg (Ne.symm hx)]
theorem Xg{P:Program}{fid:Nat→Nat}{f:Nat}{T:AT}{r:D}(h:GY P fid f ⟨[.v],[.v],[],none⟩ [T.sh.d] [r])(w:World)(hi:T.In w.heap):
  Calls P f #[T.ptr] w fun e w'=>∃v,e=.returned v∧Rd fid w'.heap (fun _=>False) r v∧Gr w w':=by
 refine(h w (fun _=>False) [T.ptr] [] List.nodup_nil (fun b hb=>hb.elim) ?_ trivial).mono ?_
 ·simp only[BV,AF];exact⟨[],[],rfl,⟨rfl,AT.rd hi fun b _ hz=>by simp at hz⟩,rfl⟩
 ·rintro e w' ⟨v,vs,B',rfl,ht,hl,hA,h1,h2,h3,_,_,hE⟩;match vs,hl with
  |[v0],_=>
   have hv:v=v0:=ht
   subst hv
   simp only[Sg.outs,List.map_nil,List.append_nil,BV,AF]at hE
   obtain⟨B1,B2,rfl,⟨rfl,hr⟩,rfl⟩:=hE
   refine⟨v,rfl,hr.mono fun b _ q=>q.elim,hA.size,fun b hb=>hA.same b hb (by simp),h1,h2,h3⟩
theorem Ot{P:Program}{fid:Nat→Nat}{f:Nat}{s r:List Nat}{v:Int}{ok:Bool}(hr:(∀c∈r,c<256)∧r.length≤9223372036854775807)
  (h:(∀c∈s,c<256)∧s.length≤9223372036854775807→∀w,Calls P f #[BL s,.int .i64 v] w fun e w'=>e=.returned (.tuple #[BL r,.bool ok])∧Gr w w'):GY P fid f ⟨[.v,.v],[.v,.v],[],none⟩ [.s s,.n v] [.s r,.b ok]:=by
 intro w X args B hnd hX hE _;match args,hE with
 |[],hE=>simp[BV]at hE
 |[_],hE=>simp[BV]at hE
 |_::_::_::_,hE=>simp[BV]at hE
 |[v0,v1],hE=>
  simp only[BV,AF,Rd]at hE
  obtain⟨B1,B2,rfl,⟨rfl,rfl,hs⟩,B3,B4,rfl,⟨rfl,rfl⟩,rfl⟩:=hE
  refine(h hs w).mono ?_
  rintro e w' ⟨rfl,g1,g2,g3,g4,g5⟩
  refine⟨_,[BL r,.bool ok],[],rfl,rfl,rfl,⟨g1,fun b hb _=>g2 b hb⟩,g3,g4,g5,List.nodup_nil,by simp,?_⟩
  simp only[Sg.outs,List.map_nil,List.append_nil,BV,AF,Rd]
  exact⟨[],[],rfl,⟨rfl,trivial,hr⟩,[],[],rfl,⟨rfl,trivial⟩,rfl⟩
end
section
open Go.RowKit
theorem AXB{P:Program}{fid:Nat→Nat}{f:Nat}{s:List Nat}{v:Int}(hs:(∀c∈s,c<256)∧s.length≤9223372036854775807)(h:GY P fid f ⟨[.v,.v],[.v,.v],[],none⟩ [.s s,.n v] [.z,.z])(w:World):
  Calls P f #[BL s,.int .i64 v] w fun e w'=>e=.returned (.tuple #[.pointer none,.pointer none])∧Hid (Gr w w'):=by
 refine(h w (fun _=>False) [BL s,.int .i64 v] [] List.nodup_nil (fun b hb=>hb.elim) ?_ trivial).mono ?_
 ·simp only[BV,AF,Rd];exact⟨[],[],rfl,⟨rfl,trivial,hs⟩,[],[],rfl,⟨rfl,trivial⟩,rfl⟩
 ·rintro e w' ⟨v,vs,B',rfl,ht,hl,hA,h1,h2,h3,_,_,hE⟩;match vs,hl with
  |[v0,v1],_=>
   have hv:v=.tuple #[v0,v1]:=ht
   subst hv
   simp only[Sg.outs,List.map_nil,List.append_nil,BV,AF,Rd]at hE
   obtain⟨B1,B2,rfl,⟨rfl,rfl⟩,B3,B4,rfl,⟨rfl,rfl⟩,rfl⟩:=hE
   exact⟨rfl,hA.size,fun b hb=>hA.same b hb (by simp),h1,h2,h3⟩
end
class El(K:Nat→List D→List D→Prop):Prop where
 rr:∀(x:BT)(v:Int),x.n≤8→-1000000000≤v→v≤9223372036854775807→K 200 [.s x.t,.n v] [.s ((BF x v).elim [] BT.t),.b (BF x v).isSome]
 rl:∀(x:BT)(v:Int),x.n≤8→-1000000000≤v→v≤9223372036854775807→K 202 [.s x.t,.n v] [.s ((By x v).elim [] BT.t),.b (By x v).isSome]
 rrn:∀(s:List Nat)(v:Int),Ct s=false→K 200 [.s s,.n v] [.s [],.b false]
 rln:∀(s:List Nat)(v:Int),Ct s=false→K 202 [.s s,.n v] [.s [],.b false]
variable{K:Nat→List D→List D→Prop}
theorem Ac0[HA K]{s:List Nat}{v:Int}(h:Ct s=false):K 210 [.s s,.n v] [.z,.z]:=by refine qb AKX rfl ?_;simp only[AKX];simp(disch:=omega) only[AA];refine AD (SE (K:=K) h) rfl ?_;simp(disch:=omega) only[AA]
end Go.Cat
