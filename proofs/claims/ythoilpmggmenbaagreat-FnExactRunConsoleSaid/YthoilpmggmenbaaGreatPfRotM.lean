/-
 Trees in memory, each node in a block of its own.
-/
import Derived.Test.YthoilpmggmenbaaGreatPfStat
set_option linter.unusedSimpArgs false
set_option linter.unusedVariables false
namespace Go.Cat
inductive AT where
 |nil
 |node(b:Nat)(l r:AT)
namespace AT
def ptr:AT->Value
 |nil=>.pointer none
 |node b _ _=>.pointer (some ⟨b,0,none⟩)
def In(h:Array Obj):AT->Prop
 |nil=>True
 |node b l r=>(∃e,h[b]?=some (.cells #[l.ptr,r.ptr] e (0,0)))/\l.In h/\r.In h
def bl:AT->List Nat
 |nil=>[]
 |node b l r=>b::(l.bl++r.bl)
def size:AT->Nat
 |nil=>0
 |node _ l r=>l.size+r.size+1
def find:AT->Int->AT
 |nil,_=>nil
 |node b l r,v=>if v<0 then nil else if v<l.size then l.find v else if v=l.size then node b l r else r.find (v-l.size-1)
def HI:AT->Int->AT->AT
 |nil,_,_=>nil
 |node b l r,v,x=>if v<0 then node b l r else if v<l.size then node b (l.HI v x) r else if v=l.size then x else node b l (r.HI (v-l.size-1) x)
theorem In.mono{h a:Array Obj}:∀{T:AT},T.In h->(∀b∈T.bl,a[b]?=h[b]?)->T.In a
 |nil,_,_=>trivial
 |node b l r,⟨⟨e,c⟩,f,g⟩,s=>⟨⟨e,by rw[s b (by simp[bl]),c]⟩,f.mono λx H=>s x (by simp[bl,H]),g.mono λx H=>s x (by simp[bl,H])⟩
theorem In.lt{h:Array Obj}:∀{T:AT},T.In h->∀b∈T.bl,b<h.size
 |node b l r,⟨⟨e,a⟩,c,f⟩,x,H=>by simp only[bl,A7,Ac]at H;rcases H with rfl|H|H;exact Cw a;exact c.lt x H;exact f.lt x H
theorem Mg{h:Array Obj}:∀{T:AT}{v:Int},T.In h->(T.find v).In h
 |nil,_,_=>trivial
 |node b l r,v,hi=>by simp only[find];split;trivial;split;exact Mg hi.2.1;split;exact hi;exact Mg hi.2.2
theorem KT:∀{T:AT}{v:Int}{x:Nat},x∈(T.find v).bl->x∈T.bl
 |nil,_,_,h=>h
 |node b l r,v,x,h=>by simp only[find]at h;split at h;simp[bl]at h;split at h;simp[bl,KT h];split at h;exact h;simp[bl,KT h]
theorem QT:∀{T:AT}{v:Int},T.bl.Nodup->(T.find v).bl.Nodup
 |nil,_,h=>h
 |node b l r,v,h=>by simp only[find];have H:=h;simp only[bl,List.nodup_cons,List.nodup_append]at H;split;exact List.nodup_nil;split;exact QT H.2.1;split;exact h;exact QT H.2.2.1
theorem S2:∀{T:AT}{v:Int}{x:AT},x.ptr=(T.find v).ptr->T.find v≠nil->(T.HI v x).ptr=T.ptr
 |nil,_,_,_,h=>(h rfl).elim
 |node b l r,v,x,H,h=>by simp only[HI];simp only[find]at H h;split;rfl;rename_i a;rw[if_neg a]at H h;split;rfl;rename_i c;rw[if_neg c]at H h;split;rename_i e;rw[if_pos e]at H;exact H;rfl
theorem TD{h j:Array Obj}{x:AT}:∀{T:AT}{v:Int},T.In h->T.bl.Nodup->T.find v≠nil->x.In j->x.ptr=(T.find v).ptr->(∀b∈T.bl,b∉(T.find v).bl->j[b]?=h[b]?)->(T.HI v x).In j
 |nil,_,_,_,h,_,_,_=>(h rfl).elim
 |node b l r,v,hi,F,H,k,a,s=>by simp only[bl,List.nodup_cons,Ac,not_or,List.nodup_append]at F;obtain⟨⟨I,J⟩,L,M,N⟩:=F;simp only[HI];simp only[find]at H a s;by_cases o:v<0;rw[if_pos o]at H;exact(H rfl).elim;rw[if_neg o]at H a s|-;by_cases B:v<l.size;rw[if_pos B]at H a s|-;obtain⟨⟨e,g⟩,G,i⟩:=hi;refine⟨⟨e,?_⟩,TD G L H k a λy c f=>s y (by simp[bl,c]) f,i.mono λy c=>s y (by simp[bl,c]) λq=>N y (KT q) y c rfl⟩;rw[s b (by simp[bl]) (λq=>I (KT q)),g,S2 a H];rw[if_neg B]at H a s|-;by_cases C:v=l.size;rw[if_pos C];exact k;rw[if_neg C]at H a s|-;obtain⟨⟨e,g⟩,G,i⟩:=hi;refine⟨⟨e,?_⟩,G.mono λy c=>s y (by simp[bl,c]) λq=>N y c y (KT q) rfl,TD i M H k a λy c f=>s y (by simp[bl,c]) f⟩;rw[s b (by simp[bl]) (λq=>J (KT q)),g,S2 a H]
def sh:AT->BT
 |nil=>.lf
 |node _ l r=>.nd l.sh r.sh
theorem Hf:∀T:AT,T.size=T.sh.n
 |nil=>rfl
 |node _ l r=>by simp only[size,sh,BT.n,Hf l,Hf r]
theorem rd{fid:Nat->Nat}{h:Array Obj}{Z:Nat->Prop}:∀{T:AT},T.In h->(∀b∈T.bl,¬Z b)->Rd fid h Z T.sh.d T.ptr
 |nil,_,_=>by simp[sh,BT.d,ptr,Rd]
 |node b l r,⟨⟨e,c⟩,f,g⟩,a=>by simp only[sh,BT.d,ptr,Rd];refine⟨b,0,_,e,(0,0),rfl,c,a b (by simp[bl]),?_⟩;simp only[List.drop_zero,AS];exact⟨rd f λx H=>a x (by simp[bl,H]),rd g λx H=>a x (by simp[bl,H]),trivial⟩
end AT
theorem BT.N6:∀(x:BT),∀c∈x.t,c<256
 |.lf,c,h=>by simp[BT.t]at h;omega
 |.nd l r,c,h=>by simp only[BT.t,A7,Ac,D4,or_false]at h;rcases h with rfl|h|h|rfl;omega;exact BT.N6 l c h;exact BT.N6 r c h;omega
def BB:BT->Int->Option BT
 |.lf,_=>none
 |.nd l r,v=>if v<0 then none else if v<l.n then(BB l v).map λx=>.nd x r else if v=l.n then(match l with
   |.lf=>none
   |.nd a b=>some (.nd a (.nd b r)))else(BB r (v-l.n-1)).map λx=>.nd l x
def CU:BT->Int->Option BT
 |.lf,_=>none
 |.nd l r,v=>if v<0 then none else if v<l.n then(CU l v).map λx=>.nd x r else if v=l.n then(match r with
   |.lf=>none
   |.nd b c=>some (.nd (.nd l b) c))else(CU r (v-l.n-1)).map λx=>.nd l x
theorem GK:∀{x:BT}{v:Int}{y:BT},BB x v=some y->y.n=x.n
 |.lf,_,_,h=>by cases h
 |.nd l r,v,y,h=>by
  simp only[BB]at h;split at h
  cases h;split at h;obtain⟨z,H,rfl⟩:=Ag.1 h;simp only[BT.n,GK H];split at h
  cases l with
  |lf=>cases h
  |nd a b=>
   simp only[AL]at h
   subst h
   simp only[BT.n];omega
  obtain⟨z,H,rfl⟩:=Ag.1 h;simp only[BT.n,GK H]
theorem LK:∀{x:BT}{v:Int}{y:BT},CU x v=some y->y.n=x.n
 |.lf,_,_,h=>by cases h
 |.nd l r,v,y,h=>by
  simp only[CU]at h;split at h
  cases h;split at h;obtain⟨z,H,rfl⟩:=Ag.1 h;simp only[BT.n,LK H];split at h
  cases r with
  |lf=>cases h
  |nd a b=>
   simp only[AL]at h
   subst h
   simp only[BT.n];omega
  obtain⟨z,H,rfl⟩:=Ag.1 h;simp only[BT.n,LK H]
open AT in
theorem V7:∀{T:AT}{v:Int},T.find v=nil->BB T.sh v=none
 |nil,_,_=>rfl
 |node b l r,v,h=>by simp only[find]at h;simp only[sh,BB,<-Hf];split;rfl;rename_i c;rw[if_neg c]at h;split;rename_i H;rw[if_pos H]at h;rw[V7 h]<;>rfl;rename_i H;rw[if_neg H]at h;split;rename_i a;rw[if_pos a]at h;cases h;rename_i a;rw[if_neg a]at h;rw[V7 h]<;>rfl
open AT in
theorem UE:∀{T:AT}{v:Int}{b:Nat}{r:AT},T.find v=node b nil r->BB T.sh v=none
 |nil,_,_,_,h=>by simp[find]at h
 |node b l r,v,B,R,h=>by simp only[find]at h;simp only[sh,BB,<-Hf];split;rfl;rename_i c;rw[if_neg c]at h;split;rename_i H;rw[if_pos H]at h;rw[UE h]<;>rfl;rename_i H;rw[if_neg H]at h;split;rename_i a;rw[if_pos a]at h;injection h with _ e _;subst e;rfl;rename_i a;rw[if_neg a]at h;rw[UE h]<;>rfl
open AT in
theorem Uh:∀{T:AT}{v:Int}{b b1 nb:Nat}{a2 b2 c2:AT},T.find v=node b (node b1 a2 b2) c2->BB T.sh v=some (T.HI v (node b a2 (node nb b2 c2))).sh
 |nil,_,_,_,_,_,_,_,h=>by simp[find]at h
 |node B l r,v,b,b1,nb,a2,b2,c2,h=>by simp only[find]at h;simp only[sh,BB,<-Hf,HI];split;rename_i H;rw[if_pos H]at h;cases h;rename_i H;rw[if_neg H]at h;split;rename_i a;rw[if_pos a]at h;rw[Uh (nb:=nb) h]<;>rfl;rename_i a;rw[if_neg a]at h;split;rename_i c;rw[if_pos c]at h;injection h with _ e f;subst e f;rfl;rename_i c;rw[if_neg c]at h;rw[Uh (nb:=nb) h]<;>rfl
open AT in
theorem UM:∀{T:AT}{v:Int},T.find v=nil->CU T.sh v=none
 |nil,_,_=>rfl
 |node b l r,v,h=>by simp only[find]at h;simp only[sh,CU,<-Hf];split;rfl;rename_i c;rw[if_neg c]at h;split;rename_i H;rw[if_pos H]at h;rw[UM h]<;>rfl;rename_i H;rw[if_neg H]at h;split;rename_i a;rw[if_pos a]at h;cases h;rename_i a;rw[if_neg a]at h;rw[UM h]<;>rfl
open AT in
theorem UC:∀{T:AT}{v:Int}{b:Nat}{l:AT},T.find v=node b l nil->CU T.sh v=none
 |nil,_,_,_,h=>by simp[find]at h
 |node b l r,v,B,R,h=>by simp only[find]at h;simp only[sh,CU,<-Hf];split;rfl;rename_i c;rw[if_neg c]at h;split;rename_i H;rw[if_pos H]at h;rw[UC h]<;>rfl;rename_i H;rw[if_neg H]at h;split;rename_i a;rw[if_pos a]at h;injection h with _ _ e;subst e;rfl;rename_i a;rw[if_neg a]at h;rw[UC h]<;>rfl
open AT in
theorem Yq:∀{T:AT}{v:Int}{b b1 nb:Nat}{a2 b2 c2:AT},T.find v=node b a2 (node b1 b2 c2)->CU T.sh v=some (T.HI v (node b (node nb a2 b2) c2)).sh
 |nil,_,_,_,_,_,_,_,h=>by simp[find]at h
 |node B l r,v,b,b1,nb,a2,b2,c2,h=>by simp only[find]at h;simp only[sh,CU,<-Hf,HI];split;rename_i H;rw[if_pos H]at h;cases h;rename_i H;rw[if_neg H]at h;split;rename_i a;rw[if_pos a]at h;rw[Yq (nb:=nb) h]<;>rfl;rename_i a;rw[if_neg a]at h;split;rename_i c;rw[if_pos c]at h;injection h with _ e f;subst e f;rfl;rename_i c;rw[if_neg c]at h;rw[Yq (nb:=nb) h]<;>rfl
open Go.RowKit in
section
open Go.RowKit
def Gr(w w':World):Prop:=w.heap.size<=w'.heap.size/\(∀b,b<w.heap.size->w'.heap[b]?=w.heap[b]?)/\w'.os=w.os/\w'.tape=w.tape/\w'.output=w.output
theorem Gr.refl(w:World):Gr w w:=⟨Nat.le_refl _,λ_ _=>rfl,rfl,rfl,rfl⟩
theorem Gr.trans{a b c:World}(h:Gr a b)(k:Gr b c):Gr a c:=
 ⟨Nat.le_trans h.1 k.1,λx H=>(k.2.1 x (Nat.lt_of_lt_of_le H h.1)).trans (h.2.1 x H),k.2.2.1.trans h.2.2.1,k.2.2.2.1.trans h.2.2.2.1,k.2.2.2.2.trans h.2.2.2.2⟩
theorem Gr.drew(w:World):Gr w w.drew:=⟨Nat.le_refl _,λ_ _=>rfl,rfl,rfl,rfl⟩
theorem Gr.alloc(w:World)(o:Obj):Gr w (w.alloc o):=by have h:=EE w o (λ_=>False);exact⟨h.size,λb H=>h.same b H id,rfl,rfl,rfl⟩
theorem AT.JS(T:AT):∃u,T.ptr=.pointer u:=by cases T<;>exact⟨_,rfl⟩
theorem AHR{s:List Nat}{S:ByteArray}(b:BQ s=.string S)(g:∀c∈s,c<256):S.size=s.length/\∀i,(h:i<S.size)->∀c,s[i]?=some c->(S[i].toNat:Int)=c:=by
 unfold BQ at b;injection b with b;subst b;have a:(ByteArray.mk (s.map λc=>UInt8.ofNat c).toArray).size=s.length:=by simp[ByteArray.size]
 refine⟨a,λi h c f=>?_⟩;have hi:i<s.length:=by rw[a]at h;exact h
 have e:s[i]=c:=by simpa[hi]using f
 have H:=g _ (List.getElem_mem hi);show((((s.map λc=>UInt8.ofNat c).toArray)[i]'(by simpa using hi)).toNat:Int)=c;simp only[List.getElem_toArray,List.getElem_map];rw[e]at H|-;simp[UInt8.toNat_ofNat,Nat.mod_eq_of_lt H]
theorem Kg{w:World}{b:Nat}{l r:AT}(h:(AT.node b l r).In w.heap):w.cell? ⟨b,0,none⟩=some l.ptr/\w.cell? ⟨b,1,none⟩=some r.ptr/\w.frozen? ⟨b,0,none⟩=false/\w.frozen? ⟨b,1,none⟩=false:=by obtain⟨⟨e,h⟩,_⟩:=h;simp[World.cell?,World.frozen?,h]
theorem PG{w w':World}{T:AT}(h:T.In w.heap)(g:Gr w w'):T.In w'.heap:=h.mono λb H=>g.2.1 b (h.lt b H)
theorem B7{p:Prop}(h:p):Hid p:=h
def N2(P:Program)(f:Nat):Prop:=∀(T:AT)(w:World),T.In w.heap->T.sh.n<=8->Calls P f #[T.ptr] w λe w'=>e=.returned (.int .i64 (T.size:Int))/\Hid (Gr w w')
def TXT(P:Program)(f:Nat):Prop:=∀(T:AT)(w:World),T.In w.heap->T.sh.n<=8->Calls P f #[T.ptr] w λe w'=>e=.returned (BQ T.sh.t)/\Hid (Gr w w')
theorem Md{w:World}{b k:Nat}{cs:Array Value}{e:TypeId}{u:Value}(h:w.heap[b]?=some (.cells cs e (0,0))):(w.setCell ⟨b,k,none⟩ u).heap[b]?=some (.cells (cs.setIfInBounds k u) e (0,0))/\(∀x,x≠b->(w.setCell ⟨b,k,none⟩ u).heap[x]?=w.heap[x]?)/\(w.setCell ⟨b,k,none⟩ u).heap.size=w.heap.size:=by refine⟨?_,λx H=>?_,by simp[World.setCell]⟩;simp only[World.setCell,Array.getElem?_modify,if_true,h];rfl;simp only[World.setCell,Array.getElem?_modify];rw[if_neg (Ne.symm H)]
theorem ADS{P:Program}{fid:Nat->Nat}{f:Nat}{T:AT}{r:D}(h:H7 P fid f ⟨[.v],[.v],[],none⟩ [T.sh.d] [r])(w:World)(hi:T.In w.heap):
  Calls P f #[T.ptr] w λe w'=>∃v,e=.returned v/\Rd fid w'.heap (λ_=>False) r v/\Gr w w':=by
 refine(h w (λ_=>False) [T.ptr] [] List.nodup_nil (λb H=>H.elim) ?_ trivial).mono ?_
 .simp only[BU,AE];exact⟨[],[],rfl,⟨rfl,AT.rd hi λb _ x=>by simp at x⟩,rfl⟩
 .rintro e w' ⟨v,vs,B,rfl,o,l,a,g,i,j,_,_,c⟩;match vs,l with
  |[V],_=>
   have s:v=V:=o
   subst s
   simp only[Sg.outs,List.map_nil,List.append_nil,BU,AE]at c
   obtain⟨B1,B2,rfl,⟨rfl,k⟩,rfl⟩:=c
   refine⟨v,rfl,k.mono λb _ q=>q.elim,a.size,λb H=>a.same b H (by simp),g,i,j⟩
theorem Sz{P:Program}{fid:Nat->Nat}{f:Nat}{s r:List Nat}{v:Int}{o:Bool}(q:(∀c∈r,c<256)/\r.length<=9223372036854775807)
  (h:(∀c∈s,c<256)/\s.length<=9223372036854775807->∀w,Calls P f #[BQ s,.int .i64 v] w λe w'=>e=.returned (.tuple #[BQ r,.bool o])/\Gr w w'):H7 P fid f ⟨[.v,.v],[.v,.v],[],none⟩ [.s s,.n v] [.s r,.b o]:=by
 intro w X args B l hX H _;match args,H with
 |[],H=>simp[BU]at H
 |[_],H=>simp[BU]at H
 |_::_::_::_,H=>simp[BU]at H
 |[V,v1],H=>
  simp only[BU,AE,Rd]at H
  obtain⟨B1,B2,rfl,⟨rfl,rfl,x⟩,C,F,rfl,⟨rfl,rfl⟩,rfl⟩:=H
  refine(h x w).mono ?_
  rintro e w' ⟨rfl,g,G,a,i,j⟩
  refine⟨_,[BQ r,.bool o],[],rfl,rfl,rfl,⟨g,λb k _=>G b k⟩,a,i,j,List.nodup_nil,by simp,?_⟩
  simp only[Sg.outs,List.map_nil,List.append_nil,BU,AE,Rd]
  exact⟨[],[],rfl,⟨rfl,trivial,q⟩,[],[],rfl,⟨rfl,trivial⟩,rfl⟩
end
section
open Go.RowKit
theorem AZT{P:Program}{fid:Nat->Nat}{f:Nat}{s:List Nat}{v:Int}(o:(∀c∈s,c<256)/\s.length<=9223372036854775807)(h:H7 P fid f ⟨[.v,.v],[.v,.v],[],none⟩ [.s s,.n v] [.z,.z])(w:World):
  Calls P f #[BQ s,.int .i64 v] w λe w'=>e=.returned (.tuple #[.pointer none,.pointer none])/\Hid (Gr w w'):=by
 refine(h w (λ_=>False) [BQ s,.int .i64 v] [] List.nodup_nil (λb H=>H.elim) ?_ trivial).mono ?_
 .simp only[BU,AE,Rd];exact⟨[],[],rfl,⟨rfl,trivial,o⟩,[],[],rfl,⟨rfl,trivial⟩,rfl⟩
 .rintro e w' ⟨v,vs,B,rfl,q,l,a,i,j,k,_,_,g⟩;match vs,l with
  |[V,v1],_=>
   have x:v=.tuple #[V,v1]:=q
   subst x
   simp only[Sg.outs,List.map_nil,List.append_nil,BU,AE,Rd]at g
   obtain⟨B1,B2,rfl,⟨rfl,rfl⟩,C,F,rfl,⟨rfl,rfl⟩,rfl⟩:=g
   exact⟨rfl,a.size,λb H=>a.same b H (by simp),i,j,k⟩
end
class Ds(K:Nat->List D->List D->Prop):Prop where
 rr:∀(x:BT)(v:Int),x.n<=8->-1000000000<=v->v<=9223372036854775807->K 200 [.s x.t,.n v] [.s ((BB x v).elim [] BT.t),.b (BB x v).isSome]
 rl:∀(x:BT)(v:Int),x.n<=8->-1000000000<=v->v<=9223372036854775807->K 202 [.s x.t,.n v] [.s ((CU x v).elim [] BT.t),.b (CU x v).isSome]
 rrn:∀(s:List Nat)(v:Int),Az s=false->K 200 [.s s,.n v] [.s [],.b false]
 rln:∀(s:List Nat)(v:Int),Az s=false->K 202 [.s s,.n v] [.s [],.b false]
variable{K:Nat->List D->List D->Prop}
theorem AYV[HA K]{s:List Nat}{v:Int}(h:Az s=false):K 210 [.s s,.n v] [.z,.z]:=by refine qw I210 ?_;exact cZ (Qu h)
end Go.Cat
