/-
 Rows that are owned, sorted by the library; the comparison by hand.
-/
import Derived.Test.YtgncagjobmbmaaaRows
import Derived.Test.YtgncagjobmbmaaaPfRotM
import Derived.WalkKit
import Derived.Below
import Derived.Deep.DeepMust
import Derived.Test.YtgncagjobmbmaaaPfHsrt
import Derived.Test.YtgncagjobmbmaaaCatDel
import Derived.Shelf.SlSortCmp.NoneTotal
import Derived.Test.YtgncagjobmbmaaaSeatClaimOfFrieze
set_option linter.unusedSimpArgs false
set_option linter.unusedVariables false
namespace Go.Proofs.Ytgncagjobmbmaaa.fnExactClaimOfFrieze
open Go Go.Cat Go.RowKit Go.Proofs.Ytgncagjobmbmaaa
def cN (x y:Int):Int:=if x<y then -1 else if y<x then 1 else 0
def cR (x0 x1 y0 y1:Int):Int:=if cN x0 y0≠0 then cN x0 y0 else cN x1 y1
set_option maxHeartbeats 400000 in
set_option maxRecDepth 1000000 in
theorem nan (x:Int) (w:World):Calls Try.prog 145 #[.int .i64 x] w (fun e w'=>e=.returned (.bool false)∧w'=w):=by
 go_enter Try.func145,Try.ntmps145
 go_wp2
 go_ret
 simp
set_option maxHeartbeats 400000 in
set_option maxRecDepth 1000000 in
theorem cmpN (x y:Int) (w:World):Calls Try.prog 123 #[.int .i64 x,.int .i64 y] w (fun e w'=>e=.returned (.int .i64 (cN x y))∧w'=w):=by
 have k:=fun x w=>nan x w
 by_cases h1:x<y
 ·rw [show cN x y=-1 by simp only [cN,if_pos h1]]
  go_enter Try.func123,Try.ntmps123
  go_wp2_with (go_at_call 145; refine (k _ _).mono ?_; rintro e w' ⟨rfl,rfl⟩)
  go_ret
  exact ⟨rfl,rfl⟩
 ·by_cases h2:y<x
  ·rw [show cN x y=1 by simp only [cN,if_neg h1,if_pos h2]]
   go_enter Try.func123,Try.ntmps123
   go_wp2_with (go_at_call 145; refine (k _ _).mono ?_; rintro e w' ⟨rfl,rfl⟩)
   go_ret
   exact ⟨rfl,rfl⟩
  ·rw [show cN x y=0 by simp only [cN,if_neg h1,if_neg h2]]
   go_enter Try.func123,Try.ntmps123
   go_wp2_with (go_at_call 145; refine (k _ _).mono ?_; rintro e w' ⟨rfl,rfl⟩)
   go_ret
   exact ⟨rfl,rfl⟩
set_option maxHeartbeats 800000 in
set_option maxRecDepth 1000000 in
theorem cmpR (b1 o1 c1 b2 o2 c2:Nat) (x0 x1 y0 y1:Int) (w:World)
  (h0:w.cell? ⟨b1,o1,none⟩=some (.int .i64 x0)) (h1:w.cell? ⟨b1,o1+1,none⟩=some (.int .i64 x1)) (g0:w.cell? ⟨b2,o2,none⟩=some (.int .i64 y0)) (g1:w.cell? ⟨b2,o2+1,none⟩=some (.int .i64 y1)):
  Calls Try.prog 92 #[.slice (some ⟨b1,o1,none⟩) 2 c1,.slice (some ⟨b2,o2,none⟩) 2 c2] w (fun e w'=>e=.returned (.int .i64 (cR x0 x1 y0 y1))∧w'=w):=by
 have k:=fun x y w=>cmpN x y w
 go_enter Try.func92,Try.ntmps92
 go_wp2
 refine wp_loop_rounds 3 ?_
 rw [rounds_succ]
 go_wp2_with (go_at_call 123; refine (k _ _ _).mono ?_; rintro e w' ⟨rfl,rfl⟩)
 ·rename_i hz
  have hc:cR x0 x1 y0 y1=cN x0 y0:=by
   unfold cR
   rw [if_pos (by simpa using hz)]
  rw [hc]
  go_ret
  exact ⟨rfl,rfl⟩
 ·rw [rounds_succ]
  go_wp2_with (go_at_call 123; refine (k _ _ _).mono ?_; rintro e w' ⟨rfl,rfl⟩)
  ·rename_i hz _ _ _ _
   go_ret
   refine ⟨?_,rfl⟩
   simp_all [cR]
  ·rw [rounds_succ]
   go_wp2
   go_ret
   refine ⟨?_,rfl⟩
   simp_all [cR]
end Go.Proofs.Ytgncagjobmbmaaa.fnExactClaimOfFrieze
namespace Go.Proofs.Ytgncagjobmbmaaa.fnExactClaimOfFrieze
open Go Go.Cat Go.RowKit Go.Proofs Go.Proofs.Ytgncagjobmbmaaa
theorem cR_lt {x0 x1 y0 y1:Int}:decide (cR x0 x1 y0 y1<0)=(decide (x0<y0) || (decide (x0=y0)&&decide (x1<y1))):=by
 rw [Bool.eq_iff_iff]
 simp only [qde,Bool.or_eq_true,qba]
 unfold cR cN
 constructor
 ·intro h
  split at h <;> (repeat' split at h) <;> omega
 ·intro h
  split <;> (repeat' split) <;> omega
theorem parts {R:D→Value→List Nat→Prop}:∀ {ds:List D} {vs:List Value} {B:List Nat},Each R ds vs B→∃ bf:Nat→List Nat,B=(List.range ds.length).flatMap bf∧∀ j d,ds[j]?=some d→∃ v,vs[j]?=some v∧R d v (bf j)
 | [],vs,B=>fun h=>by
  simp only [Each] at h
  exact ⟨fun _=>[],by simp [h],by simp⟩
 | d::ds,[],B=>fun h=>by simp [Each] at h
 | d::ds,v::vs,B=>fun h=>by
  simp only [Each] at h
  obtain ⟨B1,B2,rfl,h1,h2⟩:=h
  obtain ⟨bf,rfl,h3⟩:=parts h2
  refine ⟨fun j=>match j with | 0=>B1 | j+1=>bf j,?_,fun j d' hd=>?_⟩
  ·simp only [qlc,List.range_succ_eq_map,List.flatMap_cons,List.flatMap_map]
  ·cases j with
   | zero=>
    simp only [List.getElem?_cons_zero,qsj] at hd
    subst hd
    exact ⟨v,by simp,h1⟩
   | succ j=>
    simp only [List.getElem?_cons_succ] at hd ⊢
    exact h3 j d' hd
def RowAt (h:Array Obj) (r:List Int) (v:Value) (bl:List Nat):Prop:=∃ b o c cs e,v=.slice (some ⟨b,o,none⟩) 2 c∧bl=[b]∧h[b]?=some (.cells cs e (0,0))∧cs[o]?=some (.int .i64 (atI r 0))∧cs[o+1]?=some (.int .i64 (atI r 1))∧2≤c∧o+c≤cs.size∧c≤9223372036854775807
theorem own_row {fid:Nat→Nat} {h:Array Obj} {O X:Nat→Prop} {r:List Int} {v:Value} {bl:List Nat} (hr:row2 r) (h0:Own fid h O X (.o .v) (LI r) v bl):RowAt h r v bl:=by
 simp only [LI,Own] at h0
 rcases h0 with ⟨q | q,_⟩ | ⟨xs,q,h0⟩
 ·cases q
 ·simp [D.flat] at q
 injection q with q
 subst q
 unfold row2 at hr
 rcases h0 with ⟨_,q,_⟩ | ⟨b,off,cap,cs,e,fz,B',rfl,rfl,hb,ht,g1,g2,g3,he⟩
 ·rw [List.map_eq_nil_iff] at q
  subst q
  simp at hr
 obtain ⟨rfl,hr2⟩:=eachV.1 he
 rw [List.length_map,hr] at g1
 have hc:=RdL_ints hr2
 have hfz:fz=(0,0):=ht
 subst hfz
 have h3:=hc 0 (by omega)
 have h4:=hc 1 (by omega)
 rw [drop_get] at h3 h4
 refine ⟨b,off,cap,cs,e,by rw [List.length_map,hr],rfl,hb,?_,?_,g1,g2,g3⟩
 ·simpa [atI,hr] using h3
 ·simpa [atI,hr] using h4
theorem row_own {fid:Nat→Nat} {h:Array Obj} {O X:Nat→Prop} {r:List Int} {v:Value} {bl:List Nat} (hr:row2 r) (h0:RowAt h r v bl):Own fid h O X (.o .v) (LI r) v bl:=by
 obtain ⟨b,o,c,cs,e,rfl,rfl,hb,h1,h2,g1,g2,g3⟩:=h0
 unfold row2 at hr
 simp only [LI,Own]
 refine .inr ⟨_,rfl,.inr ⟨b,o,c,cs,e,(0,0),[],rfl,by rw [List.length_map,hr],hb,rfl,by rw [List.length_map,hr]; exact g1,g2,g3,eachV.2 ⟨rfl,RdL_of_ints fun j hj=>?_⟩⟩⟩
 rw [drop_get]
 have:j=0∨j=1:=by omega
 rcases this with rfl | rfl
 ·simpa [atI,hr] using h1
 ·simpa [atI,hr] using h2
theorem RowAt.mono {h h':Array Obj} {r:List Int} {v:Value} {bl:List Nat} (h0:RowAt h r v bl) (hk:∀ b∈bl,h'[b]?=h[b]?):RowAt h' r v bl:=by
 obtain ⟨b,o,c,cs,e,rfl,rfl,hb,k⟩:=h0
 exact ⟨b,o,c,cs,e,rfl,rfl,by rw [hk b (by simp)]; exact hb,k⟩
end Go.Proofs.Ytgncagjobmbmaaa.fnExactClaimOfFrieze
namespace Go.Proofs.Ytgncagjobmbmaaa.fnExactClaimOfFrieze
open Go Go.Cat Go.RowKit Go.Shelf Go.Lib Go.Sort Go.Proofs Go.Proofs.Ytgncagjobmbmaaa
def CmpOK (P:Program) (g:Nat):Prop:=∀ (b1 o1 c1 b2 o2 c2:Nat) (x0 x1 y0 y1:Int) (w:World),w.cell? ⟨b1,o1,none⟩=some (.int .i64 x0)→w.cell? ⟨b1,o1+1,none⟩=some (.int .i64 x1)→w.cell? ⟨b2,o2,none⟩=some (.int .i64 y0)→w.cell? ⟨b2,o2+1,none⟩=some (.int .i64 y1)→
 Calls P g #[.slice (some ⟨b1,o1,none⟩) 2 c1,.slice (some ⟨b2,o2,none⟩) 2 c2] w (fun e w'=>e=.returned (.int .i64 (cR x0 x1 y0 y1))∧w'=w)
theorem srt_rows {P:Program} {ρ:Ren} (L:SlLaysF.n6 P ρ) {g:Nat} (eg:∀ args w,(callFunc g args).run P w=.ok (.enter g args) w) (hc:CmpOK P g) (m:Nat) (d:Nat→List Int) (vs:Nat→Value) (bf:Nat→List Nat) (b off cap:Nat) (w:World) (hm:m+1≤1000)
  (hb:b<w.heap.size) (hH:∀ j,j<m+1→w.cell? ⟨b,off+j,none⟩=some (vs j)∧w.frozen? ⟨b,off+j,none⟩=false)
  (hrow:∀ j,j<m+1→RowAt w.heap (d j) (vs j) (bf j)) (hne:∀ j,j<m+1→b∉bf j):
  Calls P (ρ.f 6) #[.slice (some ⟨b,off,none⟩) (m+1:Nat) cap,.func (.func g) #[] #[]] w fun e w'=>e=.returned (.tuple #[])∧∃ (p:List Nat) (n:Nat) (os:Array Obj),p.Perm (List.range (m+1))∧p.Pairwise (fun i j=>ltR (d j) (d i)=false)∧
   w'=grow (putRow vs (Sort.ahead w n) b off p.toArray) os:=by
 let enc:Fin (m+1)→Value:=fun i=>vs i.1
 let cf:Fin (m+1)→Fin (m+1)→Int:=fun i j=>cR (atI (d i.1) 0) (atI (d i.1) 1) (atI (d j.1) 0) (atI (d j.1) 1)
 have hlt:∀ i j,ltOf cf i j=ltR (d i.1) (d j.1):=fun i j=>cR_lt
 have hO:SWO (ltOf cf):=by
  refine ⟨fun x=>?_,fun x y z h1 h2=>?_,fun x y z h1 h2=>?_⟩
  ·rw [hlt]; simp [ltR]
  ·rw [hlt] at *; exact ltR_tr h1 h2
  ·rw [hlt] at*
   simp only [ltR,Bool.or_eq_false_iff,Bool.and_eq_false_iff,decide_eq_false_iff_not] at*
   omega
 have h1:OneCell enc:=fun x=>by
  obtain ⟨b',o,c,cs,e,hv,_⟩:=hrow x.1 x.2
  show (vs x.1).oneCell'=true
  rw [hv]; rfl
 let ar:Array (Fin (m+1)):=(List.ofFn (fun i:Fin (m+1)=>i)).toArray
 have hsz:ar.size=m+1:=by simp [ar]
 have hat:∀ j,(hj:j<m+1)→(ar[j]!)=⟨j,hj⟩:=fun j hj=>by
  rw [getElem!_pos ar j (by omega)]
  simp [ar]
 have hHo:Holds enc w b off ar:=fun j hj=>by
  rw [hsz] at hj
  rw [hat j hj]
  exact hH j hj
 have hcmp:CmpReads P g #[] enc cf b off ar.size w:=by
  intro k os dk hdk x y
  obtain ⟨b1,o1,c1,cs1,e1,v1,q1,k1,k2,k3,_⟩:=hrow x.1 x.2
  obtain ⟨b2,o2,c2,cs2,e2,v2,q2,l1,l2,l3,_⟩:=hrow y.1 y.2
  have n1:b1≠b:=fun e=>hne x.1 x.2 (by rw [q1,e]; simp)
  have n2:b2≠b:=fun e=>hne y.1 y.2 (by rw [q2,e]; simp)
  have hold:∀ x,x≠b→x<w.heap.size→(sortWorld enc w b off k dk os).heap[x]?=w.heap[x]?:=fun x hx hx2=>by
   unfold sortWorld
   have e0:(putRow enc (Sort.ahead w k) b off dk).heap=w.heap.modify b (onCells (putCells enc off dk)):=rfl
   rw [heap_grow_old _ _ (by rw [e0,Array.size_modify]; exact hx2),e0,Array.getElem?_modify,if_neg (fun e=>hx e.symm)]
  have a1:=hold b1 n1 (lt_of_some k1)
  have a2:=hold b2 n2 (lt_of_some l1)
  have:=hc b1 o1 c1 b2 o2 c2 (atI (d x.1) 0) (atI (d x.1) 1) (atI (d y.1) 0) (atI (d y.1) 1) (sortWorld enc w b off k dk os) (by simp [World.cell?,a1,k1,k2]) (by simp [World.cell?,a1,k1,k3]) (by simp [World.cell?,a2,l1,l2]) (by simp [World.cell?,a2,l1,l3])
  have ex:enc x=.slice (some ⟨b1,o1,none⟩) 2 c1:=v1
  have ey:enc y=.slice (some ⟨b2,o2,none⟩) 2 c2:=v2
  rw [ex,ey]
  refine this.mono ?_
  rintro e w' ⟨rfl,rfl⟩
  exact ⟨rfl,0,rfl⟩
 have hS:=Any.slices_SortFunc L enc h1 cf hO g #[] b off cap ar w eg hcmp.lays hHo hb (by omega)
 rw [hsz] at hS
 refine hS.mono ?_
 rintro e w' ⟨rfl,d',n,os,hp,hs,rfl⟩
 obtain ⟨p1,_,p3⟩:=hp
 rw [hsz] at p1
 have xx:∀ (a:Array (Fin (m+1))) (k:Nat),a.size=k→a.extract 0 k=a:=by
  rintro a _ rfl
  exact Array.extract_size
 have x1:=xx d' (m+1) p1
 have x2:=xx ar (m+1) hsz
 rw [x1,x2] at p3
 have hd':∀ j,(hj:j<d'.size)→(d'[j]!)=d'[j]:=fun j hj=>getElem!_pos d' j hj
 refine ⟨rfl,d'.toList.map (·.1),n,os,?_,?_,?_⟩
 ·refine (p3.map (·.1)).trans ?_
  have:ar.toList.map (·.1)=List.range (m+1):=by
   show (List.ofFn (fun i:Fin (m+1)=>i)).map (·.1)=List.range (m+1)
   refine List.ext_getElem (by rw [List.length_map,List.length_ofFn,List.length_range]) fun j h1 h2=>?_
   rw [List.getElem_map,List.getElem_ofFn,List.getElem_range]
  rw [this]
 ·rw [List.pairwise_map,List.pairwise_iff_getElem]
  intro i j hi hj hij
  simp only [Array.length_toList] at hi hj
  have:=hs i j (Nat.zero_le _) hij (by omega)
  rw [hlt,hd' j hj,hd' i hi] at this
  simpa using this
 ·unfold sortWorld
  congr 1
  unfold putRow
  congr 1
  funext c
  unfold putCells
  refine Array.ext (by simp) fun j h1 h2=>?_
  simp only [Array.getElem_mapIdx,List.size_toArray,List.length_map,Array.length_toList]
  by_cases q:off≤j∧j<off+d'.size
  ·rw [if_pos q,if_pos q]
   have hj:j-off<d'.size:=by omega
   rw [getElem!_pos d' _ hj,getElem!_pos _ (j-off) (by simpa using hj)]
   simp [enc]
  ·rw [if_neg q,if_neg q]
end Go.Proofs.Ytgncagjobmbmaaa.fnExactClaimOfFrieze
namespace Go.Proofs.Ytgncagjobmbmaaa.fnExactClaimOfFrieze
open Go Go.Cat Go.RowKit Go.Shelf Go.Lib Go.Sort Go.Proofs Go.Proofs.Ytgncagjobmbmaaa
theorem flat_range {l:List Nat} {f:Nat→List Nat}:l.flatMap f=(List.range l.length).flatMap fun j=>f (l.getD j 0):=by
 have e:l=(List.range l.length).map fun j=>l.getD j 0:=by
  refine List.ext_getElem (by simp) fun j h1 h2=>?_
  simp [h1]
 have e2:(List.range l.length).flatMap (fun j=>f (l.getD j 0))=((List.range l.length).map fun j=>l.getD j 0).flatMap f:=by rw [List.flatMap_map]
 rw [e2,← e]
theorem each_fn {R:D→Value→List Nat→Prop}:∀ {ds:List D} {vs:List Value} {bf:Nat→List Nat},(∀ j d,ds[j]?=some d→∃ v,vs[j]?=some v∧R d v (bf j))→Each R ds vs ((List.range ds.length).flatMap bf)
 | [],vs,bf,_=>by simp [Each]
 | d::ds,vs,bf,h=>by
  obtain ⟨v,h1,h2⟩:=h 0 d (by simp)
  match vs,h1 with
  | v'::vs,h1=>
   simp only [List.getElem?_cons_zero,qsj] at h1
   subst h1
   have ih:=each_fn (ds:=ds) (vs:=vs) (bf:=fun j=>bf (j+1)) fun j d' hd=>by
    obtain ⟨u,k1,k2⟩:=h (j+1) d' (by simpa using hd)
    exact ⟨u,by simpa using k1,k2⟩
   simp only [Each,qlc,List.range_succ_eq_map,List.flatMap_cons,List.flatMap_map]
   exact ⟨bf 0,_,rfl,h2,ih⟩
theorem srt_con {P:Program} {ρ:Ren} (L:SlLaysF.n6 P ρ) (fid:Nat→Nat) {f g:Nat} (hf:f=ρ.f 6) (hg:fid 364=g) (eg:∀ args w,(callFunc g args).run P w=.ok (.enter g args) w) (hc:CmpOK P g) (d:List (List Int)) (hr:∀ r∈d,row2 r) (hl:d.length≤1000):
  Con P fid f ⟨[.o (.o .v),.v],[],[0],none⟩ [LL d,.f 364 []] [LL (srfF d)]:=by
 subst hf hg
 intro w X args B hnd hX hE _
 match args,hE with
 | [],hE=>simp [EachS] at hE
 | [_],hE=>simp [EachS] at hE
 | _::_::_::_,hE=>simp [EachS] at hE
 | [v0,v1],hE=>
  simp only [EachS] at hE
  obtain ⟨B0,B1,rfl,h0,B2,B3,rfl,h1,rfl⟩:=hE
  simp only [Own,Cat.Rd] at h1
  obtain ⟨rfl,cv,rfl,hcz,_⟩:=h1
  have hcv:cv=#[]:=by simpa using hcz
  subst hcv
  have none:∀ (p:Option Addr) (cap:Nat),d=[]→v0=.slice p 0 cap→Calls P (ρ.f 6) #[v0,.func (.func (fid 364)) #[] #[]] w fun e w'=>∃ v vs B',e=.returned v∧tupled v vs∧vs.length=([]:List Sh).length∧Agr (·∈B0++([]++[])) w.heap w'.heap∧w'.os=w.os∧w'.tape=w.tape∧w'.output=w.output∧
    B'.Nodup∧(∀ b∈B',b∈B0++([]++[])∨w.heap.size≤b)∧EachS (Own fid w'.heap (·∈B') X) [.o (.o .v)] [LL (srfF d)] (vs++[v0]) B':=by
   intro p cap hd hv
   rw [hv]
   refine (AnyF.slices_SortFunc_none (P:=P) (ρ:=ρ) { L with } p cap _ w).mono ?_
   rintro e w' ⟨rfl,rfl⟩
   subst hd
   refine ⟨_,[],B0,rfl,rfl,rfl,Agr.refl _ _,rfl,rfl,rfl,by simpa using hnd,fun b hb=>.inl (by simpa using hb),?_⟩
   simp only [List.nil_append,List.append_nil,EachS]
   refine ⟨B0,[],by simp,?_,rfl⟩
   rw [← hv,show srfF ([]:List (List Int))=[] from rfl]
   simpa using h0
  simp only [LL,Own] at h0
  rcases h0 with ⟨q | q,_⟩ | ⟨xs,q,h0⟩
  ·cases q
  ·simp [D.flat] at q
  injection q with q
  subst q
  rcases h0 with ⟨hv,q,_⟩ | ⟨b,off,cap,cs,e,fz,B',hB,hv,hb,ht,g1,g2,g3,he⟩
  ·exact none _ _ (by simpa using q) hv
  ·rcases hd:d.length with _ | m
   ·have hd0:=List.length_eq_zero_iff.1 hd
    exact none _ _ hd0 (by rw [hv,List.length_map,hd])
   ·have hfz:fz=(0,0):=ht
    subst hfz
    subst hv hB
    obtain ⟨bf,rfl,hp⟩:=parts he
    rw [List.length_map] at g1 ⊢
    rw [List.length_map,hd] at hnd
    rw [hd] at g1 ⊢
    have hvs:∀ j,(hj:j<m+1)→∃ v,cs[off+j]?=some v∧RowAt w.heap (d.getD j []) v (bf j):=fun j hj=>by
     have e1:(d.map LI)[j]?=some (LI (d.getD j [])):=by simp [hd,hj]
     obtain ⟨v,k1,k2⟩:=hp j _ e1
     rw [drop_get] at k1
     exact ⟨v,k1,own_row (hr _ (by simp [hd,hj])) k2⟩
    have hbs:b<w.heap.size:=lt_of_some hb
    have hS:=srt_rows L eg hc m (fun j=>d.getD j []) (fun j=>cs.getD (off+j) undef) bf b off cap w (by omega) hbs (fun j hj=>by
      obtain ⟨v,k1,_⟩:=hvs j hj
      simp [World.cell?,World.frozen?,hb,k1]) (fun j hj=>by
      obtain ⟨v,k1,k2⟩:=hvs j hj
      simpa [k1] using k2) (fun j hj q=>by
      simp only [List.append_nil] at hnd
      refine (List.nodup_cons.1 hnd).1 (List.mem_flatMap.2 ⟨j,List.mem_range.2 hj,q⟩))
    refine hS.mono ?_
    rintro e' w' ⟨rfl,p,n,os,hp1,hp2,rfl⟩
    have hpl:p.length=m+1:=by rw [hp1.length_eq,List.length_range]
    have hpm:∀ j,j<m+1→p.getD j 0<m+1:=fun j hj=>by
     have:p.getD j 0∈p:=by simp [hpl,hj]
     exact List.mem_range.1 (hp1.mem_iff.1 this)
    have hE:srfF d=p.map fun i=>d.getD i []:=by
     have e1:(p.map fun i=>d.getD i []).Perm d:=by
      refine (hp1.map _).trans ?_
      rw [← hd]
      have:(List.range d.length).map (fun i=>d.getD i [])=d:=by
       refine List.ext_getElem (by simp) fun j h1 h2=>?_
       simp [h2]
      rw [this]
     rw [srtF_perm e1.symm hr]
     exact srfF_asc (List.pairwise_map.2 hp2)
    have hheap:(grow (putRow (fun j=>cs.getD (off+j) undef) (Sort.ahead w n) b off p.toArray) os).heap=(w.heap.modify b (onCells (putCells (fun j=>cs.getD (off+j) undef) off p.toArray)))++os:=rfl
    have hold:∀ x,x≠b→x<w.heap.size→(grow (putRow (fun j=>cs.getD (off+j) undef) (Sort.ahead w n) b off p.toArray) os).heap[x]?=w.heap[x]?:=fun x hx hx2=>by
     rw [hheap,Array.getElem?_append_left (by rw [Array.size_modify]; exact hx2),Array.getElem?_modify,if_neg (fun e=>hx e.symm)]
    have hnew:(grow (putRow (fun j=>cs.getD (off+j) undef) (Sort.ahead w n) b off p.toArray) os).heap[b]?=some (.cells (putCells (fun j=>cs.getD (off+j) undef) off p.toArray cs) e (0,0)):=by
     rw [hheap,Array.getElem?_append_left (by rw [Array.size_modify]; exact hbs),Array.getElem?_modify,if_pos rfl,hb]
     rfl
    have hfp:(p.flatMap bf).Perm ((List.range (m+1)).flatMap bf):=hp1.flatMap_right bf
    simp only [List.append_nil] at hnd
    have hnd':=List.nodup_cons.1 hnd
    refine ⟨_,[],b::p.flatMap bf,rfl,rfl,rfl,⟨by rw [hheap]; simp,fun x hx hn=>hold x (fun e=>hn (by simp [e])) hx⟩,rfl,rfl,rfl,List.nodup_cons.2 ⟨fun q=>hnd'.1 (hfp.mem_iff.1 q),hfp.nodup_iff.2 hnd'.2⟩,fun x hx=>.inl ?_,?_⟩
    ·simp only [List.append_nil,List.length_map,hd,qmn] at hx ⊢
     rcases hx with rfl | hx
     ·exact .inl rfl
     ·exact .inr (hfp.mem_iff.1 hx)
    ·show EachS _ [.o (.o .v)] [LL (srfF d)] [.slice (some ⟨b,off,Option.none⟩) (m+1) cap] _
     simp only [EachS]
     refine ⟨b::p.flatMap bf,[],by simp,?_,rfl⟩
     rw [hE]
     simp only [LL,Own]
     refine .inr ⟨_,rfl,.inr ⟨b,off,cap,_,e,(0,0),p.flatMap bf,rfl,by rw [List.length_map,List.length_map,hpl],hnew,rfl,by rw [List.length_map,List.length_map,hpl]; exact g1,by simp [putCells]; exact g2,g3,?_⟩⟩
     rw [flat_range]
     have hlen:p.length=((p.map fun i=>d.getD i []).map LI).length:=by simp
     rw [hlen]
     refine each_fn fun j dd hdd=>?_
     have hj:j<m+1:=by
      have:=(List.getElem?_eq_some_iff.1 hdd).1
      simpa [hpl] using this
     have hdd2:dd=LI (d.getD (p.getD j 0) []):=by
      have:((p.map fun i=>d.getD i []).map LI)[j]?=some (LI (d.getD (p.getD j 0) [])):=by simp [hpl,hj]
      rw [this] at hdd
      injection hdd with hdd
      exact hdd.symm
     subst hdd2
     obtain ⟨v,k1,k2⟩:=hvs (p.getD j 0) (hpm j hj)
     have hmem:d.getD (p.getD j 0) []∈d:=by
      have hlt:=hpm j hj
      generalize p.getD j 0=q at hlt ⊢
      have hq:q<d.length:=by omega
      simp [hq]
     refine ⟨v,?_,row_own (hr _ hmem) (k2.mono fun x hx=>hold x ?_ ?_)⟩
     ·rw [drop_get]
      have hoff:off+j<cs.size:=by omega
      have hpj:(p.toArray[j]!)=p.getD j 0:=by
       rw [getElem!_pos _ j (by simp [hpl,hj])]
       simp [hpl,hj]
      simp only [putCells]
      rw [Array.getElem?_mapIdx,Array.getElem?_eq_getElem hoff]
      simp only [Option.map_some,Nat.add_sub_cancel_left]
      rw [if_pos ⟨by omega,by simp [hpl]; omega⟩,hpj]
      have:off+p.getD j 0<cs.size:=(Array.getElem?_eq_some_iff.1 k1).1
      simp only [qag,k1,Option.getD_some]
     ·rintro rfl
      exact hnd'.1 (List.mem_flatMap.2 ⟨_,List.mem_range.2 (by simpa [hd] using hpm j hj),hx⟩)
     ·obtain ⟨b',o,c,cs',e',_,qb,q,_⟩:=k2
      rw [qb] at hx
      simp only [List.mem_singleton] at hx
      subst hx
      exact lt_of_some q
end Go.Proofs.Ytgncagjobmbmaaa.fnExactClaimOfFrieze
namespace Go.Proofs.Ytgncagjobmbmaaa.fnExactClaimOfFrieze
open Go Go.Cat Go.RowKit Go.Shelf Go.Lib Go.Sort Go.Proofs Go.Proofs.Ytgncagjobmbmaaa
open Go.Shelf in
def sortL_ren : Go.Shelf.Ren := ⟨fun | 6 => 91 | 15 => 122 | 14 => 121 | 28 => 143 | 29 => 144 | 20 => 135 | 21 => 136 | 22 => 137 | 23 => 138 | 24 => 139 | 25 => 140 | 26 => 141 | 27 => 142 | 46 => 150 | 47 => 151 | 48 => 152 | 49 => 153 | 50 => 154 | 57 => 157 | n => n, fun | 22 => 24 | 24 => 23 | 25 => 78 | 3 => 3 | 39 => 95 | 0 => 0 | 53 => 114 | 55 => 116 | 4 => 4 | 46 => 107 | 45 => 106 | 50 => 111 | 5 => 5 | 9 => 9 | 66 => 122 | 70 => 126 | 76 => 128 | 77 => 129 | n => n, fun | n => n⟩
theorem sortL : Go.Proofs.SlLaysF.n6 Try.prog sortL_ren where
  mixed := by kernel_rfl
  f6 := ⟨Try.f91.name, by kernel_rfl, Try.func91.trans (congrArg some (by kernel_rfl))⟩
  f14 := ⟨Try.f121.name, by kernel_rfl, Try.func121.trans (congrArg some (by kernel_rfl))⟩
  f15 := Try.func122.trans (congrArg some (by kernel_rfl))
  f20 := ⟨Try.f135.name, by kernel_rfl, Try.func135.trans (congrArg some (by kernel_rfl))⟩
  f21 := ⟨Try.f136.name, by kernel_rfl, Try.func136.trans (congrArg some (by kernel_rfl))⟩
  f22 := ⟨Try.f137.name, by kernel_rfl, Try.func137.trans (congrArg some (by kernel_rfl))⟩
  f23 := ⟨Try.f138.name, by kernel_rfl, Try.func138.trans (congrArg some (by kernel_rfl))⟩
  f24 := ⟨Try.f139.name, by kernel_rfl, Try.func139.trans (congrArg some (by kernel_rfl))⟩
  f25 := ⟨Try.f140.name, by kernel_rfl, Try.func140.trans (congrArg some (by kernel_rfl))⟩
  f26 := ⟨Try.f141.name, by kernel_rfl, Try.func141.trans (congrArg some (by kernel_rfl))⟩
  f27 := ⟨Try.f142.name, by kernel_rfl, Try.func142.trans (congrArg some (by kernel_rfl))⟩
  f28 := Try.func143.trans (congrArg some (by kernel_rfl))
  f29 := Try.func144.trans (congrArg some (by kernel_rfl))
  f46 := ⟨Try.f150.name, by kernel_rfl, Try.func150.trans (congrArg some (by kernel_rfl))⟩
  f47 := Try.func151.trans (congrArg some (by kernel_rfl))
  f48 := Try.func152.trans (congrArg some (by kernel_rfl))
  f49 := ⟨Try.f153.name, by kernel_rfl, Try.func153.trans (congrArg some (by kernel_rfl))⟩
  f50 := ⟨Try.f154.name, by kernel_rfl, Try.func154.trans (congrArg some (by kernel_rfl))⟩
  f57 := ⟨Try.f157.name, by kernel_rfl, Try.func157.trans (congrArg some (by kernel_rfl))⟩
  t0 := Try.underlying0
  a0 := Try.isAgg0
  z0 := Try.sizeOf0
  v0 := Try.zeroValue0
  t3 := Try.underlying3
  a3 := Try.isAgg3
  z3 := Try.sizeOf3
  v3 := Try.zeroValue3
  t4 := Try.underlying4
  a4 := Try.isAgg4
  z4 := Try.sizeOf4
  v4 := Try.zeroValue4
  t5 := Try.underlying5
  a5 := Try.isAgg5
  z5 := Try.sizeOf5
  v5 := Try.zeroValue5
  t9 := Try.underlying9
  a9 := Try.isAgg9
  z9 := Try.sizeOf9
  v9 := Try.zeroValue9
  t22 := Try.underlying24
  a22 := Try.isAgg24
  z22 := Try.sizeOf24
  v22 := Try.zeroValue24
  a24 := Try.isAgg23
  z24 := Try.sizeOf23
  t25 := Try.underlying78
  a25 := Try.isAgg78
  z25 := Try.sizeOf78
  v25 := Try.zeroValue78
  t39 := Try.underlying95
  a39 := Try.isAgg95
  z39 := Try.sizeOf95
  v39 := Try.zeroValue95
  t45 := Try.underlying106
  a45 := Try.isAgg106
  z45 := Try.sizeOf106
  v45 := Try.zeroValue106
  t46 := Try.underlying107
  a46 := Try.isAgg107
  z46 := Try.sizeOf107
  v46 := Try.zeroValue107
  t50 := Try.underlying111
  a50 := Try.isAgg111
  z50 := Try.sizeOf111
  v50 := Try.zeroValue111
  t53 := Try.underlying114
  a53 := Try.isAgg114
  z53 := Try.sizeOf114
  v53 := Try.zeroValue114
  t55 := Try.underlying116
  a55 := Try.isAgg116
  z55 := Try.sizeOf116
  v55 := Try.zeroValue116
  t66 := Try.underlying122
  a66 := Try.isAgg122
  z66 := Try.sizeOf122
  v66 := Try.zeroValue122
  t70 := Try.underlying126
  a70 := Try.isAgg126
  z70 := Try.sizeOf126
  v70 := Try.zeroValue126
  t76 := Try.underlying128
  a76 := Try.isAgg128
  z76 := Try.sizeOf128
  v76 := Try.zeroValue128
  t77 := Try.underlying129
  a77 := Try.isAgg129
  z77 := Try.sizeOf129
  v77 := Try.zeroValue129
instance:HSrt K:=⟨fun d hr hl=>⟨⟨363,91,⟨[.o (.o .v),.v],[],[0],none⟩⟩,rfl,srt_con sortL (fidOf tab) (g:=92) (by kernel_rfl) (by kernel_rfl) (enters_of Try.func92 (by kernel_rfl) rfl) (fun b1 o1 c1 b2 o2 c2 x0 x1 y0 y1 w h0 h1 g0 g1=>cmpR b1 o1 c1 b2 o2 c2 x0 x1 y0 y1 w h0 h1 g0 g1) d hr hl⟩⟩
end Go.Proofs.Ytgncagjobmbmaaa.fnExactClaimOfFrieze
