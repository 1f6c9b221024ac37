/-
 From a contract to a row: the law's call returns true and nothing below has turned.
-/
import Derived.Test.YtdifmcppfcbgdaaGreatCatThree
import Derived.WalkKit
import Derived.ProofKit
import Derived.OpenShut
import Derived.Below
import Derived.Carry
import Derived.ChangeSlices
import Derived.ChangeMaps5
import Derived.SliceStrings
set_option linter.unusedSimpArgs false
set_option linter.unusedVariables false
namespace Go.Cat
open Go.ChangeShapes Go.WideShapes Go.ChangeAt Go.RowKit
section
variable {H:Type} {enc:TypeId×Value→H} {P:Program}
theorem post_below {f:Func} {s:ChangeSpec} {apart fresh handsOn again:Bool} {W W':World} {args:Array Value} {v:Value} {ds gs:List (DataW H)} {before pa pv:List MemPlace}
  (hW:DataW.Whole enc P f.params.toList s.vars apart W args.toList ds gs before)
  (hres:∀ (b:Nat) (sp:Nat→Bool) (hd:Bool),DataW.TrodAll enc P W' b sp hd f.resultTypes.toList (v.resultList f.resultTypes.size) (s.fn H (ds++gs)).results [])
  (hargs:∀ sp:Nat→Bool,(∀ p∈before,sp p.block=true)→DataW.TrodAll enc P W' 0 sp true f.params.toList args.toList (s.fn H (ds++gs)).args pa)
  (hvars:∀ sp:Nat→Bool,(∀ p∈before,sp p.block=true)→DataW.TrodVars enc P W' sp s.vars (s.fn H (ds++gs)).vars pv)
  (hps:before=pa++pv) (hb:Below W.heap.size W W')
  (hok:∀ (j:Nat) (t:TypeId) (r:Value),f.resultTypes[j]?=some t→(v.resultList f.resultTypes.size)[j]?=some r→Value.okWide P W' .any 0 t r):
  s.post enc P f apart fresh handsOn again W args v W':=by
 have hold:∀ p∈before,(fun b=>decide (b<W.heap.size)) p.block=true:=fun p hp=>by simpa using hW.lt p hp
 have hlt:=hW.lt
 refine ⟨ds,gs,before,[],pa,pv,hW,hres _ _ _,hargs _ hold,hvars _ hold,World.keptBut_mono (fun p hp=>⟨hp,?_⟩) (hb.frame (·∈before)),fun _=>?_⟩
 ·rw [hps,qma] at hp
  exact Or.inr hp
 ·obtain ⟨_,_,_,_,_,hz,hn⟩:=hW
  refine ⟨hok,_,_,([]++pa)++pv,⟨[]++pa,pv,trodAll_append (hargs _ (fun _ _=>rfl)) (hres _ _ _),hvars _ (fun _ _=>rfl),rfl,?_,?_⟩,?_⟩
  ·intro b off hp
   have hp':MemPlace.cell b off∈before:=by rw [hps]; simpa using hp
   rw [hb.frozen (p:=⟨b,off,none⟩) (by simpa [MemPlace.block] using hlt _ hp')]
   exact hz b off hp'
  ·intro ha
   have:=hn ha
   rw [hps] at this
   simpa using this
  ·intro p hp _
   rw [hps]
   simpa using hp
end
theorem con_bool {P:Program} {fid:Nat→Nat} {f:FuncId} {ps:List Sh} {ds:List D} (h:Con P fid f ⟨ps,[.v],[],none⟩ ds [.b true]) {w:World} {args:List Value}
  (ha:EachS (Own fid w.heap (·∈[]) (fun _=>False)) ps ds args []):Calls P f args.toArray w fun e w'=>e=.returned (.bool true)∧Below w.heap.size w w':=by
 refine (h w (fun _=>False) args [] (by simp) (by simp) ha trivial).mono ?_
 rintro e w' ⟨v,vs,B',rfl,ht,_,hA,h1,h2,h3,_,_,hE⟩
 simp only [Sg.outs,List.map_nil,List.append_nil] at hE
 refine ⟨?_,h1,h2,h3,hA.size,fun k hk=>hA.same k hk (by simp)⟩
 match vs,hE with
 | [x],hE=>
  simp only [EachS,Own,Rd] at hE
  obtain ⟨B1,B2,rfl,⟨_,hx⟩,_⟩:=hE
  simp only [tupled] at ht
  rw [ht,hx]
theorem con_row {P:Program} {tab:List Row} {k:Nat} {r:Row} {ds:List D} (h:KS P tab k ds [.b true]) (hr:rowOf tab k=some r) (hq:r.s.qs=[.v]) (hio:r.s.io=[]) (hfb:r.s.fb=none):Con P (fidOf tab) r.f ⟨r.s.ps,[.v],[],none⟩ ds [.b true]:=by
 obtain ⟨r',h1,h2⟩:=h
 rw [hr] at h1
 cases h1
 rw [← hq,← hio,← hfb]
 exact h2
def Plain:D→Value→Prop
 | .i k n,v=>v=.int k n
 | .b x,v=>v=.bool x
 | .s x,v=>v=strV x∧(∀ c∈x,c<256)∧x.length≤9223372036854775807
 | _,_=>False
end Go.Cat
namespace Go.Cat
open Go.ChangeShapes Go.WideShapes Go.ChangeAt Go.RowKit
section
variable {H:Type} {enc:TypeId×Value→H} {P:Program}
theorem trodAll_stays (hl:laidOutB P=true) {W W':World} (hb:Below W.heap.size W W') {sp:Nat→Bool}:∀ {ts:List TypeId} {vs:List Value} {ds:List (DataW H)} {ps:List MemPlace},
  (∀ t∈ts,P.readableRec t=true∧t<P.types.size)→DataW.TrodAll enc P W 0 (fun _=>true) true ts vs ds ps→(∀ p∈ps,sp p.block=true)→(∀ p∈ps,p.block<W.heap.size)→DataW.TrodAll enc P W' 0 sp true ts vs ds ps
 | [],vs,ds,ps=>fun _ h _ _=>by
  obtain ⟨rfl,rfl,rfl⟩:=trodAll_nil h
  exact trodAll_mk0
 | t::ts,vs,ds,ps=>fun hr h hs hlt=>by
  obtain ⟨v,vs',d,ds',p,q,rfl,rfl,rfl,h1,h2⟩:=trodAll_cons h
  refine trodAll_cons_mk ?_ (trodAll_stays hl hb (fun u hu=>hr u (qmc _ hu)) h2 (fun x hx=>hs x (qar _ hx)) fun x hx=>hlt x (qar _ hx))
  obtain ⟨r1,r2⟩:=hr t (List.mem_cons_self ..)
  exact WideElems.Trod_stays hl r1 r2 h1 (fun x hx=>hb.same (hlt x (qal _ hx))) fun x hx=>hs x (qal _ hx)
theorem arg_string {W:World} {base:Nat} {t:TypeId} {v:Value} {d:DataW H} {ps:List MemPlace} (ht:P.underlying t=some .string)
  (hval:Value.okWide P W .any base t v) (h:DataW.Trod enc P W 0 (fun _=>true) true t v d ps):
  ∃ s:List Nat,(∀ c∈s,c<256)∧s.length≤9223372036854775807∧∀ (fid:Nat→Nat) (Z:Nat→Prop),Rd fid W.heap Z (.s s) v:=by
 obtain ⟨s,rfl,_,_,hs⟩:=Go.ChangeMaps.open_string ht hval h
 have hb:∀ c∈s.data.toList.map (·.toNat),c<256:=by
  intro c hc
  simp only [List.mem_map] at hc
  obtain ⟨x,_,rfl⟩:=hc
  exact x.toNat_lt
 have hl:(s.data.toList.map (·.toNat)).length≤9223372036854775807:=by
  unfold maxLen at hs
  simp only [List.length_map,Array.length_toList]
  have:s.data.size=s.size:=rfl
  omega
 refine ⟨s.data.toList.map (·.toNat),hb,hl,fun fid Z=>?_⟩
 simp only [Rd]
 refine ⟨?_,hb,hl⟩
 unfold strV
 congr 1
 apply ByteArray.ext
 simp only [List.map_map]
 apply Array.ext'
 have:((fun c=>UInt8.ofNat c) ∘ fun x:UInt8=>x.toNat)=id:=by funext x; simp
 simp [this]
end
theorem eachV_cons {fid:Nat→Nat} {h:Array Obj} {ps:List Sh} {ds:List D} {vs:List Value} {d:D} {v:Value} (hr:Rd fid h (fun b=>b∈([]:List Nat)∨False) d v)
  (ht:EachS (Own fid h (·∈([]:List Nat)) (fun _=>False)) ps ds vs []):EachS (Own fid h (·∈([]:List Nat)) (fun _=>False)) (.v::ps) (d::ds) (v::vs) []:=by
 simp only [EachS]
 exact ⟨[],[],rfl,by simp only [Own]; exact ⟨trivial,hr⟩,ht⟩
theorem each_nil {fid:Nat→Nat} {h:Array Obj}:EachS (Own fid h (·∈([]:List Nat)) (fun _=>False)) [] [] [] []:=rfl
end Go.Cat
