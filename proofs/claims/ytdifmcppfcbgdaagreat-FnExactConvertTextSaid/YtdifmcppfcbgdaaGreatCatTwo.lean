/-
 The store.
-/
import Derived.Test.YtdifmcppfcbgdaaGreatCatOne
import Derived.Laws.BytesString
import Derived.Laws.Slices
import Derived.Laws.Rows
import Derived.Laws.Pointers
set_option linter.unusedSimpArgs false
set_option linter.unusedVariables false
namespace Go.Cat
theorem StepOK.of_skip {c:Cx} {o:Oper} {sm:Sm} {F:Fact→Prop} {E:Nat→D} {a:Act} {w w':World} (hr:(execOp a.eval o).run c.P w=.ok .skip w')
  (hd:o.dst=none) (hh:HoldsX c (next F none sm) E a w'):StepOK c o sm F E a w:=by
 intro nxt Q hn
 simp only [Oper.wp,hr,Oper.upon,hd]
 rw [hd] at hn
 exact hn _ _ hh
def adOf:Loc→Option (Nat×List PE×Gd)
 | .ad r p _ g=>some (r,p,g)
 | .aw r p g=>some (r,p,g)
 | _=>none
def awSlots (st:List Fact) (k r:Nat):List PE→List (Nat×Loc×PE)
 | [_]=>if k=1 then st.filterMap fun f=>match f with
   | .sl t l=>(match adOf l with
    | some (r',[e],[])=>if r'=r then some (t,l,e) else none
    | _=>none)
   | .en _ _=>none
  else []
 | _=>[]
theorem awSlots_spec {st:List Fact} {k r:Nat} {p:List PE} {t:Nat} {l:Loc} {e:PE} (h:(t,l,e)∈awSlots st k r p):(∃ e0,p=[e0])∧adOf l=some (r,[e],[]):=by
 unfold awSlots at h
 split at h
 ·rename_i e0
  refine ⟨⟨e0,rfl⟩,?_⟩
  split at h
  ·simp only [List.mem_filterMap] at h
   obtain ⟨f,_,hf⟩:=h
   split at hf
   ·split at hf
    ·rename_i h1
     split at hf
     ·rename_i hr
      simp only [qsj,qpj] at hf
      obtain ⟨rfl,rfl,rfl⟩:=hf
      rw [h1,hr]
     ·cases hf
    ·cases hf
   ·cases hf
  ·simp at h
 ·simp at h
theorem adOf_loc {h:Array Obj} {E:Nat→D} {vs:Nat→Value} {O al:Nat→Prop} {tm:Array Value} {t:Nat} {l:Loc} {r:Nat} {p:List PE} {g:Gd} (hl:adOf l=some (r,p,g)) (H:LocR h E vs O al tm t l):
  gdOK E g→al r→∃ is b o d x,pathE E p=some is∧getP is (E r)=some d∧Wk h is (vs r) b o x∧tm[t]?=some (.pointer (some ⟨b,o,none⟩)):=by
 cases l with
 | ad r' p' m g'=>
  simp only [adOf,qsj,qpj] at hl
  obtain ⟨rfl,rfl,rfl⟩:=hl
  intro hg ha
  obtain ⟨is,b,o,d,k1,k2,k3,k4⟩:=H hg ha
  exact ⟨is,b,o,d,_,k1,k2,k3,k4⟩
 | aw r' p' g'=>
  simp only [adOf,qsj,qpj] at hl
  obtain ⟨rfl,rfl,rfl⟩:=hl
  exact H
 | _=>simp [adOf] at hl
theorem getP_set1 {i i2:Nat} {d d' x y:D} (h:setP [i] d x=some d') (h2:getP [i2] d=some y):∃ zz,getP [i2] d'=some zz:=by
 cases d with
 | l xs=>
  simp only [setP,qms,qbs,qsj] at h
  obtain ⟨_,⟨_,_,rfl⟩,rfl⟩:=h
  simp only [getP] at h2 ⊢
  cases hx2:xs[i2]? with
  | none=>rw [hx2] at h2; simp at h2
  | some z2=>
   have hi2:i2<xs.length:=(List.getElem?_eq_some_iff.1 hx2).1
   exact ⟨(xs.set i x)[i2]'(by simpa using hi2),by simp [hi2]⟩
 | g xs=>
  simp only [setP,qms,qbs,qsj] at h
  obtain ⟨_,⟨_,_,rfl⟩,rfl⟩:=h
  simp only [getP] at h2 ⊢
  cases hx2:xs[i2]? with
  | none=>rw [hx2] at h2; simp at h2
  | some z2=>
   have hi2:i2<xs.length:=(List.getElem?_eq_some_iff.1 hx2).1
   exact ⟨(xs.set i x)[i2]'(by simpa using hi2),by simp [hi2]⟩
 | _=>simp [getP] at h2
def slotsK (st:List Fact) (k r:Nat):List (Nat×Gd):=if k<2 then slotsOf st r else (slotsOf st r).filter fun x=>x.1 == k-2
section
variable (cf:CF) (st:List Fact) (cnt:Nat) (o:Oper) (g:Gd)
def trSt (k:Nat) (t:TypeId) (x v:Operand):Option (Pr×Sm):=
 match x with
 | .tmp s=>if g=[]∧o.dst=none∧plain1 cf.P t=true then match findSl st s with
  | some l=>match adOf l with
   | some (r,p,[])=>
    (findEn st r).bind fun sr=>match sr.under p.length with
     | some es=>(trPut cf st g es v).bind fun a=>
       if r∉a.2.1 then some (.up r p a.1,⟨[.sl s l,.en r sr]++(a.2.2++((slotsK st k r).map fun x=>.sl x.1 (.is r x.2))++(awSlots st k r p).map fun x=>.sl x.1 x.2.1),r::a.2.1,
        .en cnt sr::((slotsK st k r).map fun x=>.sl x.1 (.is cnt x.2))++(awSlots st k r p).map fun x=>.sl x.1 (.aw cnt [x.2.2] [])⟩)
       else none
     | none=>none
   | _=>none
  | none=>none
  else none
 | _=>none
end
section
variable {cf:CF} {c:Cx} {F:Fact→Prop} {E:Nat→D} {a:Act} {w:World} {vs:Nat→Value} {Bs:Nat→List Nat} {cnt:Nat} {g:Gd} {sm:Sm} {st:List Fact} {o:Oper} {p:Pr}
 {K:Nat→List D→List D→Prop}
theorem own_thawed {fid:Nat→Nat} {h:Array Obj} {O X:Nat→Prop}:∀ (is:List Nat) (s:Sh) {es:Sh} (d d':D) (v:Value) (B:List Nat) {gb go:Nat} {y:Value} {cs:Array Value} {e:TypeId} {fz:Nat×Nat},
  Own fid h O X s d v B→getP is d=some d'→s.under is.length=some es→Wk h is v gb go y→h[gb]?=some (.cells cs e fz)→fz=(0,0)
 | [],_,_,_,_,_,_,_,_,_,_,_,_=>fun _ _ _ k=>by simp [Wk] at k
 | i::is,s,es,d,d',v,B,gb,go,y,cs,e,fz=>fun r hg hs hw hb=>by
  cases s with
  | v=>simp [Sh.under] at hs
  | y=>simp [Sh.under] at hs
  | a s=>simp [Sh.under] at hs
  | b s=>
   simp only [qlc,Sh.under] at hs
   simp only [Own] at r
   obtain ⟨xs,b1,cs1,e1,fz1,B',rfl,rfl,rfl,hb1,ht,hl,he⟩:=r
   simp only [getP] at hg
   cases hx:xs[i]? with
   | none=>simp [hx] at hg
   | some d1=>
    simp only [hx,Option.bind_some] at hg
    simp only [Wk] at hw
    obtain ⟨b2,o2,cs2,e2,fz2,z',hv,hb2,hz,hw⟩:=hw
    obtain ⟨q1,q2⟩:=hv.box
    subst q1 q2
    rw [hb1] at hb2
    injection hb2 with hb2
    injection hb2 with q5 q6 q7
    subst q5 q6 q7
    rcases hw with ⟨_,rfl,_,_⟩ | ⟨hne,hw⟩
    ·rw [hb] at hb1
     injection hb1 with hb1
     injection hb1 with _ _ q
     rw [q]; exact ht
    ·obtain ⟨u,B1,hu,_,hr⟩:=Each.get he hx
     rw [Array.getElem?_toList,hz] at hu
     injection hu with hu
     subst hu
     exact own_thawed is s d1 d' _ B1 hr hg hs hw hb
  | o s=>
   simp only [qlc,Sh.under] at hs
   cases d with
   | g xs=>
    simp only [Own] at r
    rcases r with ⟨q | q,_⟩ | ⟨ys,hy,r⟩
    ·cases q
    ·simp [D.flat] at q
    ·cases hy
   | l xs=>
    simp only [getP] at hg
    cases hx:xs[i]? with
    | none=>simp [hx] at hg
    | some d1=>
     simp only [hx,Option.bind_some] at hg
     simp only [Own] at r
     rcases r with ⟨q | q,_⟩ | ⟨ys,hy,r⟩
     ·cases q
     ·simp [D.flat] at q
     injection hy with hy; subst hy
     rcases r with ⟨_,rfl,_⟩ | ⟨b,off,cap,cs1,e1,fz1,B',rfl,rfl,hb1,ht,h1,h2,h3,he⟩
     ·simp at hx
     simp only [Wk] at hw
     obtain ⟨b2,o2,cs2,e2,fz2,z',hv,hb2,hz,hw⟩:=hw
     obtain ⟨q1,hil,q2⟩:=hv.slice
     subst q1 q2
     rw [hb1] at hb2
     injection hb2 with hb2
     injection hb2 with q5 q6 q7
     subst q5 q6 q7
     rcases hw with ⟨_,rfl,_,_⟩ | ⟨hne,hw⟩
     ·rw [hb] at hb1
      injection hb1 with hb1
      injection hb1 with _ _ q
      rw [q]; exact ht
     ·obtain ⟨u,B1,hu,_,hr⟩:=Each.get he hx
      rw [drop_get,hz] at hu
      injection hu with hu
      subst hu
      exact own_thawed is s d1 d' _ B1 hr hg hs hw hb
   | _=>simp [getP] at hg
theorem store_core {k:Nat} {t:TypeId} {s:Nat} {v:Operand} {l:Loc} {r:Nat} {q:List PE} {sr es:Sh} {α:A} {ks:List Nat} {ns:List Fact} (ho:o.op=.store t (.tmp s) v) (hg0:g=[]) (hdst:o.dst=none) (hpl:plain1 cf.P t=true)
  (had:adOf l=some (r,q,[])) (hes:sr.under q.length=some es) (hrk:r∉ks)
  (h:At cf c F E a w vs Bs cnt g p ⟨[.sl s l,.en r sr]++(ns++((slotsK st k r).map fun x=>Fact.sl x.1 (.is r x.2))++(awSlots st k r q).map fun x=>Fact.sl x.1 x.2.1),r::ks,
   .en cnt sr::((slotsK st k r).map fun x=>Fact.sl x.1 (.is cnt x.2))++(awSlots st k r q).map fun x=>Fact.sl x.1 (.aw cnt [x.2.2] [])⟩) (hp:0<p.np) (hone:(ev E α).one=true)
  (hE':(q.mapM (PE.ev E)).bind (fun is=>setP is (E r) (ev E α))=some (E cnt)) (hal:∀ n∈ks,alive F n)
  (hput:∀ O':Nat→Prop,(∀ b,b<w.heap.size→O' b→OB F Bs b)→(es=.v→∀ n∈ks,∀ b∈Bs n,¬ O' b)→
   ∃ B,Own c.fid w.heap O' c.Xb es (ev E α) (a.eval v) B∧B.Nodup∧∀ b∈B,∃ n∈ks,b∈Bs n∧es≠.v):
  StepOK c o ⟨[.sl s l,.en r sr]++(ns++((slotsK st k r).map fun x=>Fact.sl x.1 (.is r x.2))++(awSlots st k r q).map fun x=>Fact.sl x.1 x.2.1),r::ks,
   .en cnt sr::((slotsK st k r).map fun x=>Fact.sl x.1 (.is cnt x.2))++(awSlots st k r q).map fun x=>Fact.sl x.1 (.aw cnt [x.2.2] [])⟩ F E a w:=by
 have hP:c.P=cf.P:=h.fits.P
 have hr:F (.en r sr):=h.needs _ (by simp)
 have hown:=h.H.own r sr hr
 obtain ⟨is,gb,go,d0,x0,k1,k2,k3,k4⟩:=adOf_loc had (h.H.loc s l (h.needs _ (by simp))) (by intro x hx; simp at hx) ⟨sr,hr⟩
 have hev:a.eval (.tmp s)=.pointer (some ⟨gb,go,none⟩):=by simp [Act.eval,qag,k4]
 have hne:is≠[]:=by rintro rfl; simp [Wk] at k3
 have hsu:sr.under is.length=some es:=by rw [pathE_len k1]; exact hes
 obtain ⟨b2,o2,x2,B2,w1,w2,w3,hgbB⟩:=Wk.of_own is sr es (E r) d0 (vs r) (Bs r) hne hown k2 hsu
 obtain ⟨rfl,rfl,_⟩:=Wk.det is k3 w1
 have hq:q.mapM (PE.ev E)=some is:=k1
 rw [hq,Option.bind_some] at hE'
 have hlt:∀ n s,F (.en n s)→∀ b∈Bs n,b<w.heap.size:=fun n s hs=>Own.blocks_lt s _ _ _ (h.H.own n s hs)
 have hO:=Oput_old h.H (ks:=r::ks) (es:=es) (N:=fun b=>b∈Bs r) (fun b hb q=>⟨r,sr,hr,q⟩)
 obtain ⟨Bx,x1,hBxn,hBx0⟩:=hput _ hO (fun q=>by
  subst q
  refine Oput_fr h.H (fun n hn=>qmc _ hn) hal (fun n hn b hb hbr=>?_)
  obtain ⟨rn,hrn⟩:=hal n hn
  exact h.H.apart n rn r sr hrn hr (fun e=>hrk (e ▸ hn)) b hb hbr)
 have hBx:∀ b∈Bx,∃ n∈ks,alive F n∧b∈Bs n∧es≠.v:=by
  intro b hb
  obtain ⟨n,h1,h2,h3⟩:=hBx0 b hb
  exact ⟨n,h1,hal n h1,h2,h3⟩
 have hBxr:∀ b∈Bx,b∉Bs r:=by
  intro b hb hbr
  obtain ⟨n,hn,⟨rn,hrn⟩,hbn,_⟩:=hBx b hb
  exact h.H.apart n rn r sr hrn hr (fun e=>hrk (e ▸ hn)) b hbn hbr
 obtain ⟨gcs,ge,gfz,c1,c2⟩:=k3.cell
 have hfz:gfz=(0,0):=own_thawed is sr (E r) d0 (vs r) (Bs r) hown k2 hsu k3 c1
 subst hfz
 have hv1:=x1.one hone
 have hrun:(execOp a.eval o).run c.P w=.ok .skip (w.setRow gb (gcs.setIfInBounds go (a.eval v))):=by
  simp only [execOp,ho]
  rw [Sem.run_bind,hev,run_storeAt1 (by rw [hP]; exact hpl) c1 c2 hv1]
  rfl
 have hheap':=setRow_heap w gb gcs (gcs.setIfInBounds go (a.eval v)) ge (0,0) c1
 have hagr:Agr (fun b=>b=gb) w.heap (w.setRow gb (gcs.setIfInBounds go (a.eval v))).heap:=⟨by simp,fun b _ hb=>setRow_other w gb b _ hb⟩
 have x1':Own c.fid (w.setRow gb (gcs.setIfInBounds go (a.eval v))).heap (Oput F Bs (r::ks) es fun b=>b∈Bs r) c.Xb es (ev E α) (a.eval v) Bx:=
  Own.ext hagr (fun b _ hb=>.inr (.inr (by rw [hb]; exact hgbB))) (fun _ _ q=>q) _ _ _ _ (fun b hb e=>hBxr b hb (by rw [e]; exact hgbB)) x1
 obtain ⟨B',s1,s2,s3,_⟩:=Own.set (O:=OB F Bs) (fun b hb=>setRow_other w gb b _ hb) (by simp) c1 hheap' ⟨r,sr,hr,hgbB⟩ hO x1' is sr (E r) (E cnt) (vs r) _ (Bs r) hne hown (h.H.nodup r sr hr) (fun k hk hkx=>hBxr k hkx hk) hBxn hsu hE' k3
 have hfr:Fresh F cnt:=by simpa using h.fresh 0 hp
 have hrc:r≠cnt:=by rintro rfl; exact hfr.1 _ hr
 have H1:=h.H.put (m:=cnt) (s:=sr) (v:=vs r) (B:=B') (dst:=none) (ns:=[]) hfr (by simp [inB]) (r::ks) (hagr.mono fun b _ hb=>⟨r,sr,hr,by simp,by rw [hb]; exact hgbB⟩) rfl rfl rfl
  (Own.ext (Agr.refl (fun _=>False) _) (fun _ _ q=>q.elim) (fun b _ hb=>by
   rcases hb with hb | hb
   ·exact .inl hb
   ·rcases s2 b hb with hb | hb
    ·exact .inr (.inr hb)
    ·obtain ⟨n,hn,ha,hbn,hesv⟩:=hBx b hb
     exact .inr (.inl ⟨hesv,n,qmc _ hn,ha,hbn⟩)) _ _ _ _ (fun _ _ q=>q) s1) s3
  (fun b hb=>by
   rcases s2 b hb with hb | hb
   ·exact .inl ⟨r,sr,hr,by simp,hb⟩
   ·obtain ⟨n,hn,⟨rn,hrn⟩,hbn,_⟩:=hBx b hb
    exact .inl ⟨n,rn,hrn,qmc _ hn,hbn⟩) h.g
 refine StepOK.of_skip hrun hdst ⟨upd vs cnt (vs r),upd Bs cnt B',?_⟩
 refine H1.more2 ?_ ?_
 ·intro n s'
  simp only [next,one,List.cons_append,qmn,qma,List.mem_map,qnm,or_false]
  constructor
  ·rintro (q | q | ⟨_,_,q⟩ | ⟨_,_,q⟩)
   ·exact .inl q
   ·exact .inr q
   ·cases q
   ·cases q
  ·rintro (q | q)
   ·exact .inl q
   ·exact .inr (.inl q)
 ·intro t' l' hf
  rcases hf with ⟨q1,_⟩ | q
  ·exact .inl (.inl ⟨q1,by simp⟩)
  ·simp only [List.cons_append,qmn,qma,List.mem_map] at q
   rcases q with q | ⟨⟨u,gu⟩,hu,q⟩ | ⟨⟨u,lu,e2⟩,hu,q⟩
   ·cases q
   ·injection q with q1 q2
    subst q1 q2
    have hf0:F (.sl u (.is r gu)):=h.needs _ (by simp only [qma,List.mem_map]; exact .inr (.inl (.inr ⟨(u,gu),hu,rfl⟩)))
    have:=H1.loc u (.is r gu) (.inl ⟨hf0,by simp⟩)
    right
    refine ⟨fun hg=>?_,this.2⟩
    have h1:=this.1 hg
    rw [upd_ne vs _ hrc] at h1
    rw [upd_same]; exact h1
   ·injection q with q1 q2
    subst q1 q2
    right
    intro hg _
    obtain ⟨⟨e0,hq0⟩,had2⟩:=awSlots_spec hu
    subst hq0
    have hf0:F (.sl u lu):=h.needs _ (by simp only [qma,List.mem_map]; exact .inr (.inr ⟨(u,lu,e2),hu,rfl⟩))
    obtain ⟨is2,b2,o2,d2,y2,j1,j2,j3,j4⟩:=adOf_loc had2 (h.H.loc u lu hf0) hg ⟨sr,hr⟩
    have l1:is.length=1:=pathE_len k1
    have l2:is2.length=1:=pathE_len j1
    match is,l1,is2,l2 with
    | [i],_,[i2],_=>
     obtain ⟨zz,hz⟩:=getP_set1 hE' j2
     simp only [Wk] at j3
     obtain ⟨b',o3,cs,e,fz,y,e1,e3,e4,⟨_,rfl,rfl,rfl⟩ | ⟨q,_⟩⟩:=j3
     ·have hcell:∃ cs' y',(w.setRow gb (gcs.setIfInBounds go (a.eval v))).heap[b2]?=some (.cells cs' e fz)∧cs'[o2]?=some y':=by
       by_cases hbb:b2=gb
       ·subst hbb
        rw [e3] at c1
        injection c1 with c1
        injection c1 with c1 c1' c1''
        subst c1 c1' c1''
        have hlt2:o2<cs.size:=(Array.getElem?_eq_some_iff.1 e4).1
        exact ⟨_,(cs.setIfInBounds go (a.eval v))[o2]'(by simpa using hlt2),hheap',Array.getElem?_eq_getElem (by simpa using hlt2)⟩
       ·exact ⟨cs,_,(setRow_other w gb b2 _ hbb).trans e3,e4⟩
      obtain ⟨cs',y',m1,m2⟩:=hcell
      refine ⟨[i2],b2,o2,zz,y',j1,hz,?_,by rw [put_get (by simp)]; exact j4⟩
      simp only [Wk]
      exact ⟨b2,o2,cs',e,fz,y',by rw [upd_same]; exact e1,m1,m2,.inl ⟨trivial,rfl,rfl,rfl⟩⟩
     ·exact (q rfl).elim
theorem trSt_sound {k:Nat} {t:TypeId} {x v:Operand} (ho:o.op=.store t x v) (ht:trSt cf st cnt o g k t x v=some (p,sm)) (h:At cf c F E a w vs Bs cnt g p sm) (hE:EvP K E cnt p):StepOK c o sm F E a w:=by
 unfold trSt at ht
 split at ht
 ·rename_i s
  split at ht
  ·rename_i hc
   obtain ⟨hg0,hdst,hpl⟩:=hc
   split at ht
   ·rename_i l hl
    split at ht
    ·rename_i r q had
     simp only [qbs] at ht
     obtain ⟨sr,hsr,ht⟩:=ht
     split at ht
     ·rename_i es hes
      simp only [qbs] at ht
      obtain ⟨⟨α,ks,ns⟩,hput,ht⟩:=ht
      simp only at ht
      split at ht
      ·rename_i hrk
       simp only [qsj,qpj] at ht
       obtain ⟨rfl,rfl⟩:=ht
       have hE0:(if (ev E α).one=true then (q.mapM (PE.ev E)).bind fun is=>setP is (E r) (ev E α) else none)=some (E cnt):=hE
       split at hE0
       ·rename_i hone
        have hnsn:∀ f∈ns,f∈([.sl s l,.en r sr]++(ns++((slotsK st k r).map fun x=>Fact.sl x.1 (.is r x.2))++(awSlots st k r q).map fun x=>Fact.sl x.1 x.2.1)):=fun f hf=>by simp [hf]
        have hal:∀ n∈ks,alive F n:=by
         obtain ⟨_,_,_,k⟩:=trPut_sound (O':=fun _=>False) hput h hnsn (fun _ _ q=>q.elim) (fun _ _ _ _ _ q=>q)
         exact k
        refine store_core ho hg0 hdst hpl had hes hrk h (by simp [Pr.np]) hone hE0 hal fun O' hO hfr=>?_
        obtain ⟨Bx,x1,x2',_⟩:=trPut_sound hput h hnsn hO hfr
        refine ⟨Bx,x1,?_,fun b hb=>?_⟩
        ·rcases x2' with ⟨_,rfl⟩ | ⟨n,rfl,rfl,q⟩
         ·simp
         ·obtain ⟨rn,hrn⟩:=hal n (by simp)
          exact h.H.nodup n rn hrn
        ·rcases x2' with ⟨_,rfl⟩ | ⟨n,rfl,rfl,q⟩
         ·simp at hb
         ·exact ⟨n,by simp,hb,q⟩
       ·cases hE0
      ·cases ht
     ·cases ht
    ·cases ht
   ·cases ht
  ·cases ht
 ·cases ht
end
end Go.Cat
namespace Go.Cat
section
variable (cf:CF) (st:List Fact) (cnt:Nat) (o:Oper) (g:Gd)
def trO:Option Operand→Option (Option A×List Fact)
 | none=>some (none,[])
 | some x=>(opA cf st g x).map fun a=>(some a.1,a.2.2)
def trSl (t:TypeId) (x:Operand) (lo hi mx:Option Operand):Option (Pr×Sm):=
 if mx.isSome then none else
 (opA cf st g x).bind fun a=>(trO cf st g lo).bind fun l=>(trO cf st g hi).bind fun h=>
  if isStr cf.P t=true then leafS cf cnt o g (.ss a.1 l.1 h.1) .v (a.2.2++(l.2++h.2))
  else if (elem1 cf.P t).isSome=true then
   if a.2.1=.v then leafS cf cnt o g (.sb false a.1 l.1 h.1) .v (a.2.2++(l.2++h.2))
   else if a.2.1=.y then leafS cf cnt o g (.sb false a.1 l.1 h.1) .y (a.2.2++(l.2++h.2))
   else if a.2.1=.o .v∧g=[]∧inB o.dst cf.nt=true then match a.1 with
    | .e n=>some (.sb true a.1 l.1 h.1,⟨a.2.2++(l.2++h.2),[n],one cnt (.o .v) o.dst (.is cnt g)⟩)
    | .c _=>none
   else none
  else none
def isBytes (P:Program) (t:TypeId):Bool:=match elem1 P t with
 | some (e,_)=>match P.underlying e with
  | some (.int .u8)=>true
  | _=>false
 | none=>false
def trBs (s d:TypeId) (x:Operand):Option (Pr×Sm):=
 if isBytes cf.P s=true∧isStr cf.P d=true then (opA cf st g x).bind fun a=>leafS cf cnt o g (.bs a.1) .v a.2.2
 else none
def trTu (x:Operand):Option (Pr×Sm):=
 match x,o.dst with
 | .tmp t,some d=>if d<cf.nt then match findSl st t with
  | some (.tu ns g')=>if g'.isPrefixOf g then some (.nop,⟨[.sl t (.tu ns g')],[],[.sl d (.tu ns g)]⟩) else none
  | _=>none
  else none
 | _,_=>none
end
section
variable {P:Program} {w:World}
theorem run_bounds {isS:Bool} {len cap:Nat} {lo hi:Option Value} {l h:Nat} (hlo:(lo=none∧l=0)∨∃ k,lo=some (.int k (l:Int))) (hhi:(hi=none∧h=len)∨∃ k,hi=some (.int k (h:Int)))
  (h1:l≤h) (h2:h≤cap):(Instr.sliceBounds isS len cap lo hi none).run P w=.ok (l,h,cap) w:=by
 rcases hlo with ⟨rfl,rfl⟩ | ⟨k1,rfl⟩ <;> rcases hhi with ⟨rfl,rfl⟩ | ⟨k2,rfl⟩
 ·simp [Instr.sliceBounds]
 ·simp [Instr.sliceBounds,run_sliceBound,h2]
 ·simp [Instr.sliceBounds,run_sliceBound,h1]
 ·simp [Instr.sliceBounds,run_sliceBound,h1,h2]
theorem run_sl {t e:TypeId} {ti:TypeInfo} (hel:elem1 P t=some (e,ti)) {a:Option Addr} {len cap:Nat} {lo hi:Option Value} {l h:Nat}
  (hlo:(lo=none∧l=0)∨∃ k,lo=some (.int k (l:Int))) (hhi:(hi=none∧h=len)∨∃ k,hi=some (.int k (h:Int))) (h1:l≤h) (h2:h≤cap):
  (Instr.sliceAt t (.slice a len cap) lo hi none).run P w=.ok (.slice (if cap=l then a else a.map (·.add l)) (h-l) (cap-l)) w:=by
 obtain ⟨g1,g2,g3⟩:=elem1_spec hel
 have:=run_bounds (P:=P) (w:=w) (isS:=true) hlo hhi h1 h2
 simp [Instr.sliceAt,Instr.slice,run_underlying g1,this,sizeOf,typeInfo,g2,g3]
theorem run_ss {t:TypeId} (ht:P.underlying t=some .string) {s:ByteArray} {lo hi:Option Value} {l h:Nat}
  (hlo:(lo=none∧l=0)∨∃ k,lo=some (.int k (l:Int))) (hhi:(hi=none∧h=s.size)∨∃ k,hi=some (.int k (h:Int))) (h1:l≤h) (h2:h≤s.size):
  (Instr.sliceAt t (.string s) lo hi none).run P w=.ok (.string (s.extract l h)) w:=by
 have:=run_bounds (P:=P) (w:=w) (isS:=false) hlo hhi h1 h2
 simp [Instr.sliceAt,Instr.slice,run_underlying ht,this]
theorem strV_extract (x:List Nat) (l h:Nat):Value.string ((⟨(x.map fun c=>UInt8.ofNat c).toArray⟩:ByteArray).extract l h)=strV ((x.take h).drop l):=by
 unfold strV
 congr 1
 apply ByteArray.ext
 simp only [ByteArray.data_extract]
 apply Array.ext'
 simp [List.map_drop,List.map_take,List.drop_take]
end
theorem bound_spec {E:Nat→D} {oa:Option A} {dflt n:Nat} (h:bound (oa.map (ev E)) dflt=some n):(oa=none∧n=dflt)∨∃ α k,oa=some α∧ev E α=.i k (n:Int):=by
 cases oa with
 | none=>simp [bound] at h; exact .inl ⟨rfl,h.symm⟩
 | some α=>
  simp only [Option.map_some,bound] at h
  split at h
  ·rename_i h'; cases h'
  ·rename_i k z h'
   split at h
   ·rename_i hz
    injection h with h
    injection h' with h'
    exact .inr ⟨α,k,rfl,by rw [h',← h,Int.toNat_of_nonneg hz]⟩
   ·cases h
  ·cases h
section
variable {cf:CF} {c:Cx} {F:Fact→Prop} {E:Nat→D} {a:Act} {w:World} {vs:Nat→Value} {Bs:Nat→List Nat} {cnt:Nat} {g:Gd} {sm:Sm} {st:List Fact} {o:Oper} {p:Pr}
 {K:Nat→List D→List D→Prop}
theorem trO_sound {x:Option Operand} {oa:Option A} {ns:List Fact} (ht:trO cf st g x=some (oa,ns)) (h:At cf c F E a w vs Bs cnt g p sm) (hn:∀ f∈ns,f∈sm.needs) {dflt n:Nat} (hb:bound (oa.map (ev E)) dflt=some n):
  (x.map a.eval=none∧n=dflt)∨∃ k,x.map a.eval=some (.int k (n:Int)):=by
 cases x with
 | none=>
  simp only [trO,qsj,qpj] at ht
  obtain ⟨rfl,rfl⟩:=ht
  simp [bound] at hb
  exact .inl ⟨rfl,hb.symm⟩
 | some x=>
  simp only [trO,qms,qpj] at ht
  obtain ⟨⟨α,s,n1⟩,h1,rfl,rfl⟩:=ht
  rcases bound_spec hb with ⟨q,_⟩ | ⟨α',k,q,he⟩
  ·cases q
  ·injection q with q; subst q
   obtain ⟨B,hB,_⟩:=h.opA h1 hn
   rw [he] at hB
   exact .inr ⟨k,by simp [hB.int]⟩
theorem RdL.part {fid:Nat→Nat} {h:Array Obj} {Z:Nat→Prop}:∀ (l:Nat) {ds:List D} {vs:List Value},RdL fid h Z ds vs→RdL fid h Z (ds.drop l) (vs.drop l)
 | 0,ds,vs,r=>by simpa using r
 | l+1,[],vs,_=>by simp [RdL]
 | l+1,d::ds,[],r=>by simp [RdL] at r
 | l+1,d::ds,v::vs,r=>by
  simp only [RdL] at r
  simpa using RdL.part l r.2
theorem RdL.head {fid:Nat→Nat} {h:Array Obj} {Z:Nat→Prop}:∀ (l:Nat) {ds:List D} {vs:List Value},RdL fid h Z ds vs→RdL fid h Z (ds.take l) vs
 | 0,ds,vs,r=>by simp [RdL]
 | l+1,[],vs,_=>by simp [RdL]
 | l+1,d::ds,[],r=>by simp [RdL] at r
 | l+1,d::ds,v::vs,r=>by
  simp only [RdL,List.take_succ_cons] at r ⊢
  exact ⟨r.1,RdL.head l r.2⟩
theorem subD_spec {d d':D} {lo hi:Option D} (h:subD d lo hi=some d'):∃ xs l r,d=.l xs∧bound lo 0=some l∧bound hi xs.length=some r∧l≤r∧r≤xs.length∧d'=.l ((xs.take r).drop l):=by
 unfold subD at h
 split at h
 ·rename_i xs
  split at h
  ·rename_i l r h1 h2
   split at h
   ·rename_i hc
    injection h with h
    exact ⟨xs,l,r,rfl,h1,h2,hc.1,hc.2,h.symm⟩
   ·cases h
  ·cases h
 ·cases h
theorem ssD_spec {d d':D} {lo hi:Option D} (h:ssD d lo hi=some d'):∃ xs l r,d=.s xs∧bound lo 0=some l∧bound hi xs.length=some r∧l≤r∧r≤xs.length∧d'=.s ((xs.take r).drop l):=by
 unfold ssD at h
 split at h
 ·rename_i xs
  split at h
  ·rename_i l r h1 h2
   split at h
   ·rename_i hc
    injection h with h
    exact ⟨xs,l,r,rfl,h1,h2,hc.1,hc.2,h.symm⟩
   ·cases h
  ·cases h
 ·cases h
theorem Rd.sub {fid:Nat→Nat} {h:Array Obj} {Z:Nat→Prop} {xs:List D} {v:Value} {l r:Nat} (hr:Rd fid h Z (.l xs) v) (h1:l≤r) (h2:r≤xs.length):
  ∃ ad cap,v=.slice ad xs.length cap∧r≤cap∧Rd fid h Z (.l ((xs.take r).drop l)) (.slice (if cap=l then ad else ad.map (·.add l)) (r-l) (cap-l)):=by
 simp only [Rd] at hr
 rcases hr with ⟨rfl,a0,rfl⟩ | ⟨b,off,cap,cs,e,fz,rfl,hb,hz,hl,hn⟩
 ·simp at h2
  subst h2
  have:l=0:=by omega
  subst this
  exact ⟨a0,0,rfl,by omega,by simp [Rd]⟩
 ·refine ⟨_,cap,rfl,by omega,?_⟩
  simp only [Rd]
  have hlen:((xs.take r).drop l).length=r-l:=by simp; omega
  by_cases hc:cap=l
  ·have:r=l:=by omega
   subst this
   refine .inr ⟨b,off,0,cs,e,fz,by simp [hc],hb,hz,?_,by simp⟩
   have:(xs.take r).drop r=[]:=qez (by rw [hlen]; omega)
   rw [this]; simp [RdL]
  ·refine .inr ⟨b,off+l,cap-l,cs,e,fz,by simp [hc,Addr.add_lit]; omega,hb,hz,?_,by rw [hlen]; omega⟩
   have:=RdL.part l (RdL.head r hl)
   rwa [List.drop_drop] at this
theorem isStr_und {P:Program} {t:TypeId} (h:isStr P t=true):P.underlying t=some .string:=by
 unfold isStr at h
 split at h
 ·assumption
 ·cases h
theorem exec_slice {t:TypeId} {x:Operand} {lo hi:Option Operand} (ho:o.op=.slice t x lo hi none) {v:Value} (h:(Instr.sliceAt t (a.eval x) (lo.map a.eval) (hi.map a.eval) none).run c.P w=.ok v w):(execOp a.eval o).run c.P w=.ok (.value v) w:=by
 simp only [execOp,ho]
 exact run_v h
theorem trSl_sound {t:TypeId} {x:Operand} {lo hi mx:Option Operand} (ho:o.op=.slice t x lo hi mx) (ht:trSl cf st cnt o g t x lo hi mx=some (p,sm)) (h:At cf c F E a w vs Bs cnt g p sm) (hE:EvP K E cnt p):StepOK c o sm F E a w:=by
 unfold trSl at ht
 split at ht
 ·cases ht
 ·rename_i hmx
  have hmx:mx=none:=by cases mx <;> simp_all
  subst hmx
  simp only [qbs] at ht
  obtain ⟨⟨α,sx,n1⟩,h1,⟨l1,n2⟩,h2,⟨r1,n3⟩,h3,ht⟩:=ht
  simp only at ht
  have hP:c.P=cf.P:=h.fits.P
  split at ht
  ·rename_i hstr
   obtain ⟨rfl,hi',rfl⟩:=leafS_eq ht
   have hE':ssD (ev E α) (l1.map (ev E)) (r1.map (ev E))=some (E cnt):=hE
   obtain ⟨xs,l,r,e1,e2,e3,e4,e5,e6⟩:=ssD_spec hE'
   obtain ⟨B,hB,_⟩:=h.opA h1 (fun f hf=>qal _ hf)
   rw [e1] at hB
   obtain ⟨k1,k2,k3⟩:=hB.str
   have b1:=trO_sound h2 h (fun f hf=>qar _ (qal _ hf)) e2
   have b2:=trO_sound h3 h (fun f hf=>qar _ (qar _ hf)) e3
   refine leaf_step h hi' (same_world w) (v:=strV ((xs.take r).drop l)) (exec_slice ho ?_) (Own.of_rd fun Z=>?_)
   ·rw [k1,← strV_extract]
    exact run_ss (by rw [hP]; exact isStr_und hstr) b1 (by rw [strV_size]; exact b2) e4 (by rw [strV_size]; exact e5)
   ·rw [e6]
    simp only [Rd]
    refine ⟨trivial,fun c hc=>k2 c (List.mem_of_mem_take (List.mem_of_mem_drop hc)),?_⟩
    simp; omega
  ·split at ht
   ·rename_i hel
    obtain ⟨⟨e,ti⟩,hel⟩:=Option.isSome_iff_exists.1 hel
    split at ht
    ·rename_i hsx
     subst hsx
     obtain ⟨rfl,hi',rfl⟩:=leafS_eq ht
     have hE':subD (ev E α) (l1.map (ev E)) (r1.map (ev E))=some (E cnt):=hE
     obtain ⟨xs,l,r,e1,e2,e3,e4,e5,e6⟩:=subD_spec hE'
     obtain ⟨B,hB,_⟩:=h.opA h1 (fun f hf=>qal _ hf)
     rw [e1] at hB
     have b1:=trO_sound h2 h (fun f hf=>qar _ (qal _ hf)) e2
     have b2:=trO_sound h3 h (fun f hf=>qar _ (qar _ hf)) e3
     simp only [Own] at hB
     obtain ⟨ad,cap,hv,hrc,hr⟩:=hB.2.sub e4 e5
     refine leaf_step h hi' (same_world w) (exec_slice ho (by rw [hv]; exact run_sl (by rw [hP]; exact hel) b1 b2 e4 hrc)) ?_
     rw [e6]; simp only [Own]; exact ⟨trivial,hr⟩
    ·split at ht
     ·rename_i hsx
      subst hsx
      obtain ⟨rfl,hi',rfl⟩:=leafS_eq ht
      have hE':subD (ev E α) (l1.map (ev E)) (r1.map (ev E))=some (E cnt):=hE
      obtain ⟨xs,l,r,e1,e2,e3,e4,e5,e6⟩:=subD_spec hE'
      obtain ⟨B,hB,_⟩:=h.opA h1 (fun f hf=>qal _ hf)
      rw [e1] at hB
      have b1:=trO_sound h2 h (fun f hf=>qar _ (qal _ hf)) e2
      have b2:=trO_sound h3 h (fun f hf=>qar _ (qar _ hf)) e3
      simp only [Own] at hB
      obtain ⟨ad,cap,hv,hrc,hr⟩:=hB.2.sub e4 e5
      refine leaf_step h hi' (same_world w) (exec_slice ho (by rw [hv]; exact run_sl (by rw [hP]; exact hel) b1 b2 e4 hrc)) ?_
      rw [e6]; simp only [Own]; exact ⟨trivial,hr⟩
     ·split at ht
      ·rename_i hsx
       obtain ⟨hsx,hg0,hin⟩:=hsx
       subst hsx
       split at ht
       ·rename_i n
        simp only [qsj,qpj] at ht
        obtain ⟨rfl,rfl⟩:=ht
        have hE':subD (ev E (.e n)) (l1.map (ev E)) (r1.map (ev E))=some (E cnt):=hE
        obtain ⟨xs,l,r,e1,e2,e3,e4,e5,e6⟩:=subD_spec hE'
        obtain ⟨B,hB,hn'⟩:=h.opA h1 (fun f hf=>qal _ hf)
        obtain ⟨k1,k2,k3⟩:=hn' n rfl
        rw [e1] at hB
        have b1:=trO_sound h2 h (fun f hf=>qar _ (qal _ hf)) e2
        have b2:=trO_sound h3 h (fun f hf=>qar _ (qar _ hf)) e3
        have hlen:((xs.take r).drop l).length=r-l:=by simp; omega
        have hfr:Fresh F cnt:=by simpa using h.fresh 0 (by simp [Pr.np])
        have hin':inB o.dst c.nt=true:=by rw [h.fits.nt]; exact hin
        have hOk:∀ b,b<w.heap.size→(OBk F Bs (fun k=>k∈[n]) b∨b∈B)→OB F Bs b:=by
         rintro b _ (⟨m,s,q1,_,q3⟩ | q)
         ·exact ⟨m,s,q1,q3⟩
         ·exact ⟨n,_,k1,k3 ▸ q⟩
        have hB':=hB
        simp only [Own] at hB
        rcases hB with ⟨q | q,_⟩ | ⟨ys,hy,hB⟩
        ·cases q
        ·simp [D.flat] at q
        injection hy with hy; subst hy
        rcases hB with ⟨hv,rfl,rfl⟩ | ⟨b,off,cap,cs,e',fz,B',rfl,hv,hb,htw,q1,q2,q3,he⟩
        ·simp at e5
         subst e5
         have:l=0:=by omega
         subst this
         have hrun:=exec_slice (c:=c) (w:=w) (a:=a) ho (by rw [hv]; exact run_sl (by rw [hP]; exact hel) b1 b2 e4 (Nat.le_refl 0))
         refine StepOK.of_value hrun ⟨upd vs cnt _,upd Bs cnt [],h.H.put hfr hin' [n] (Agr.refl _ _) rfl rfl rfl ?_ (by simp) (by simp) h.g⟩
         rw [e6]
         simpa using Own.nil
        ·have hrun:=exec_slice (c:=c) (w:=w) (a:=a) ho (by rw [hv]; exact run_sl (by rw [hP]; exact hel) b1 b2 e4 (show r≤cap by omega))
         refine StepOK.of_value hrun ⟨upd vs cnt _,upd Bs cnt (b::B'),h.H.put hfr hin' [n] (Agr.refl _ _) rfl rfl rfl ?_ (by rw [k3]; exact h.H.nodup n _ k1) (fun k hk=>.inl ⟨n,_,k1,by simp,k3 ▸ hk⟩) h.g⟩
         rw [e6]
         obtain ⟨rfl,hrd⟩:=eachV.1 he
         have hrd':RdL c.fid w.heap (fun k=>(OBk F Bs (fun k=>k∈[n]) k∨k∈[b])∨c.Xb k) xs (cs.toList.drop off):=
          RdL.mono hrd fun k hk q=>q.imp (hOk k hk) id
         simp only [Own]
         refine .inr ⟨_,rfl,.inr ?_⟩
         by_cases hc:cap=l
         ·have:r=l:=by omega
          subst this
          have h0:(xs.take r).drop r=[]:=qez (by rw [hlen]; omega)
          rw [h0]
          refine ⟨b,off,0,cs,e',fz,[],rfl,by simp [hc],hb,htw,by simp,by omega,by simp,by simp [Each]⟩
         ·refine ⟨b,off+l,cap-l,cs,e',fz,[],rfl,by rw [hlen]; simp [hc,Addr.add_lit],hb,htw,by rw [hlen]; omega,by omega,by rw [hlen]; omega,eachV.2 ⟨rfl,?_⟩⟩
          have:=RdL.part l (RdL.head r hrd')
          rwa [List.drop_drop] at this
       ·cases ht
      ·cases ht
   ·cases ht
end
end Go.Cat
namespace Go.Cat
theorem bytesOf_spec:∀ {xs:List D} {ns:List Nat},bytesOf xs=some ns→xs=ns.map (fun (n:Nat)=>D.i .u8 (n:Int))∧∀ n∈ns,n<256
 | [],ns,h=>by simp [bytesOf] at h; subst h; simp
 | d::xs,ns,h=>by
  unfold bytesOf at h
  split at h
  ·simp_all
  ·rename_i n ds heq
   cases heq
   split at h
   ·rename_i hb
    simp only [qms] at h
    obtain ⟨ms,h1,rfl⟩:=h
    obtain ⟨rfl,h2⟩:=bytesOf_spec h1
    refine ⟨?_,?_⟩
    ·simp [Int.toNat_of_nonneg hb.1]
    ·intro m hm
     rcases qmn.1 hm with rfl | hm
     ·omega
     ·exact h2 m hm
   ·cases h
  ·cases h
theorem RdL.bytes {fid:Nat→Nat} {h:Array Obj} {Z:Nat→Prop}:∀ {ns:List Nat} {vs:List Value},vs.length=ns.length→RdL fid h Z (ns.map (fun (n:Nat)=>D.i .u8 (n:Int))) vs→vs=(ns.map (fun (n:Nat)=>(n:Int))).map (Value.int .u8)
 | [],[],_,_=>rfl
 | [],_::_,hl,_=>by simp at hl
 | n::ns,[],hl,_=>by simp at hl
 | n::ns,v::vs,hl,r=>by
  simp only [List.map_cons,RdL,Rd] at r
  rw [r.1,RdL.bytes (by simpa using hl) r.2]
  simp
theorem push_bytes:∀ (ns:List Nat) (s:ByteArray),(ns.map (fun (n:Nat)=>(n:Int))).foldl (fun r n=>r.push (UInt8.ofNat n.toNat)) s=⟨s.data++(ns.map fun c=>UInt8.ofNat c).toArray⟩
 | [],s=>by simp
 | n::ns,s=>by
  simp only [List.map_cons,List.foldl_cons,qtn]
  rw [push_bytes ns]
  apply ByteArray.ext
  simp
section
variable {cf:CF} {c:Cx} {F:Fact→Prop} {E:Nat→D} {a:Act} {w:World} {vs:Nat→Value} {Bs:Nat→List Nat} {cnt:Nat} {g:Gd} {sm:Sm} {st:List Fact} {o:Oper} {p:Pr}
 {K:Nat→List D→List D→Prop}
theorem Own.news {fid:Nat→Nat} {h:Array Obj} {O X:Nat→Prop} {s:Sh} {ys:List D} {v:Value} {B:List Nat} (hs:s=.v∨s=.y∨s=.o .v) (r:Own fid h O X s (.l ys) v B):
  ∃ (news:List Value) (Z:Nat→Prop),(((∃ a,v=.slice a 0 0)∧news=[])∨∃ b off cap cs e fz,v=.slice (some ⟨b,off,none⟩) news.length cap∧h[b]?=some (.cells cs e fz)∧∀ (j:Nat) (u:Value),news[j]?=some u→cs[off+j]?=some u)∧
   news.length=ys.length∧RdL fid h Z ys news:=by
 rcases hs with rfl | rfl | rfl
 ·simp only [Own] at r
  obtain ⟨news,h1,h2,h3⟩:=r.2.news
  refine ⟨news,_,?_,h2,h3⟩
  rcases h1 with h1 | ⟨b,off,cap,cs,e,fz,q1,q2,q3,q4⟩
  ·exact .inl h1
  ·exact .inr ⟨b,off,cap,cs,e,fz,q1,q3,q4⟩
 ·simp only [Own] at r
  obtain ⟨news,h1,h2,h3⟩:=r.2.news
  refine ⟨news,_,?_,h2,h3⟩
  rcases h1 with h1 | ⟨b,off,cap,cs,e,fz,q1,q2,q3,q4⟩
  ·exact .inl h1
  ·exact .inr ⟨b,off,cap,cs,e,fz,q1,q3,q4⟩
 ·obtain ⟨news,h1,h2,h3⟩:=r.olds
  refine ⟨news,_,?_,h2,h3⟩
  rcases h1 with ⟨q1,q2,_⟩ | ⟨b,off,cap,cs,e,_,q1,q2,_,_,q4⟩
  ·exact .inl ⟨⟨_,q1⟩,q2⟩
  ·exact .inr ⟨b,off,cap,cs,e,_,q1,q2,q4⟩
theorem isBytes_spec {P:Program} {t:TypeId} (h:isBytes P t=true):∃ e,P.underlying t=some (.slice e)∧P.underlying e=some (.int .u8):=by
 unfold isBytes at h
 split at h
 ·rename_i e ti hel
  split at h
  ·rename_i he
   exact ⟨e,(elem1_spec hel).1,he⟩
  ·cases h
 ·cases h
def okBs:Sh→Bool
 | .v=>true
 | .y=>true
 | .o .v=>true
 | _=>false
theorem trBs_sound {s d:TypeId} {x:Operand} (ho:o.op=.convert s d x) (ht:trBs cf st cnt o g s d x=some (p,sm)) (hok:∀ α sh ns,opA cf st g x=some (α,sh,ns)→okBs sh=true) (h:At cf c F E a w vs Bs cnt g p sm) (hE:EvP K E cnt p):StepOK c o sm F E a w:=by
 unfold trBs at ht
 split at ht
 ·rename_i hc
  obtain ⟨h1,h2⟩:=hc
  simp only [qbs] at ht
  obtain ⟨⟨α,sh,ns⟩,hx,ht⟩:=ht
  have hsh:=hok _ _ _ hx
  obtain ⟨rfl,hi',rfl⟩:=leafS_eq ht
  obtain ⟨B,hB,_⟩:=h.opA hx (fun f hf=>hf)
  have hE':bsD (ev E α)=some (E cnt):=hE
  unfold bsD at hE'
  split at hE'
  ·rename_i xs hxs
   simp only [qms] at hE'
   obtain ⟨ms,hb,hE'⟩:=hE'
   obtain ⟨hxm,hlt⟩:=bytesOf_spec hb
   rw [hxs] at hB
   have hlen:=hB.len
   obtain ⟨news,Z,k1,k2,k3⟩:=hB.news (by cases sh with | v=>simp | y=>simp | b s=>simp [okBs] at hsh | a s=>simp [okBs] at hsh | o s=>cases s <;> simp_all [okBs])
   subst hxm
   have hnv:=RdL.bytes (by simpa using k2) k3
   obtain ⟨e,e1,e2⟩:=isBytes_spec h1
   have hP:c.P=cf.P:=h.fits.P
   have hrun:(convert s d (a.eval x)).run c.P w=.ok (strV ms) w:=by
    rcases k1 with ⟨⟨a0,q1⟩,q2⟩ | ⟨b,off,cap,cs,e',fz,q1,q2,q3⟩
    ·rw [q1,run_convert_bytes_string w s d e a0 0 0 (by rw [hP]; exact e1) (by rw [hP]; exact e2) (by rw [hP]; exact isStr_und h2)]
     have:ms=[]:=qez (by rw [q2] at k2; simpa using k2.symm)
     subst this
     cases a0 <;> simp [Conv.bytesToString,strV,loadCells,loadCellsFrom] <;> rfl
    ·rw [q1,run_convert_bytes_string w s d e _ _ _ (by rw [hP]; exact e1) (by rw [hP]; exact e2) (by rw [hP]; exact isStr_und h2)]
     have hl:=run_loadCells_list (P:=c.P) w ⟨b,off,none⟩ news (fun j v hj=>by rw [Addr.add_lit]; simp [World.cell?,q2,q3 j v hj])
     rw [hnv] at hl
     rw [run_bytesToString w ⟨b,off,none⟩ news.length cap (ms.map fun (n:Nat)=>(n:Int)) (by rw [← hl]; congr 2; rw [hnv])]
     rw [push_bytes]
     unfold strV
     congr 2
     apply ByteArray.ext
     simp
   refine leaf_step h hi' (same_world w) (v:=strV ms) ?_ (Own.of_rd fun Z=>?_)
   ·simp only [execOp,ho]
    exact run_v hrun
   ·rw [← hE']
    simp only [Rd]
    refine ⟨trivial,hlt,?_⟩
    obtain ⟨_,_,_,hl⟩:=hlen
    simpa using hl
  ·cases hE'
 ·cases ht
theorem trTu_sound {x:Operand} (hx:(execOp a.eval o).run c.P w=.ok (.value (a.eval x)) w) (ht:trTu cf st o g x=some (p,sm)) (h:At cf c F E a w vs Bs cnt g p sm):StepOK c o sm F E a w:=by
 unfold trTu at ht
 split at ht
 ·rename_i t d hd
  split at ht
  ·rename_i hlt
   split at ht
   ·rename_i ns g' hl
    split at ht
    ·rename_i hg'
     simp only [qsj,qpj] at ht
     obtain ⟨rfl,rfl⟩:=ht
     have hl1:a.tmps[t]?=some (.tuple (ns.map vs).toArray):=h.H.loc t (.tu ns g') (h.needs _ (by simp)) (prefix_gd hg' h.g)
     have hev:a.eval (.tmp t)=.tuple (ns.map vs).toArray:=by simp [Act.eval,qag,hl1]
     refine StepOK.of_value hx ⟨vs,Bs,?_⟩
     rw [hd]
     refine h.H.slot (same_world w) ?_
     intro _
     rw [hev]
     exact put_self (by rw [h.H.size,h.fits.nt]; exact hlt)
    ·cases ht
   ·cases ht
  ·cases ht
 ·cases ht
end
end Go.Cat
namespace Go.Cat
def nested:Sh→Option Sh
 | .o (.o s)=>some (.o s)
 | _=>none
theorem nested_spec {s e:Sh} (h:nested s=some e):s=.o e:=by
 unfold nested at h
 split at h
 ·cases h; rfl
 ·cases h
section
variable (cf:CF) (st:List Fact) (cnt:Nat) (o:Oper) (g:Gd)
def trAp2 (t:TypeId) (s x:Operand):Option (Pr×Sm):=
 match elem1 cf.P t with
 | some (_,ti)=>if zeroOne ti=true∧ti.bytes≤128∧inB o.dst cf.nt=true∧g=[] then
   (opA cf st g s).bind fun r=>(opA cf st g x).bind fun b=>match r.1,b.1 with
    | .e n,.e m=>if r.2.1=b.2.1∧n≠m∧(nested r.2.1).isSome=true then
      some (.ap false (.e n) (.e m),⟨r.2.2++b.2.2,[n,m],one cnt r.2.1 o.dst (.is cnt g)⟩) else none
    | _,_=>none
  else none
 | none=>none
end
theorem Each.take {R:D→Value→List Nat→Prop}:∀ {ds:List D} {vs:List Value} {B:List Nat},Each R ds vs B→Each R ds (vs.take ds.length) B∧(vs.take ds.length).length=ds.length
 | [],_,_,h=>by simp only [Each] at h; simp [Each,h]
 | d::ds,[],_,r=>by simp [Each] at r
 | d::ds,v::vs,B,r=>by
  simp only [Each] at r
  obtain ⟨B1,B2,rfl,h1,h2⟩:=r
  have:=Each.take h2
  simp only [qlc,List.take_succ_cons,Each]
  exact ⟨⟨B1,B2,rfl,h1,this.1⟩,by simpa using this.2⟩
theorem Each.append {R:D→Value→List Nat→Prop}:∀ {ds es:List D} {vs us:List Value} {B C:List Nat},vs.length=ds.length→Each R ds vs B→Each R es us C→Each R (ds++es) (vs++us) (B++C)
 | [],es,[],us,B,C,_,r,q=>by simp only [Each] at r; subst r; simpa using q
 | [],es,_::_,us,_,_,hl,_,_=>by simp at hl
 | d::ds,es,[],us,_,_,hl,_,_=>by simp at hl
 | d::ds,es,v::vs,us,B,C,hl,r,q=>by
  simp only [Each,List.cons_append] at r ⊢
  obtain ⟨B1,B2,rfl,h1,h2⟩:=r
  exact ⟨B1,B2++C,by simp,h1,Each.append (by simpa using hl) h2 q⟩
theorem Each.congr {R:D→Value→List Nat→Prop}:∀ {ds:List D} {vs us:List Value} {B:List Nat},(∀ (j:Nat) (v:Value),vs[j]?=some v→us[j]?=some v)→Each R ds vs B→Each R ds us B
 | [],_,_,_,_,h=>by simpa [Each] using h
 | d::ds,[],us,_,_,r=>by simp [Each] at r
 | d::ds,v::vs,[],_,hj,_=>by have:=hj 0 v (by simp); simp at this
 | d::ds,v::vs,u::us,B,hj,r=>by
  simp only [Each] at r ⊢
  have h0:=hj 0 v (by simp)
  simp at h0
  subst h0
  obtain ⟨B1,B2,rfl,h1,h2⟩:=r
  exact ⟨B1,B2,rfl,h1,Each.congr (fun j v hv=>by simpa using hj (j+1) v (by simpa using hv)) h2⟩
theorem Own.oneCell {fid:Nat→Nat} {h:Array Obj} {O X:Nat→Prop} {s:Sh} {d:D} {v:Value} {B:List Nat} (r:Own fid h O X (.o s) d v B) (hd:d.one=true):v.oneCell'=true:=by
 simp only [Own] at r
 rcases r with ⟨q | q,_⟩ | ⟨xs,rfl,⟨rfl,_,_⟩ | ⟨b,off,cap,cs,e,fz,B',_,rfl,_⟩⟩
 ·subst q; simp [D.one] at hd
 ·exact Rd.one hd q.2
 ·rfl
 ·rfl
theorem Each.one2 {fid:Nat→Nat} {h:Array Obj} {O X:Nat→Prop} {s:Sh}:∀ {ds:List D} {vs:List Value} {B:List Nat},ds.all D.one=true→vs.length=ds.length→Each (Own fid h O X (.o s)) ds vs B→∀ v∈vs,v.oneCell'=true
 | [],[],_,_,_,_=>by simp
 | [],_::_,_,_,hl,_=>by simp at hl
 | d::ds,[],_,_,_,r=>by simp [Each] at r
 | d::ds,v::vs,B,hf,hl,r=>by
  simp only [Each] at r
  obtain ⟨B1,B2,rfl,h1,h2⟩:=r
  simp only [List.all_cons,qba] at hf
  intro u hu
  rcases qmn.1 hu with rfl | hu
  ·exact h1.oneCell hf.1
  ·exact Each.one2 hf.2 (by simpa using hl) h2 u hu
theorem Own.rows {fid:Nat→Nat} {h:Array Obj} {O X:Nat→Prop} {s:Sh} {xs:List D} {sv:Value} {B:List Nat} (r:Own fid h O X (.o s) (.l xs) sv B):
  ∃ (olds:List Value) (B':List Nat),((sv=.slice none 0 0∧olds=[]∧B=[]∧B'=[])∨∃ b off cap cs e,B=b::B'∧sv=.slice (some ⟨b,off,none⟩) olds.length cap∧h[b]?=some (.cells cs e (0,0))∧olds.length≤cap∧off+cap≤cs.size∧
   ∀ (j:Nat) (v:Value),olds[j]?=some v→cs[off+j]?=some v)∧olds.length=xs.length∧Each (Own fid h O X s) xs olds B':=by
 simp only [Own] at r
 rcases r with ⟨q | q,_⟩ | ⟨ys,hy,r⟩
 ·cases q
 ·simp [D.flat] at q
 injection hy with hy; subst hy
 rcases r with ⟨rfl,rfl,rfl⟩ | ⟨b,off,cap,cs,e,fz,B',rfl,rfl,hb,ht,h1,h2,h3,he⟩
 ·exact ⟨[],[],.inl ⟨rfl,rfl,rfl,rfl⟩,rfl,by simp [Each]⟩
 ·obtain ⟨k1,k2⟩:=Each.take he
  have hfz:fz=(0,0):=ht
  subst hfz
  refine ⟨_,B',.inr ⟨b,off,cap,cs,e,rfl,by rw [k2],hb,by rw [k2]; exact h1,h2,?_⟩,k2,k1⟩
  intro j u hj
  rw [List.getElem?_take] at hj
  split at hj
  ·rwa [drop_get] at hj
  ·cases hj
section
variable {cf:CF} {c:Cx} {F:Fact→Prop} {E:Nat→D} {a:Act} {w:World} {vs:Nat→Value} {Bs:Nat→List Nat} {cnt:Nat} {g:Gd} {sm:Sm} {st:List Fact} {o:Oper} {p:Pr}
 {K:Nat→List D→List D→Prop}
theorem trAp2_sound {t:TypeId} {s x:Operand} (ho:o.op=.call { callee:=.builtin .append,args:=#[s,x],argTypes:=#[t,t] }) (ht:trAp2 cf st cnt o g t s x=some (p,sm)) (h:At cf c F E a w vs Bs cnt g p sm) (hE:EvP K E cnt p):StepOK c o sm F E a w:=by
 unfold trAp2 at ht
 split at ht
 ·rename_i e ti hel
  split at ht
  ·rename_i hc
   obtain ⟨hz,hby,hin,hg⟩:=hc
   simp only [qbs] at ht
   obtain ⟨⟨α,s1,n1⟩,h1,⟨β,s2,n2⟩,h2,ht⟩:=ht
   simp only at ht
   split at ht
   ·rename_i n m
    split at ht
    ·rename_i hc2
     obtain ⟨hss,hnm,hns⟩:=hc2
     subst hss
     obtain ⟨es,hes⟩:=Option.isSome_iff_exists.1 hns
     obtain rfl:=nested_spec hes
     have hes2:∃ s3,es=.o s3:=by
      unfold nested at hes
      split at hes
      ·rename_i s3 hh; injection hh with hh; exact ⟨s3,hh⟩
      ·cases hes
     obtain ⟨s3,rfl⟩:=hes2
     simp only [qsj,qpj] at ht
     obtain ⟨rfl,rfl⟩:=ht
     have hE':appD false (E n) (E m)=some (E cnt):=hE
     obtain ⟨xs,ys,e1,e2,e3,e4,e5,_⟩:=appD_spec hE'
     obtain ⟨B,hB,hn1⟩:=h.opA h1 (fun f hf=>qal _ hf)
     obtain ⟨B2,hB2,hn2⟩:=h.opA h2 (fun f hf=>qar _ hf)
     obtain ⟨f1,f2,rfl⟩:=hn1 n rfl
     obtain ⟨g1,g2,rfl⟩:=hn2 m rfl
     simp only [ev] at hB hB2
     rw [e1] at hB
     rw [e2] at hB2
     obtain ⟨olds,Bo,hrow,hol,hro⟩:=hB.rows
     obtain ⟨news,Bn,hnv,hnl,hnr⟩:=hB2.rows
     have hapart:=h.H.apart n _ m _ f1 g1 hnm
     have hnd1:=h.H.nodup n _ f1
     have hnd2:=h.H.nodup m _ g1
     have hlt:∀ n s,F (.en n s)→∀ b∈Bs n,b<w.heap.size:=fun n s hs=>Own.blocks_lt s _ _ _ (h.H.own n s hs)
     have hBo:∀ b∈Bo,b∈Bs n:=by
      rcases hrow with ⟨_,_,_,rfl⟩ | ⟨b,off,cap,cs,e,hb,_⟩
      ·simp
      ·rw [hb]; exact fun b hb=>qmc _ hb
     have hBn:∀ b∈Bn,b∈Bs m:=by
      rcases hnv with ⟨_,_,_,rfl⟩ | ⟨b,off,cap,cs,e,hb,_⟩
      ·simp
      ·rw [hb]; exact fun b hb=>qmc _ hb
     have hndo:Bo.Nodup:=by
      rcases hrow with ⟨_,_,_,rfl⟩ | ⟨b,off,cap,cs,e,hb,_⟩
      ·simp
      ·rw [hb] at hnd1; exact (List.nodup_cons.1 hnd1).2
     have hndn:Bn.Nodup:=by
      rcases hnv with ⟨_,_,_,rfl⟩ | ⟨b,off,cap,cs,e,hb,_⟩
      ·simp
      ·rw [hb] at hnd2; exact (List.nodup_cons.1 hnd2).2
     have hndall:(Bo++Bn).Nodup:=List.nodup_append.2 ⟨hndo,hndn,fun b hb b' hb' e=>by subst e; exact hapart b (hBo b hb) (hBn b hb')⟩
     have hP:c.P=cf.P:=h.fits.P
     unfold zeroOne at hz
     split at hz
     ·rename_i z hzz
      have hev1:a.eval s=vs n:=f2
      have hev2:a.eval x=vs m:=g2
      obtain ⟨v',w',hr,w1,w2,w3,hres⟩:=run_app (P:=c.P) (w:=w) (ty:=o.type) (hP ▸ hel) hzz (cells_one hz) hby (olds:=olds) (news:=news) (sv:=a.eval s) (xv:=a.eval x)
       (by
        rcases hrow with ⟨q1,q2,_⟩ | ⟨b,off,cap,cs,e,_,q1,q2,q3,q4,q5⟩
        ·exact .inl ⟨q1,q2⟩
        ·exact .inr ⟨b,off,cap,cs,e,q1,q2,q3,q4,q5⟩)
       (by
        rcases hnv with ⟨q1,q2,_⟩ | ⟨b,off,cap,cs,e,_,q1,q2,q3,q4,q5⟩
        ·exact .inl ⟨⟨_,q1⟩,q2⟩
        ·exact .inr ⟨b,off,cap,q1,fun j v hj=>by simp [World.cell?,q2,q5 j v hj]⟩)
       (Each.one2 e5 hnl hnr) (by rw [hol,hnl]; exact e4)
      have hrun:(execOp a.eval o).run c.P w=.ok (.value v') w':=by
       rw [exec_builtin ho]
       show (Bind.bind (Builtin.append_ #[t,t] o.type (#[s,x].map a.eval)) _).run c.P w=_
       refine run_v ?_
       simpa using hr
      have hall:=Each.append hol hro hnr
      have hlen:(xs++ys).length=olds.length+news.length:=by simp [hol,hnl]
      have hin':inB o.dst c.nt=true:=by rw [h.fits.nt]; exact hin
      have hfr:Fresh F cnt:=by simpa using h.fresh 0 (by simp [Pr.np])
      have hkall:∀ b∈Bo++Bn,∃ k r,F (.en k r)∧k∈[n,m]∧b∈Bs k:=by
       intro b hb
       rcases qma.1 hb with hb | hb
       ·exact ⟨n,_,f1,by simp,hBo b hb⟩
       ·exact ⟨m,_,g1,by simp,hBn b hb⟩
      have hOall:∀ N:List Nat,(∀ b∈N,b<w.heap.size→b∈Bs n∨b∈Bs m)→∀ b,b<w.heap.size→(OBk F Bs (fun k=>k∈[n,m]) b∨b∈N)→OB F Bs b:=by
       rintro N hN b hb (⟨k,s,q1,_,q3⟩ | q)
       ·exact ⟨k,s,q1,q3⟩
       ·rcases hN b q hb with q | q
        ·exact ⟨n,_,f1,q⟩
        ·exact ⟨m,_,g1,q⟩
      rcases hres with ⟨rfl,q1,q2,q3⟩ | ⟨gb,off,cap,cs,e',cs',q1,q2,rfl,q4,q5,q6,q7,q8,q9⟩ | ⟨cap,cs',rfl,q4,q5,q6,q9⟩
      · -- nil stays nil
       refine StepOK.of_value hrun ⟨upd vs cnt (.slice none 0 0),upd Bs cnt [],?_⟩
       refine h.H.put hfr hin' [n,m] (by rw [q3]; exact Agr.refl _ _) w1 w2 w3 ?_ (by simp) (by simp) h.g
       rw [e3]
       have hx0:xs=[]:=qez (by rw [← hol,q1]; rfl)
       have hy0:ys=[]:=qez (by rw [← hnl,q2]; rfl)
       subst hx0 hy0
       exact Own.nil
      · -- in place
       have hBg:Bs n=gb::Bo∧off+cap≤cs.size:=by
        rcases hrow with ⟨r1,_,_⟩ | ⟨b,off2,cap2,cs2,e2',r0,r1,r2,r3,r4,r5⟩
        ·rw [q1] at r1; cases r1
        ·rw [q1] at r1
         injection r1 with r1 _ r1c
         injection r1 with r1
         injection r1 with r1 r1o _
         subst r1 r1c r1o
         rw [q2] at r2
         injection r2 with r2
         injection r2 with r2 _ _
         subst r2
         exact ⟨r0,r4⟩
       obtain ⟨hBg,hoc⟩:=hBg
       have hgo:gb∉Bo:=by rw [hBg] at hnd1; exact (List.nodup_cons.1 hnd1).1
       have hgn:gb∉Bn:=fun q=>hapart gb (by rw [hBg]; simp) (hBn gb q)
       have hagr:Agr (fun b=>b=gb) w.heap w'.heap:=⟨by rw [q8]; exact Nat.le_refl _,fun b _ hb=>q7 b hb⟩
       refine StepOK.of_value hrun ⟨upd vs cnt (.slice (some ⟨gb,off,none⟩) (olds.length+news.length) cap),upd Bs cnt (gb::(Bo++Bn)),?_⟩
       refine h.H.put hfr hin' [n,m] (hagr.mono fun b _ hb=>⟨n,_,f1,by simp,by rw [hb,hBg]; simp⟩) w1 w2 w3 ?_ (List.nodup_cons.2 ⟨by simp [hgo,hgn],hndall⟩) (fun b hb=>.inl ?_) h.g
       ·rw [e3]
        simp only [Own]
        refine .inr ⟨_,rfl,.inr ⟨gb,off,cap,cs',e',(0,0),Bo++Bn,rfl,by rw [hlen],q6,rfl,by rw [hlen]; exact q4,by rw [q5]; exact hoc,by rw [hlen]; omega,?_⟩⟩
        have hall2:=Each.congr (us:=cs'.toList.drop off) (fun j v hj=>by rw [drop_get]; exact q9 j v hj) hall
        refine Each.imp (fun d v B1 hb1=>?_) hall2
        refine Own.ext hagr (fun b _ hb=>?_) (hOall _ fun b hb _=>?_) _ d v B1 (fun b hb e=>?_)
        ·rw [hb]; exact ⟨n,_,f1,by rw [hBg]; simp⟩
        ·rcases qmn.1 hb with rfl | hb
         ·left; rw [hBg]; simp
         ·exact (qma.1 hb).imp (hBo b) (hBn b)
        ·subst e
         rcases qma.1 (hb1 b hb) with q | q
         ·exact hgo q
         ·exact hgn q
       ·rcases qmn.1 hb with rfl | hb
        ·exact ⟨n,_,f1,by simp,by rw [hBg]; simp⟩
        ·exact hkall b hb
      · -- a new block
       have hagr:Agr (fun _=>False) w.heap w'.heap:=by rw [q6]; exact Agr.push _ _
       have hnewb:w'.heap[w.heap.size]?=some (.cells cs' e (0,0)):=by rw [q6]; simp
       have hnotin:w.heap.size∉Bo++Bn:=by
        intro q
        obtain ⟨k,r,q1,_,q2⟩:=hkall _ q
        have:=hlt k r q1 _ q2
        omega
       refine StepOK.of_value hrun ⟨upd vs cnt (.slice (some ⟨w.heap.size,0,none⟩) (olds.length+news.length) cap),upd Bs cnt (w.heap.size::(Bo++Bn)),?_⟩
       refine h.H.put hfr hin' [n,m] (hagr.mono fun _ _ q=>q.elim) w1 w2 w3 ?_ (List.nodup_cons.2 ⟨hnotin,hndall⟩) (fun b hb=>?_) h.g
       ·rw [e3]
        simp only [Own]
        refine .inr ⟨_,rfl,.inr ⟨w.heap.size,0,cap,cs',e,(0,0),Bo++Bn,rfl,by rw [hlen],hnewb,rfl,by rw [hlen]; exact q4,by omega,by rw [hlen]; omega,?_⟩⟩
        have hall2:=Each.congr (us:=cs'.toList.drop 0) (fun j v hj=>by rw [drop_get,Nat.zero_add]; exact q9 j v hj) hall
        refine Each.imp (fun d v B1 hb1=>?_) hall2
        refine Own.ext hagr (fun _ _ q=>q.elim) (hOall _ fun b hb hlt2=>?_) _ d v B1 (fun _ _ q=>q)
        rcases qmn.1 hb with rfl | hb
        ·omega
        ·exact (qma.1 hb).imp (hBo b) (hBn b)
       ·rcases qmn.1 hb with rfl | hb
        ·exact .inr (Nat.le_refl _)
        ·exact .inl (hkall b hb)
     ·cases hz
    ·cases ht
   ·cases ht
  ·cases ht
 ·cases ht
end
end Go.Cat
namespace Go.Cat
def structN (P:Program) (t:TypeId):Option Nat:=
 match P.underlying t with
 | some (.struct fs)=>match P.info? t with
  | some i=>if (i.size=fs.size∧0<fs.size)∧(fs.toList.zipIdx.all fun x=>x.1.offset == x.2&&(match P.info? x.1.type with | some j=>j.size == 1 | none=>false))=true then some fs.size else none
  | none=>none
 | _=>none
theorem structN_spec {P:Program} {t:TypeId} {n:Nat} (h:structN P t=some n):∃ fs i,P.underlying t=some (.struct fs)∧P.info? t=some i∧i.size=n∧(fs.size=n∧0<n)∧
  ∀ (f:Nat) (fl:Field),fs[f]?=some fl→fl.offset=f∧∃ j,P.info? fl.type=some j∧j.size=1:=by
 unfold structN at h
 split at h
 ·rename_i fs hu
  split at h
  ·rename_i i hi
   split at h
   ·rename_i hc
    injection h with h
    refine ⟨fs,i,hu,hi,by omega,⟨h,by omega⟩,fun f fl hf=>?_⟩
    have:=qat.1 hc.2 (fl,f) (by
     rw [List.mem_iff_getElem?]
     exact ⟨f,by simp [List.getElem?_zipIdx,hf]⟩)
    simp only [qba,beq_iff_eq] at this
    refine ⟨this.1,?_⟩
    have h2:=this.2
    split at h2
    ·rename_i j hj; exact ⟨j,hj,by simpa using h2⟩
    ·cases h2
   ·cases h
  ·cases h
 ·cases h
theorem run_fieldAt1 {P:Program} {w:World} {t:TypeId} {n:Nat} (h:structN P t=some n) {b o f:Nat} (hf:f<n):
  (Instr.fieldAt t (.pointer (some ⟨b,o,none⟩)) f).run P w=.ok (.pointer (some ⟨b,o+f,none⟩)) w:=by
 obtain ⟨fs,i,h1,h2,h3,⟨h4,h40⟩,h5⟩:=structN_spec h
 have hfs:∃ fl,fs[f]?=some fl:=⟨fs[f]'(by omega),by simp [h4,hf]⟩
 obtain ⟨fl,hfl⟩:=hfs
 obtain ⟨q1,j,q2,q3⟩:=h5 f fl hfl
 simp [Instr.fieldAt,run_underlying h1,hfl,Instr.sureAddr,fieldPlace,sizeOf,typeInfo,q2,q3,q1,Addr.add_lit]
theorem run_box {P:Program} {w:World} {t:TypeId} {v:Value}:(Instr.box t v).run P w=.ok (.pointer (some ⟨w.heap.size,0,none⟩)) (w.alloc (.cells v.cells t)):=by
 simp [Instr.box,newVar,newRow]
theorem run_alloc {P:Program} {w:World} {t:TypeId} {i:TypeInfo} {z:Value} (hi:P.info? t=some i) (hz:i.zero=some z):
  (Instr.alloc t true (.tuple #[])).run P w=.ok (.pointer (some ⟨w.heap.size,0,none⟩)) (w.alloc (.cells z.cells t)):=by
 simp [Instr.alloc,zeroValue,typeInfo,hi,hz,newVar,newRow]
theorem run_loadAtN {P:Program} {w:World} {t:TypeId} {n:Nat} (h:structN P t=some n) {b:Nat} {cs:Array Value} {e:TypeId} {fz:Nat×Nat} (hb:w.heap[b]?=some (.cells cs e fz)) (hn:cs.size=n):
  (Instr.loadAt t (.pointer (some ⟨b,0,none⟩))).run P w=.ok (.agg cs) w:=by
 obtain ⟨fs,i,h1,h2,h3,⟨h4,h40⟩,h5⟩:=structN_spec h
 simp only [Instr.loadAt,Instr.sureAddr,Sem.run_bind,Sem.run_pure,Result.andThen_ok]
 exact run_loadVar_row w b e t cs fz (.struct fs) hb h1 rfl (by simp [h2,h3,hn])
theorem run_loadAtO {P:Program} {w:World} {t:TypeId} {n:Nat} (h:structN P t=some n) {b o:Nat} {cs:Array Value} {e:TypeId} {fz:Nat×Nat} (hb:w.heap[b]?=some (.cells cs e fz)) (hn:o+n≤cs.size):
  (Instr.loadAt t (.pointer (some ⟨b,o,none⟩))).run P w=.ok (.agg ((cs.toList.drop o).take n).toArray) w:=by
 obtain ⟨fs,i,h1,h2,h3,⟨h4,h40⟩,h5⟩:=structN_spec h
 simp only [Instr.loadAt,Instr.sureAddr,Sem.run_bind,Sem.run_pure,Result.andThen_ok]
 have hl:((cs.toList.drop o).take n).length=n:=by simp; omega
 have:=run_loadCells_list (P:=P) w ⟨b,o,none⟩ ((cs.toList.drop o).take n) (fun j v hv=>by
  rw [Addr.add_lit,cell_of_row w b (o+j) cs e fz hb]
  rw [List.getElem?_take] at hv
  split at hv
  ·rwa [drop_get] at hv
  ·cases hv)
 rw [hl] at this
 have hagg:(isAgg t).run P w=.ok true w:=by
  unfold isAgg
  rw [Sem.run_bind,run_underlying h1 w]
  rfl
 simp [loadVar,Sem.run_bind,hagg,sizeOf,typeInfo,h2,h3,this]
theorem run_storeAtN {P:Program} {w:World} {t:TypeId} {n:Nat} (h:structN P t=some n) {b:Nat} {old cs:Array Value} {e:TypeId} (hb:w.heap[b]?=some (.cells old e (0,0))) (ho:old.size=n) (hn:cs.size=n) (h1:∀ v∈cs.toList,v.oneCell'=true):
  (Instr.storeAt t (.pointer (some ⟨b,0,none⟩)) (.agg cs)).run P w=.ok () (w.setRow b cs):=by
 obtain ⟨fs,i,k1,k2,k3,⟨k4,k40⟩,k5⟩:=structN_spec h
 simp only [Instr.storeAt,Instr.sureAddr,Sem.run_bind,Sem.run_pure,Result.andThen_ok]
 refine run_storeVar_row w b e t old cs hb (by simp [k2,k3,hn]) (by omega) ?_
 rw [Array.all_eq_true_iff_forall_mem]
 intro v hv
 exact h1 v (by simpa using hv)
def zeroD (P:Program) (t:TypeId):Option (List D):=
 match P.info? t with
 | some i=>match i.zero with
  | some (.agg zs)=>zs.toList.mapM constD
  | _=>none
 | none=>none
theorem mapM_get {α β:Type} {f:α→Option β}:∀ {xs:List α} {ys:List β},xs.mapM f=some ys→ys.length=xs.length∧∀ (i:Nat) (y:β),ys[i]?=some y→∃ x,xs[i]?=some x∧f x=some y
 | [],ys,h=>by simp at h; subst h; simp
 | x::xs,ys,h=>by
  simp only [List.mapM_cons,Option.bind_eq_bind,qbs,Option.pure_def,qsj] at h
  obtain ⟨y,h1,zs,h2,rfl⟩:=h
  obtain ⟨k1,k2⟩:=mapM_get h2
  refine ⟨by simp [k1],fun i z hz=>?_⟩
  cases i with
  | zero=>simp at hz; subst hz; exact ⟨x,by simp,h1⟩
  | succ i=>simpa using k2 i z (by simpa using hz)
def setAll {α:Type} (zs:List α) (ps:List (Nat×α)):List α:=ps.foldl (fun cs p=>cs.set p.1 p.2) zs
theorem setAll_map {α β:Type} (f:α→β):∀ (ps:List (Nat×α)) (zs:List α),(setAll zs ps).map f=setAll (zs.map f) (ps.map fun p=>(p.1,f p.2))
 | [],zs=>rfl
 | p::ps,zs=>by
  simp only [setAll,List.foldl_cons,List.map_cons]
  have:=setAll_map f ps (zs.set p.1 p.2)
  simp only [setAll,List.map_set] at this
  exact this
theorem setAll_length {α:Type}:∀ (ps:List (Nat×α)) (zs:List α),(setAll zs ps).length=zs.length
 | [],zs=>rfl
 | p::ps,zs=>by
  simp only [setAll,List.foldl_cons]
  have:=setAll_length ps (zs.set p.1 p.2)
  simpa [setAll] using this
theorem setAll_other {α:Type}:∀ (ps:List (Nat×α)) (zs:List α) (i:Nat),(∀ p∈ps,p.1≠i)→(setAll zs ps)[i]?=zs[i]?
 | [],zs,i,_=>rfl
 | p::ps,zs,i,h=>by
  simp only [setAll,List.foldl_cons]
  have:=setAll_other ps (zs.set p.1 p.2) i fun q hq=>h q (qmc _ hq)
  simp only [setAll] at this
  rw [this,List.getElem?_set_ne (h p (List.mem_cons_self ..))]
theorem setAll_get {α:Type}:∀ (ps:List (Nat×α)) (zs:List α),(ps.map (·.1)).Nodup→∀ p∈ps,p.1<zs.length→(setAll zs ps)[p.1]?=some p.2
 | [],zs,_,p,hp,_=>by simp at hp
 | q::ps,zs,hn,p,hp,hl=>by
  simp only [List.map_cons,List.nodup_cons] at hn
  simp only [setAll,List.foldl_cons]
  rcases qmn.1 hp with rfl | hp
  ·have:=setAll_other ps (zs.set p.1 p.2) p.1 fun r hr e=>hn.1 (List.mem_map.2 ⟨r,hr,e⟩)
   simp only [setAll] at this
   rw [this,List.getElem?_set_self hl]
  ·have:=setAll_get ps (zs.set q.1 q.2) hn.2 p hp (by simpa using hl)
   simpa [setAll] using this
theorem fill_setAll {n:Nat} {pl:Nat→Option (Nat×Nat)} (hpl:∀ i,i<n→pl i=some (i,1)):∀ (ps:List (Nat×Value)) (cells:Array Value),cells.size=n→(∀ p∈ps,p.1<n∧p.2.oneCell'=true)→
  Instr.fill pl cells ps=some (setAll cells.toList ps).toArray
 | [],cells,_,_=>by simp [Instr.fill,setAll]
 | (i,v)::ps,cells,hc,h=>by
  obtain ⟨h1,h2⟩:=h (i,v) (List.mem_cons_self ..)
  have hv:v.cells=#[v]:=cells_one h2
  simp only [Instr.fill]
  rw [hpl i h1]
  simp only [hv]
  rw [if_neg (by simp only [hc]; simp; omega)]
  have:=fill_setAll hpl ps (cells.setIfInBounds i v) (by simp [hc]) fun p hp=>h p (qmc _ hp)
  have e:((#[v]:Array Value).zipIdx.foldl (fun cs (x:Value×Nat)=>cs.setIfInBounds (i+x.2) x.1) cells)=cells.setIfInBounds i v:=by
   simp [Array.zipIdx]
  have e2:((#[v]:Array Value).zipIdx.foldl (fun cs x=>match x with | (c,j)=>cs.setIfInBounds (i+j) c) cells)=cells.setIfInBounds i v:=e
  rw [e2,this]
  simp [setAll]
theorem run_build1 {P:Program} {w:World} {t:TypeId} {n:Nat} (h:structN P t=some n) {i:TypeInfo} {zs:Array Value} (hi:P.info? t=some i) (hz:i.zero=some (.agg zs)) (hzn:zs.size=n)
  {ps:Array (Nat×Value)} (hp:∀ p∈ps.toList,p.1<n∧p.2.oneCell'=true):
  (Instr.build t ps).run P w=.ok (.agg (setAll zs.toList ps.toList).toArray) w:=by
 obtain ⟨fs,i',h1,h2,h3,⟨h4,h40⟩,h5⟩:=structN_spec h
 refine run_build w t ps _ ?_
 have hm:fs.toList.mapM (fun f=>(P.info? f.type).map fun i=>(f.offset,i.size))=some ((List.range n).map fun j=>(j,1)):=by
  have key:∀ (l:List Field) (k:Nat),(∀ j fl,l[j]?=some fl→fl.offset=k+j∧∃ i,P.info? fl.type=some i∧i.size=1)→
    l.mapM (fun f=>(P.info? f.type).map fun i=>(f.offset,i.size))=some ((List.range' k l.length).map fun j=>(j,1)):=by
   intro l
   induction l with
   | nil=>intro k _; simp
   | cons f l ih=>
    intro k hk
    obtain ⟨q1,i,q2,q3⟩:=hk 0 f (by simp)
    have:=ih (k+1) fun j fl hj=>by
     have:=hk (j+1) fl (by simpa using hj)
     refine ⟨by omega,this.2⟩
    simp only [List.mapM_cons,q2,Option.map_some,this,qlc,List.range'_succ,List.map_cons,q3]
    simp at q1
    simp [q1]
  have:=key fs.toList 0 fun j fl hj=>by
   have:=h5 j fl (by simpa using hj)
   simpa using this
  rw [this]
  simp [h4,List.range_eq_range']
 simp only [Program.built,hi,h1,hz,hm]
 rw [fill_setAll (n:=n) (fun j hj=>by simp [hj]) ps.toList (Value.agg zs).cells (by simpa [Value.cells] using hzn) hp]
 rfl
end Go.Cat
namespace Go.Cat
def ow:Nat→Sh
 | 0=>.v
 | k+1=>.o (ow k)
def owK:Sh→Option Nat
 | .v=>some 0
 | .o s=>(owK s).map (·+1)
 | _=>none
theorem owK_spec:∀ {s:Sh} {k:Nat},owK s=some k→s=ow k
 | .v,k,h=>by simp [owK] at h; subst h; rfl
 | .o s,k,h=>by
  simp only [owK,qms] at h
  obtain ⟨j,h1,rfl⟩:=h
  rw [owK_spec h1]; rfl
 | .y,k,h=>by simp [owK] at h
 | .a s,k,h=>by simp [owK] at h
 | .b s,k,h=>by simp [owK] at h
section
variable {fid:Nat→Nat} {h:Array Obj} {O X:Nat→Prop}
theorem Own.flatB {s:Sh} {d:D} {v:Value} {B:List Nat} (hd:d.flat=true) (r:Own fid h O X s d v B):B=[]:=by
 cases s with
 | v=>simp only [Own] at r; exact r.1
 | y=>simp only [Own] at r; exact r.1
 | o s=>
  simp only [Own] at r
  rcases r with ⟨_,q⟩ | ⟨xs,rfl,_⟩
  ·exact q
  ·simp [D.flat] at hd
 | a s=>simp only [Own] at r; obtain ⟨xs,cs,rfl,_⟩:=r; simp [D.flat] at hd
 | b s=>simp only [Own] at r; obtain ⟨xs,b,cs,e,fz,B',rfl,_⟩:=r; simp [D.flat] at hd
theorem Own.of_flat {k:Nat} {d:D} {v:Value} {Z:Nat→Prop} (hd:d.flat=true) (r:Rd fid h Z d v):Own fid h O X (ow k) d v []:=by
 cases k with
 | zero=>simp only [ow,Own]; exact ⟨trivial,r.flat hd⟩
 | succ k=>simp only [ow,Own]; exact .inl ⟨.inr ⟨hd,r.flat hd⟩,trivial⟩
theorem Each.impMem {R R':D→Value→List Nat→Prop}:∀ {ds:List D} {vs:List Value} {B:List Nat},(∀ d∈ds,∀ v B1,R d v B1→R' d v B1)→Each R ds vs B→Each R' ds vs B
 | [],_,_=>fun _ h=>by simpa [Each] using h
 | d::ds,v::vs,B=>fun f h=>by
  simp only [Each] at h ⊢
  obtain ⟨B1,B2,rfl,h1,h2⟩:=h
  exact ⟨B1,B2,rfl,f d (List.mem_cons_self ..) v B1 h1,Each.impMem (fun d hd v B=>f d (qmc _ hd) v B) h2⟩
 | _::_,[],_=>fun _ h=>h
theorem Own.lift:∀ (i j:Nat) (d:D) (v:Value) (B:List Nat),Own fid h O X (ow i) d v B→depB (min i j) d=true→Own fid h O X (ow j) d v B
 | 0,j,d,v,B=>fun r hd=>by
  simp only [Nat.zero_min,depB] at hd
  have hB:=r.flatB hd
  subst hB
  exact Own.of_flat hd (r.rdFlat hd)
 | i+1,0,d,v,B=>fun r hd=>by
  simp only [Nat.min_zero,depB] at hd
  have hB:=r.flatB hd
  subst hB
  exact Own.of_flat (k:=0) hd (r.rdFlat hd)
 | i+1,j+1,d,v,B=>fun r hd=>by
  by_cases hf:d.flat=true
  ·have hB:=r.flatB hf
   subst hB
   exact Own.of_flat (k:=j+1) hf (r.rdFlat hf)
  ·rw [Nat.succ_min_succ] at hd
   simp only [depB,hf,Bool.false_or] at hd
   cases d with
   | l xs=>
    simp only [qat] at hd
    simp only [ow,Own] at r ⊢
    rcases r with ⟨q | q,_⟩ | ⟨ys,hy,r⟩
    ·cases q
    ·simp [D.flat] at q
    ·injection hy with hy; subst hy
     refine .inr ⟨_,rfl,?_⟩
     rcases r with r | ⟨b,off,cap,cs,e,fz,B',hB,hv,hb,ht,h1,h2,h3,he⟩
     ·exact .inl r
     ·exact .inr ⟨b,off,cap,cs,e,fz,B',hB,hv,hb,ht,h1,h2,h3,Each.impMem (fun d hd' v B1 q=>Own.lift i j d v B1 q (hd d hd')) he⟩
   | _=>simp at hd
theorem Own.of_const {k:Nat} {d:D} {v:Value} (hd:constD v=some d) (hk:k=0∨d.flat=true∨isNilD d=true):Own fid h O X (ow k) d v []:=by
 rcases hk with rfl | hk | hk
 ·simp only [ow,Own]; exact ⟨trivial,constD_rd hd⟩
 ·exact Own.of_flat (Z:=fun _=>False) hk (constD_rd hd)
 ·unfold isNilD at hk
  split at hk
  ·have hv:v=.slice none 0 0:=by
    unfold constD at hd
    split at hd <;> try (injection hd with hd; cases hd)
    ·split at hd
     ·injection hd with hd; cases hd
     ·cases hd
    ·rfl
    ·cases hd
   rw [hv]
   cases k with
   | zero=>exact Own.nil
   | succ k=>exact Own.nil
  ·cases hk
theorem Each.of_fn {R:D→Value→List Nat→Prop} {bf:Nat→List Nat}:∀ {ds:List D} {vs:List Value},ds.length=vs.length→(∀ j d v,ds[j]?=some d→vs[j]?=some v→R d v (bf j))→Each R ds vs ((List.range ds.length).flatMap bf):=by
 intro ds
 induction ds generalizing bf with
 | nil=>intro vs _ _; simp [Each]
 | cons d ds ih=>
  intro vs hl hR
  cases vs with
  | nil=>simp at hl
  | cons v vs=>
   have:=ih (bf:=fun j=>bf (j+1)) (vs:=vs) (by simpa using hl) fun j d' v' h1 h2=>hR (j+1) d' v' (by simpa using h1) (by simpa using h2)
   simp only [Each,qlc,List.range_succ_eq_map,List.flatMap_cons,List.flatMap_map]
   exact ⟨bf 0,_,rfl,hR 0 d v (by simp) (by simp),this⟩
end
theorem range_flat_nodup {bf:Nat→List Nat} (h1:∀ j,(bf j).Nodup) (h2:∀ i j,i≠j→∀ b∈bf i,b∉bf j) (n:Nat):((List.range n).flatMap bf).Nodup:=by
 have:∀ l:List Nat,l.Nodup→(l.flatMap bf).Nodup:=by
  intro l
  induction l with
  | nil=>intro _; simp
  | cons x l ih=>
   intro hn
   obtain ⟨n1,n2⟩:=List.nodup_cons.1 hn
   simp only [List.flatMap_cons]
   refine List.nodup_append.2 ⟨h1 x,ih n2,fun b hb b' hb' e=>?_⟩
   subst e
   obtain ⟨y,hy,hb2⟩:=List.mem_flatMap.1 hb'
   exact h2 x y (fun e=>n1 (e ▸ hy)) b hb hb2
 exact this _ List.nodup_range
section
variable (cf:CF) (st:List Fact) (cnt:Nat) (o:Oper) (g:Gd)
def trPart (k:Nat) (x:Operand):Option ((A×Nat)×List Nat×List Fact):=
 if k=0 then (trPut cf st g .v x).map fun r=>((r.1,0),r.2.1,r.2.2)
 else (opA cf st g x).bind fun a=>match a.1 with
  | .c (.l [])=>some ((a.1,1),[],a.2.2)
  | .c _=>some ((a.1,0),[],a.2.2)
  | .e n=>match owK a.2.1 with
   | some (i+1)=>if g=[] then some ((a.1,i+1),[n],a.2.2) else none
   | _=>some ((a.1,0),[],a.2.2)
def trParts (k:Nat):List (Nat×Operand)→Option (List (Nat×A×Nat)×List Nat×List Fact)
 | []=>some ([],[],[])
 | (i,x)::ps=>(trPart cf st g k x).bind fun a=>(trParts k ps).map fun r=>((i,a.1)::r.1,a.2.1++r.2.1,a.2.2++r.2.2)
def zeroA (d:D):A×Nat:=(.c d,if isNilD d then 1 else 0)
def structSh (k:Nat):Sh:=if k=0 then .v else .a (ow k)
def trBd (k:Nat) (t:TypeId) (ps:Array (Nat×Operand)):Option (Pr×Sm):=
 (structN cf.P t).bind fun n=>(zeroD cf.P t).bind fun zs=>(trParts cf st g k ps.toList).bind fun r=>
  if inB o.dst cf.nt=true∧zs.length=n∧r.2.1.Nodup∧(ps.toList.map (·.1)).Nodup∧(ps.toList.all fun p=>decide (p.1<n))=true∧(zs.all fun d=>d.one&&(k == 0 || d.flat || isNilD d))=true then
   some (.bg k (setAll (zs.map zeroA) r.1),⟨r.2.2,r.2.1,one cnt (structSh k) o.dst (.is cnt g)⟩)
  else none
def trAl (k:Nat) (t:TypeId):Option (Pr×Sm):=
 (structN cf.P t).bind fun n=>(zeroD cf.P t).bind fun zs=>
  if inB o.dst cf.nt=true∧zs.length=n∧g=[]∧(zs.all fun d=>k == 0 || d.flat || isNilD d)=true then
   some (.cs (.b (ow k)) (.g zs),⟨[],[],one cnt (.b (ow k)) o.dst (.is cnt g)⟩)
  else none
def trBx (k:Nat) (t:TypeId) (x:Operand):Option (Pr×Sm):=
 (structN cf.P t).bind fun n=>(opA cf st g x).bind fun a=>
  if inB o.dst cf.nt=true∧g=[] then match a.2.1 with
   | .v=>if k=0 then some (.bp a.1,⟨a.2.2,[],one cnt .v o.dst (.is cnt g)⟩) else some (.wl n a.1,⟨a.2.2,[],one cnt (.b .v) o.dst (.is cnt g)⟩)
   | .y=>some (.bp a.1,⟨a.2.2,[],one cnt .y o.dst (.is cnt g)⟩)
   | .a s=>match a.1 with
    | .e m=>some (.wl n a.1,⟨a.2.2,[m],one cnt (.b s) o.dst (.is cnt g)⟩)
    | .c _=>none
   | _=>none
  else none
end
section
variable {cf:CF} {c:Cx} {F:Fact→Prop} {E:Nat→D} {a:Act} {w:World} {vs:Nat→Value} {Bs:Nat→List Nat} {cnt:Nat} {g:Gd} {sm:Sm} {st:List Fact} {o:Oper} {p:Pr}
 {K:Nat→List D→List D→Prop}
theorem putB_one {k:Nat} {x:D×Nat} (h:putB k x=true):x.1.one=true:=by
 unfold putB at h; simp only [qba] at h; exact h.1
theorem trPart_sound {k:Nat} {x:Operand} {α:A×Nat} {ks:List Nat} {ns:List Fact} (ht:trPart cf st g k x=some (α,ks,ns)) (h:At cf c F E a w vs Bs cnt g p sm) (hn:∀ f∈ns,f∈sm.needs)
  {O':Nat→Prop} (hO:∀ b,b<w.heap.size→O' b→OB F Bs b) (hfr:k=0→∀ n∈ks,∀ b∈Bs n,¬ O' b) (hp:putB k (ev E α.1,α.2)=true):
  ∃ B,Own c.fid w.heap O' c.Xb (ow k) (ev E α.1) (a.eval x) B∧(B=[]∨∃ n,n∈ks∧B=Bs n∧k≠0):=by
 unfold trPart at ht
 split at ht
 ·rename_i hk
  subst hk
  simp only [qms,qpj] at ht
  obtain ⟨⟨α1,k1,n1⟩,h1,rfl,rfl,rfl⟩:=ht
  obtain ⟨B,e1,e2,_⟩:=trPut_sound h1 h hn hO (fun _=>hfr rfl)
  refine ⟨B,e1,?_⟩
  rcases e2 with ⟨_,rfl⟩ | ⟨_,_,_,q⟩
  ·exact .inl rfl
  ·exact (q rfl).elim
 ·rename_i hk
  simp only [qbs] at ht
  obtain ⟨⟨α1,s1,n1⟩,h1,ht⟩:=ht
  simp only at ht
  have hd:depB (min α.2 k) (ev E α.1)=true:=by
   unfold putB at hp
   simp only [qba,Bool.or_eq_true,beq_iff_eq,hk,false_or] at hp
   exact hp.2
  split at ht
  ·simp only [qsj,qpj] at ht
   obtain ⟨rfl,rfl,rfl⟩:=ht
   refine ⟨[],?_,.inl rfl⟩
   rw [nil_val h1]
   cases k with
   | zero=>exact (hk rfl).elim
   | succ k=>exact Own.nil
  ·rename_i d _
   simp only [qsj,qpj] at ht
   obtain ⟨rfl,rfl,rfl⟩:=ht
   simp only [Nat.zero_min,depB] at hd
   obtain ⟨B,hB,_⟩:=h.opA h1 hn
   exact ⟨[],Own.of_flat hd (hB.rdFlat hd),.inl rfl⟩
  ·rename_i n
   split at ht
   ·rename_i i hi
    split at ht
    ·simp only [qsj,qpj] at ht
     obtain ⟨rfl,rfl,rfl⟩:=ht
     obtain ⟨B,hB,hn'⟩:=h.opA h1 hn
     obtain ⟨k1,k2,k3⟩:=hn' n rfl
     refine ⟨Bs n,?_,.inr ⟨n,by simp,rfl,hk⟩⟩
     rw [owK_spec hi,k3] at hB
     exact Own.lift (i+1) k _ _ _ (Own.ext (Agr.refl (fun _=>False) _) (fun _ _ q=>q.elim) hO _ _ _ _ (fun _ _ q=>q) hB) hd
    ·cases ht
   ·simp only [qsj,qpj] at ht
    obtain ⟨rfl,rfl,rfl⟩:=ht
    simp only [Nat.zero_min,depB] at hd
    obtain ⟨B,hB,_⟩:=h.opA h1 hn
    exact ⟨[],Own.of_flat hd (hB.rdFlat hd),.inl rfl⟩
theorem trPart_alive {k:Nat} {x:Operand} {α:A×Nat} {ks:List Nat} {ns:List Fact} (ht:trPart cf st g k x=some (α,ks,ns)) (h:At cf c F E a w vs Bs cnt g p sm) (hn:∀ f∈ns,f∈sm.needs):∀ n∈ks,alive F n:=by
 unfold trPart at ht
 split at ht
 ·simp only [qms,qpj] at ht
  obtain ⟨⟨α1,k1,n1⟩,h1,rfl,rfl,rfl⟩:=ht
  obtain ⟨_,_,_,k⟩:=trPut_sound (O':=fun _=>False) h1 h hn (fun _ _ q=>q.elim) (fun _ _ _ _ _ q=>q)
  exact k
 ·simp only [qbs] at ht
  obtain ⟨⟨α1,s1,n1⟩,h1,ht⟩:=ht
  simp only at ht
  split at ht
  ·simp only [qsj,qpj] at ht
   obtain ⟨_,rfl,_⟩:=ht
   simp
  ·simp only [qsj,qpj] at ht
   obtain ⟨_,rfl,_⟩:=ht
   simp
  ·rename_i n
   split at ht
   ·split at ht
    ·simp only [qsj,qpj] at ht
     obtain ⟨rfl,rfl,rfl⟩:=ht
     obtain ⟨B,hB,hn'⟩:=h.opA h1 hn
     intro m hm
     simp at hm
     subst hm
     exact ⟨_,(hn' m rfl).1⟩
    ·cases ht
   ·simp only [qsj,qpj] at ht
    obtain ⟨_,rfl,_⟩:=ht
    simp
theorem trParts_alive {k:Nat} (h:At cf c F E a w vs Bs cnt g p sm):∀ {l:List (Nat×Operand)} {αs:List (Nat×A×Nat)} {ks:List Nat} {ns:List Fact},trParts cf st g k l=some (αs,ks,ns)→(∀ f∈ns,f∈sm.needs)→∀ n∈ks,alive F n
 | [],αs,ks,ns,ht,_=>by
  simp only [trParts,qsj,qpj] at ht
  obtain ⟨rfl,rfl,rfl⟩:=ht
  simp
 | (i,x)::l,αs,ks,ns,ht,hn=>by
  simp only [trParts,qbs,qms,qpj] at ht
  obtain ⟨⟨α,k1,n1⟩,h1,⟨αs',k2,n2⟩,h2,rfl,rfl,rfl⟩:=ht
  intro n hnn
  rcases qma.1 hnn with hnn | hnn
  ·exact trPart_alive h1 h (fun f hf=>hn f (qal _ hf)) n hnn
  ·exact trParts_alive h h2 (fun f hf=>hn f (qar _ hf)) n hnn
structure Filled (c:Cx) (F:Fact→Prop) (w:World) (Bs:Nat→List Nat) (O':Nat→Prop) (k:Nat) (ds:List D) (us:List Value) (bf:Nat→List Nat) (used:List Nat):Prop where
 own:∀ j d v,ds[j]?=some d→us[j]?=some v→Own c.fid w.heap O' c.Xb (ow k) d v (bf j)
 nodup:∀ j,(bf j).Nodup
 apart:∀ i j,i≠j→∀ b∈bf i,b∉bf j
 from_:∀ j,∀ b∈bf j,∃ n∈used,alive F n∧b∈Bs n
 none:k=0→∀ j,bf j=[]
theorem trParts_sound {k:Nat} (h:At cf c F E a w vs Bs cnt g p sm) {O':Nat→Prop} (hO:∀ b,b<w.heap.size→O' b→OB F Bs b):
  ∀ {l:List (Nat×Operand)} {αs:List (Nat×A×Nat)} {ks:List Nat} {ns:List Fact} {ds:List D} {us:List Value} {bf:Nat→List Nat} {used:List Nat},trParts cf st g k l=some (αs,ks,ns)→(∀ f∈ns,f∈sm.needs)→
  (k=0→∀ n∈ks,∀ b∈Bs n,¬ O' b)→ks.Nodup→(∀ n∈ks,n∉used)→(∀ q∈αs,putB k (ev E q.2.1,q.2.2)=true)→Filled c F w Bs O' k ds us bf used→
  αs.map (·.1)=l.map (·.1)∧∃ bf',Filled c F w Bs O' k (setAll ds (αs.map fun q=>(q.1,ev E q.2.1))) (setAll us (l.map fun q=>(q.1,a.eval q.2))) bf' (used++ks)
 | [],αs,ks,ns,ds,us,bf,used,ht,_,_,_,_,_,hf=>by
  simp only [trParts,qsj,qpj] at ht
  obtain ⟨rfl,rfl,rfl⟩:=ht
  exact ⟨rfl,bf,by simpa [setAll] using hf⟩
 | (i,x)::l,αs,ks,ns,ds,us,bf,used,ht,hn,hfr,hnd,hus,hpb,hf=>by
  simp only [trParts,qbs,qms,qpj] at ht
  obtain ⟨⟨α,k1,n1⟩,h1,⟨αs',k2,n2⟩,h2,rfl,rfl,rfl⟩:=ht
  obtain ⟨hnd1,hnd2,hnd3⟩:=List.nodup_append.1 hnd
  have hal:=trPart_alive h1 h (fun f hf=>hn f (qal _ hf))
  obtain ⟨B,e1,e2⟩:=trPart_sound h1 h (fun f hf=>hn f (qal _ hf)) hO (fun q n hnn=>hfr q n (qal _ hnn)) (hpb (i,α) (List.mem_cons_self ..))
  have hBn:∀ b∈B,∃ n∈k1,alive F n∧b∈Bs n:=by
   intro b hb
   rcases e2 with rfl | ⟨n,hn1,rfl,_⟩
   ·simp at hb
   ·exact ⟨n,hn1,hal n hn1,hb⟩
  have hBold:∀ b∈B,∀ j,b∉bf j:=by
   intro b hb j hbj
   obtain ⟨n,hn1,⟨s1,hs1⟩,hb1⟩:=hBn b hb
   obtain ⟨m,hm,⟨s2,hs2⟩,hb2⟩:=hf.from_ j b hbj
   exact h.H.apart n s1 m s2 hs1 hs2 (fun e=>hus n (qal _ hn1) (e ▸ hm)) b hb1 hb2
  have hf2:Filled c F w Bs O' k (ds.set i (ev E α.1)) (us.set i (a.eval x)) (upd bf i B) (used++k1):=by
   constructor
   ·intro j d v hd hv
    by_cases hij:i=j
    ·subst hij
     rw [upd_same]
     have hd':d=ev E α.1:=by
      rw [List.getElem?_set] at hd
      simp only [if_true] at hd
      split at hd
      ·exact (Option.some.inj hd).symm
      ·cases hd
     have hv':v=a.eval x:=by
      rw [List.getElem?_set] at hv
      simp only [if_true] at hv
      split at hv
      ·exact (Option.some.inj hv).symm
      ·cases hv
     rw [hd',hv']; exact e1
    ·rw [List.getElem?_set_ne hij] at hd hv
     rw [upd_ne bf B (Ne.symm hij)]
     exact hf.own j d v hd hv
   ·intro j
    by_cases hij:j=i
    ·subst hij; rw [upd_same]
     rcases e2 with rfl | ⟨n,hn1,rfl,_⟩
     ·simp
     ·obtain ⟨s,hs⟩:=hal n hn1; exact h.H.nodup n s hs
    ·rw [upd_ne bf B hij]; exact hf.nodup j
   ·intro j1 j2 hne b hb1 hb2
    by_cases q1:j1=i
    ·subst q1
     rw [upd_same] at hb1
     rw [upd_ne bf B (Ne.symm hne)] at hb2
     exact hBold b hb1 j2 hb2
    ·rw [upd_ne bf B q1] at hb1
     by_cases q2:j2=i
     ·subst q2
      rw [upd_same] at hb2
      exact hBold b hb2 j1 hb1
     ·rw [upd_ne bf B q2] at hb2
      exact hf.apart j1 j2 hne b hb1 hb2
   ·intro j b hb
    by_cases hij:j=i
    ·subst hij; rw [upd_same] at hb
     obtain ⟨n,q1,q2,q3⟩:=hBn b hb
     exact ⟨n,qar _ q1,q2,q3⟩
    ·rw [upd_ne bf B hij] at hb
     obtain ⟨n,q1,q2,q3⟩:=hf.from_ j b hb
     exact ⟨n,qal _ q1,q2,q3⟩
   ·intro hk j
    by_cases hij:j=i
    ·subst hij; rw [upd_same]
     rcases e2 with rfl | ⟨n,hn1,rfl,q⟩
     ·rfl
     ·exact (q hk).elim
    ·rw [upd_ne bf B hij]; exact hf.none hk j
  obtain ⟨r1,bf',r2⟩:=trParts_sound h hO h2 (fun f hf=>hn f (qar _ hf)) (fun q n hnn=>hfr q n (qar _ hnn)) hnd2
   (fun n hnn q=>by
    rcases qma.1 q with q | q
    ·exact hus n (qar _ hnn) q
    ·exact hnd3 n q n hnn rfl) (fun q hq=>hpb q (qmc _ hq)) hf2
  refine ⟨by simp [r1],bf',?_⟩
  simpa [setAll] using r2
theorem zeroD_spec {P:Program} {t:TypeId} {ds:List D} (h:zeroD P t=some ds):∃ i zs,P.info? t=some i∧i.zero=some (.agg zs)∧zs.size=ds.length∧∀ (j:Nat) d,ds[j]?=some d→∃ v,zs[j]?=some v∧constD v=some d:=by
 unfold zeroD at h
 split at h
 ·rename_i i hi
  split at h
  ·rename_i zs hz
   obtain ⟨k1,k2⟩:=mapM_get h
   refine ⟨i,zs,hi,hz,by simpa using k1.symm,fun j d hd=>?_⟩
   obtain ⟨v,q1,q2⟩:=k2 j d hd
   exact ⟨v,by simpa using q1,q2⟩
  ·cases h
 ·cases h
theorem zero_own {P:Program} {t:TypeId} {ds:List D} {zs:Array Value} {fid:Nat→Nat} {h:Array Obj} {O X:Nat→Prop} {k:Nat} (hz:∀ (j:Nat) d,ds[j]?=some d→∃ v,zs[j]?=some v∧constD v=some d)
  (hd:(ds.all fun d=>k == 0 || d.flat || isNilD d)=true):∀ (j:Nat) (d:D) (v:Value),ds[j]?=some d→zs.toList[j]?=some v→Own fid h O X (ow k) d v []:=by
 intro j d v h1 h2
 obtain ⟨u,q1,q2⟩:=hz j d h1
 rw [Array.getElem?_toList,q1] at h2
 injection h2 with h2
 subst h2
 refine Own.of_const q2 ?_
 have:=qat.1 hd d (List.mem_of_getElem? h1)
 simp only [Bool.or_eq_true,beq_iff_eq] at this
 rcases this with (q | q) | q
 ·exact .inl q
 ·exact .inr (.inl q)
 ·exact .inr (.inr q)
theorem trAl_sound {k:Nat} {t:TypeId} (ho:o.op=.alloc t) (ht:trAl cf cnt o g k t=some (p,sm)) (h:At cf c F E a w vs Bs cnt g p sm) (hE:EvP K E cnt p):StepOK c o sm F E a w:=by
 unfold trAl at ht
 simp only [qbs] at ht
 obtain ⟨n,hn,zs,hz,ht⟩:=ht
 split at ht
 ·rename_i hc
  obtain ⟨hin,hzl,hg0,hall⟩:=hc
  simp only [qsj,qpj] at ht
  obtain ⟨rfl,rfl⟩:=ht
  obtain ⟨i,zv,z1,z2,z3,z4⟩:=zeroD_spec hz
  have hP:c.P=cf.P:=h.fits.P
  have hrun:(execOp a.eval o).run c.P w=.ok (.value (.pointer (some ⟨w.heap.size,0,none⟩))) (w.alloc (.cells zv t)):=by
   simp only [execOp,ho]
   refine run_v ?_
   have:=run_alloc (P:=c.P) (w:=w) (t:=t) (i:=i) (z:=.agg zv) (by rw [hP]; exact z1) z2
   simpa [Value.cells] using this
  have hE':D.g zs=E cnt:=by
   have:some (D.g zs)=some (E cnt):=hE
   injection this
  refine StepOK.of_value hrun ⟨upd vs cnt (.pointer (some ⟨w.heap.size,0,none⟩)),upd Bs cnt [w.heap.size],?_⟩
  refine h.H.put (by simpa using h.fresh 0 (by simp [Pr.np])) (by rw [h.fits.nt]; exact hin) [] (agr_alloc _ _ _) rfl rfl rfl ?_ (by simp) (by simp) h.g
  rw [← hE']
  simp only [Own]
  refine ⟨zs,w.heap.size,zv,t,(0,0),[],rfl,rfl,rfl,heap_alloc_new w _,rfl,z3,?_⟩
  have hnb:((List.range zs.length).flatMap fun _=>([]:List Nat))=[]:=by simp
  rw [← hnb]
  exact Each.of_fn (bf:=fun _=>[]) (by simpa using z3.symm) (zero_own (P:=cf.P) (t:=t) z4 hall)
 ·cases ht
end
end Go.Cat
namespace Go.Cat
section
variable (cf:CF) (st:List Fact) (cnt:Nat) (o:Oper) (g:Gd)
def flatF (P:Program) (t:TypeId) (f:Nat):Bool:=match P.underlying t with
 | some (.struct fs)=>match fs[f]? with
  | some fl=>match P.underlying fl.type with
   | some (.int _)=>true
   | some .bool=>true
   | some .string=>true
   | _=>false
  | none=>false
 | _=>false
def trFa (t:TypeId) (x:Operand) (f:Nat):Option (Pr×Sm):=
 match o.dst with
 | none=>none
 | some d=>(structN cf.P t).bind fun n=>if d<cf.nt∧f<n then
   (rootOf st g x).bind fun r=>if r.2.1=[] then match r.2.2.1 with
    | .b s=>some (.gt (.e r.1) [.k f],⟨r.2.2.2,[],if s=.v then one cnt .v (some d) (.ad r.1 [.k f] cnt g) else [.sl d (.ad r.1 [.k f] cnt g)]⟩)
    | .v=>some (.fp false (.e r.1) f,⟨r.2.2.2,[],one cnt .v (some d) (.vc cnt g)⟩)
    | .y=>if flatF cf.P t f=true then some (.fp true (.e r.1) f,⟨r.2.2.2,[],one cnt .v (some d) (.vc cnt g)⟩)
     else some (.fp false (.e r.1) f,⟨r.2.2.2,[],one cnt .y (some d) (.vc cnt g)⟩)
    | _=>none
    else none
  else none
def trLw (k:Nat) (t:TypeId) (x:Operand):Option (Pr×Sm):=
 match o.dst with
 | none=>none
 | some d=>(structN cf.P t).bind fun n=>if d<cf.nt then
   (rootOf st g x).bind fun r=>if r.2.1=[] then match r.2.2.1 with
    | .b .v=>some (.wl n (.e r.1),⟨r.2.2.2,[],one cnt .v (some d) (.is cnt g)⟩)
    | .b s=>if k=1∧g=[] then some (.wl n (.e r.1),⟨r.2.2.2,[r.1],one cnt (.a s) (some d) (.is cnt g)⟩)
     else some (.wl n (.e r.1),⟨r.2.2.2,[],[.sl d (.ia r.1 cnt g)]⟩)
    | .v=>some (.gp (.e r.1) n,⟨r.2.2.2,[],one cnt .v (some d) (.is cnt g)⟩)
    | .y=>some (.gp (.e r.1) n,⟨r.2.2.2,[],one cnt .y (some d) (.is cnt g)⟩)
    | _=>none
    else none
  else none
def trSw (k:Nat) (t:TypeId) (x v:Operand):Option (Pr×Sm):=
 match x with
 | .tmp u=>if g=[]∧o.dst=none then (structN cf.P t).bind fun n=>match findSl st u with
  | some (.is r [])=>match findEn st r with
   | some (.b s)=>(opA cf st g v).bind fun a=>match a.1 with
    | .e m=>if m≠r∧(a.2.1=.a s∨a.2.1=.v∧s=.v) then
      some (.ws r n a.1,⟨[.sl u (.is r []),.en r (.b s)]++(a.2.2++(slotsK st k r).map fun x=>.sl x.1 (.is r x.2)),r::(if a.2.1=.v then [] else [m]),
       .en cnt (.b s)::(slotsK st k r).map fun x=>.sl x.1 (.is cnt x.2)⟩)
     else none
    | .c _=>none
   | _=>none
  | _=>none
  else none
 | _=>none
def trNc (x:Operand):Option (Pr×Sm):=
 match x,o.dst with
 | .tmp t,some d=>if d<cf.nt then match findSl st t with
  | some (.is n g')=>if g'.isPrefixOf g then match findEn st n with
   | some (.b s)=>some (.nop,⟨[.sl t (.is n g'),.en n (.b s)],[],[.sl d (.is n g)]⟩)
   | some .v=>some (.nn (.e n),⟨[.sl t (.is n g'),.en n .v],[],one cnt .v (some d) (.is cnt g)⟩)
   | some .y=>some (.nn (.e n),⟨[.sl t (.is n g'),.en n .y],[],one cnt .y (some d) (.is cnt g)⟩)
   | _=>none
   else none
  | _=>none
  else none
 | _,_=>none
def isPtr (P:Program) (t:TypeId):Bool:=match P.underlying t with
 | some (.pointer _)=>true
 | _=>false
def trNz (want:Bool) (x:Operand):Option (Pr×Sm):=
 (opA cf st g x).bind fun a=>if a.2.1=.v∨a.2.1=.y then leafS cf cnt o g (.nz want a.1) .v a.2.2 else none
end
section
variable {cf:CF} {c:Cx} {F:Fact→Prop} {E:Nat→D} {a:Act} {w:World} {vs:Nat→Value} {Bs:Nat→List Nat} {cnt:Nat} {g:Gd} {sm:Sm} {st:List Fact} {o:Oper} {p:Pr}
 {K:Nat→List D→List D→Prop}
theorem Filled.each {O':Nat→Prop} {k:Nat} {ds:List D} {us:List Value} {bf:Nat→List Nat} {used:List Nat} (h:Filled c F w Bs O' k ds us bf used) (hl:ds.length=us.length):
  ∃ B,Each (Own c.fid w.heap O' c.Xb (ow k)) ds us B∧B.Nodup∧(∀ b∈B,∃ n∈used,alive F n∧b∈Bs n)∧(k=0→B=[]):=by
 refine ⟨_,Each.of_fn hl h.own,range_flat_nodup h.nodup h.apart _,fun b hb=>?_,fun hk=>?_⟩
 ·obtain ⟨j,_,hb⟩:=List.mem_flatMap.1 hb
  exact h.from_ j b hb
 ·simp [h.none hk]
theorem trBd_sound {k:Nat} {t:TypeId} {ps:Array (Nat×Operand)} (ho:o.op=.build t ps) (ht:trBd cf st cnt o g k t ps=some (p,sm)) (h:At cf c F E a w vs Bs cnt g p sm) (hE:EvP K E cnt p):StepOK c o sm F E a w:=by
 unfold trBd at ht
 simp only [qbs] at ht
 obtain ⟨n,hn,zs,hz,⟨αs,ks,ns⟩,h1,ht⟩:=ht
 split at ht
 ·rename_i hc
  obtain ⟨hin,hzl,hnd,hpn,hpl,hall⟩:=hc
  simp only [qsj,qpj] at ht
  obtain ⟨rfl,rfl⟩:=ht
  simp only at hnd
  have hP:c.P=cf.P:=h.fits.P
  obtain ⟨i,zv,z1,z2,z3,z4⟩:=zeroD_spec hz
  have hE0:(if ((setAll (zs.map zeroA) αs).map fun x=>(ev E x.1,x.2)).all (putB k)=true then some (D.g ((setAll (zs.map zeroA) αs).map fun x=>ev E x.1)) else none)=some (E cnt):=hE
  split at hE0
  ·rename_i hput
   injection hE0 with hE0
   have hlt:∀ n s,F (.en n s)→∀ b∈Bs n,b<w.heap.size:=fun n s hs=>Own.blocks_lt s _ _ _ (h.H.own n s hs)
   have hO:=Oput_old h.H (ks:=ks) (es:=ow k) (N:=fun _=>False) (fun b hb q=>q.elim)
   have hal:=trParts_alive h h1 (fun f hf=>hf)
   have hidx:αs.map (·.1)=ps.toList.map (·.1):=by
    clear hE0 hput h hal hO
    have:∀ (l:List (Nat×Operand)) (αs:List (Nat×A×Nat)) ks ns,trParts cf st g k l=some (αs,ks,ns)→αs.map (·.1)=l.map (·.1):=by
     intro l
     induction l with
     | nil=>intro αs ks ns h; simp only [trParts,qsj,qpj] at h; obtain ⟨rfl,_⟩:=h; rfl
     | cons x l ih=>
      intro αs ks ns h
      simp only [trParts,qbs,qms,qpj] at h
      obtain ⟨_,_,⟨αs',k2,n2⟩,h2,rfl,_⟩:=h
      simp [ih _ _ _ h2]
    exact this _ _ _ _ h1
   have hlen:∀ q∈αs,q.1<n:=by
    intro q hq
    have:q.1∈ps.toList.map (·.1):=by rw [← hidx]; exact List.mem_map.2 ⟨q,hq,rfl⟩
    obtain ⟨r,hr,e⟩:=List.mem_map.1 this
    have:=qat.1 hpl r hr
    simp only [qde] at this
    omega
   have hpb:∀ q∈αs,putB k (ev E q.2.1,q.2.2)=true:=by
    intro q hq
    have hg:=setAll_get αs (zs.map zeroA) (by rw [hidx]; exact hpn) q hq (by simp [hzl,hlen q hq])
    have:=qat.1 hput (ev E q.2.1,q.2.2) (by
     refine List.mem_map.2 ⟨q.2,List.mem_of_getElem? hg,rfl⟩)
    exact this
   have hz0:Filled c F w Bs (Oput F Bs ks (ow k) fun _=>False) k zs zv.toList (fun _=>[]) []:=
    ⟨zero_own (P:=cf.P) (t:=t) z4 (by
     rw [qat] at hall ⊢
     intro d hd
     have:=hall d hd
     simp only [qba] at this
     exact this.2),by simp,by simp,by simp,fun _ _=>rfl⟩
   obtain ⟨_,bf,hfin⟩:=trParts_sound h hO h1 (fun f hf=>hf) (fun q=>by
    subst q
    exact Oput_fr h.H (fun n hn=>hn) hal (fun n hn b hb e=>e)) hnd (by simp) hpb hz0
   have hde:(setAll (zs.map zeroA) αs).map (fun x=>ev E x.1)=setAll zs (αs.map fun q=>(q.1,ev E q.2.1)):=by
    rw [setAll_map]
    congr 1
    rw [List.map_map]
    apply List.ext_getElem?
    intro j
    simp only [List.getElem?_map]
    cases zs[j]? <;> simp [zeroA,ev]
   rw [hde] at hE0
   have hll:(setAll zs (αs.map fun q=>(q.1,ev E q.2.1))).length=(setAll zv.toList (ps.toList.map fun q=>(q.1,a.eval q.2))).length:=by
    rw [setAll_length,setAll_length]; simpa using z3.symm
   obtain ⟨B,f1,f2,f3,f4⟩:=hfin.each hll
   simp only [List.nil_append] at f3
   have hone:(setAll zs (αs.map fun q=>(q.1,ev E q.2.1))).all D.one=true:=by
    rw [← hde,qat]
    intro d hd
    obtain ⟨x,hx,rfl⟩:=List.mem_map.1 hd
    exact putB_one (qat.1 hput _ (List.mem_map.2 ⟨x,hx,rfl⟩))
   have hv1:=Each.one hone hll.symm f1
   have hpv:∀ q∈(ps.map fun (i,x)=>(i,a.eval x)).toList,q.1<n∧q.2.oneCell'=true:=by
    intro q hq
    rw [Array.toList_map] at hq
    obtain ⟨r,hr,rfl⟩:=List.mem_map.1 hq
    have h3:=qat.1 hpl r hr
    simp only [qde] at h3
    refine ⟨h3,hv1 _ ?_⟩
    have:=setAll_get (ps.toList.map fun q=>(q.1,a.eval q.2)) zv.toList (by rw [List.map_map]; exact hpn) (r.1,a.eval r.2) (List.mem_map.2 ⟨r,hr,rfl⟩) (by simp; omega)
    exact List.mem_of_getElem? this
   have hrun:(execOp a.eval o).run c.P w=.ok (.value (.agg (setAll zv.toList (ps.toList.map fun q=>(q.1,a.eval q.2))).toArray)) w:=by
    simp only [execOp,ho]
    refine run_v ?_
    have:=run_build1 (P:=c.P) (w:=w) (t:=t) (n:=n) (by rw [hP]; exact hn) (by rw [hP]; exact z1) z2 (by omega) hpv
    rw [this,Array.toList_map]
   refine StepOK.of_value hrun ⟨upd vs cnt (.agg (setAll zv.toList (ps.toList.map fun q=>(q.1,a.eval q.2))).toArray),upd Bs cnt B,?_⟩
   refine h.H.put (by simpa using h.fresh 0 (by simp [Pr.np])) (by rw [h.fits.nt]; exact hin) ks (Agr.refl _ _) rfl rfl rfl ?_ f2 (fun b hb=>?_) h.g
   ·rw [← hE0]
    have hO2:∀ b,b<w.heap.size→(OBk F Bs (fun n=>n∈ks) b∨b∈B)→Oput F Bs ks (ow k) (fun _=>False) b:=by
     rintro b hb (q | q)
     ·exact .inl q
     ·by_cases hk:k=0
      ·rw [f4 hk] at q; simp at q
      ·refine .inr (.inl ⟨?_,f3 b q⟩)
       cases k with
       | zero=>exact (hk rfl).elim
       | succ k=>simp [ow]
    have f1':Each (Own c.fid w.heap (fun b=>OBk F Bs (fun n=>n∈ks) b∨b∈B) c.Xb (ow k)) (setAll zs (αs.map fun q=>(q.1,ev E q.2.1))) (setAll zv.toList (ps.toList.map fun q=>(q.1,a.eval q.2))) B:=
     Each.imp (fun d v B1 hB1 r=>Own.ext (Agr.refl (fun _=>False) _) (fun _ _ q=>q.elim) hO2 _ _ _ _ (fun _ _ q=>q) r) f1
    unfold structSh
    split
    ·rename_i hk
     subst hk
     have hB0:=f4 rfl
     subst hB0
     have hv:=eachV.1 f1'
     simp only [Own,Rd]
     exact ⟨trivial,_,rfl,by simpa using hll.symm,by simpa using hv.2⟩
    ·simp only [Own]
     exact ⟨_,_,rfl,rfl,by simpa using hll.symm,by simpa using f1'⟩
   ·obtain ⟨n,q1,⟨s,hs⟩,q3⟩:=f3 b hb
    exact .inl ⟨n,s,hs,q1,q3⟩
  ·cases hE0
 ·cases ht
theorem bpD_spec {d d':D} (h:bpD d=some d'):∃ xs,d=.g xs∧d'=.p xs:=by
 unfold bpD at h
 split at h
 ·rename_i xs; injection h with h; exact ⟨xs,rfl,h.symm⟩
 ·cases h
theorem wlD_spec {k:Nat} {d d':D} (h:wlD k d=some d'):∃ xs,d=.g xs∧d'=.g xs∧xs.length=k∧xs.all D.one=true:=by
 unfold wlD at h
 split at h
 ·rename_i xs
  split at h
  ·rename_i hc; injection h with h; exact ⟨xs,rfl,h.symm,hc.1,hc.2⟩
  ·cases h
 ·cases h
theorem gpD_spec {k:Nat} {d d':D} (h:gpD k d=some d'):∃ xs,d=.p xs∧d'=.g xs∧xs.length=k:=by
 unfold gpD at h
 split at h
 ·rename_i xs
  split at h
  ·rename_i hc; injection h with h; exact ⟨xs,rfl,h.symm,hc⟩
  ·cases h
 ·cases h
theorem notX_new (h:At cf c F E a w vs Bs cnt g p sm):¬ c.Xb w.heap.size:=fun q=>by
 have:=(c.hX _ q).1
 have:=h.H.agr.size
 omega
theorem notO_new (h:At cf c F E a w vs Bs cnt g p sm) {kill:Nat→Prop}:¬ OBk F Bs kill w.heap.size:=by
 rintro ⟨n,s,h1,_,h3⟩
 have:=Own.blocks_lt s _ _ _ (h.H.own n s h1) _ h3
 omega
theorem trBx_sound {k:Nat} {t:TypeId} {x:Operand} (ho:o.op=.box t x) (ht:trBx cf st cnt o g k t x=some (p,sm)) (h:At cf c F E a w vs Bs cnt g p sm) (hE:EvP K E cnt p):StepOK c o sm F E a w:=by
 unfold trBx at ht
 simp only [qbs] at ht
 obtain ⟨n,hn,⟨α,s1,ns⟩,h1,ht⟩:=ht
 simp only at ht
 split at ht
 ·rename_i hc
  obtain ⟨hin,hg0⟩:=hc
  have hin':inB o.dst c.nt=true:=by rw [h.fits.nt]; exact hin
  have hrun:∀ cs:Array Value,a.eval x=.agg cs→(execOp a.eval o).run c.P w=.ok (.value (.pointer (some ⟨w.heap.size,0,none⟩))) (w.alloc (.cells cs t)):=by
   intro cs hcs
   simp only [execOp,ho]
   refine run_v ?_
   rw [hcs,run_box]
   rfl
  have hOz:∀ b,b<w.heap.size→(OBk F Bs (fun k=>k∈([]:List Nat)) b∨b∈([]:List Nat))→OB F Bs b:=by
   rintro b _ (⟨n,s,q1,_,q3⟩ | q)
   ·exact ⟨n,s,q1,q3⟩
   ·simp at q
  split at ht
  ·split at ht
   · -- frozen,of what is readable
    simp only [qsj,qpj] at ht
    obtain ⟨rfl,rfl⟩:=ht
    obtain ⟨xs,e1,e2⟩:=bpD_spec (d:=ev E α) (show bpD (ev E α)=some (E cnt) from hE)
    obtain ⟨B,hB,_⟩:=h.opA h1 (fun f hf=>hf)
    rw [e1] at hB
    simp only [Own,Rd] at hB
    obtain ⟨_,cs,hv,hl,hr⟩:=hB
    refine StepOK.of_value (hrun cs hv) ⟨upd vs cnt _,upd Bs cnt [],h.H.put (by simpa using h.fresh 0 (by simp [Pr.np])) hin' [] (agr_alloc _ _ _) rfl rfl rfl ?_ (by simp) (by simp) h.g⟩
    rw [e2]
    simp only [Own,Rd]
    refine ⟨trivial,w.heap.size,0,cs,t,(0,0),rfl,heap_alloc_new w _,?_,?_⟩
    ·rintro ((q | q) | q)
     ·exact notO_new h q
     ·simp at q
     ·exact notX_new h q
    ·simp only [List.drop_zero]
     refine RdL.ext (S:=fun _=>False) (agr_alloc _ _ _) (fun _ _ q=>q.elim) (fun b hb q=>q.imp (hOz b hb) id) _ _ hr
   ·simp only [qsj,qpj] at ht
    obtain ⟨rfl,rfl⟩:=ht
    obtain ⟨xs,e1,e2,e3,e4⟩:=wlD_spec (d:=ev E α) (show wlD n (ev E α)=some (E cnt) from hE)
    obtain ⟨B,hB,_⟩:=h.opA h1 (fun f hf=>hf)
    rw [e1] at hB
    simp only [Own,Rd] at hB
    obtain ⟨_,cs,hv,hl,hr⟩:=hB
    refine StepOK.of_value (hrun cs hv) ⟨upd vs cnt _,upd Bs cnt [w.heap.size],h.H.put (by simpa using h.fresh 0 (by simp [Pr.np])) hin' [] (agr_alloc _ _ _) rfl rfl rfl ?_ (by simp) (by simp) h.g⟩
    rw [e2]
    simp only [Own]
    refine ⟨xs,w.heap.size,cs,t,(0,0),[],rfl,rfl,rfl,heap_alloc_new w _,rfl,hl,eachV.2 ⟨rfl,?_⟩⟩
    refine RdL.ext (S:=fun _=>False) (Z:=fun b=>(OB F Bs b∨c.Xb b)∨b=w.heap.size) (agr_alloc _ _ _) (fun _ _ q=>q.elim) (fun b hb q=>?_) _ _ (RdL.mono hr fun b hb q=>q.elim id (fun q=>by omega))
    rcases q with (q | q) | q
    ·exact .inl (.inl (hOz b hb (.inl q)))
    ·exact .inr (by simpa using q)
    ·exact .inl (.inr q)
  · -- frozen,of what is borrowed
   simp only [qsj,qpj] at ht
   obtain ⟨rfl,rfl⟩:=ht
   obtain ⟨xs,e1,e2⟩:=bpD_spec (d:=ev E α) (show bpD (ev E α)=some (E cnt) from hE)
   obtain ⟨B,hB,_⟩:=h.opA h1 (fun f hf=>hf)
   rw [e1] at hB
   simp only [Own,Rd] at hB
   obtain ⟨_,cs,hv,hl,hr⟩:=hB
   refine StepOK.of_value (hrun cs hv) ⟨upd vs cnt _,upd Bs cnt [],h.H.put (by simpa using h.fresh 0 (by simp [Pr.np])) hin' [] (agr_alloc _ _ _) rfl rfl rfl ?_ (by simp) (by simp) h.g⟩
   rw [e2]
   simp only [Own,Rd]
   refine ⟨trivial,w.heap.size,0,cs,t,(0,0),rfl,heap_alloc_new w _,?_,?_⟩
   ·rintro (q | q)
    ·exact notO_new h q
    ·simp at q
   ·simp only [List.drop_zero]
    refine RdL.ext (S:=fun _=>False) (agr_alloc _ _ _) (fun _ _ q=>q.elim) hOz _ _ hr
  ·rename_i s
   split at ht
   ·rename_i m
    simp only [qsj,qpj] at ht
    obtain ⟨rfl,rfl⟩:=ht
    obtain ⟨xs,e1,e2,e3,e4⟩:=wlD_spec (d:=ev E (.e m)) (show wlD n (ev E (.e m))=some (E cnt) from hE)
    obtain ⟨B,hB,hB2⟩:=h.opA h1 (fun f hf=>hf)
    obtain ⟨k1,k2,k3⟩:=hB2 m rfl
    rw [e1] at hB
    simp only [Own] at hB
    obtain ⟨ys,cs,hy,hv,hl,he⟩:=hB
    injection hy with hy; subst hy
    have hlt:∀ b∈B,b<w.heap.size:=fun b hb=>Own.blocks_lt _ _ _ _ (h.H.own m _ k1) b (k3 ▸ hb)
    refine StepOK.of_value (hrun cs hv) ⟨upd vs cnt _,upd Bs cnt (w.heap.size::B),h.H.put (by simpa using h.fresh 0 (by simp [Pr.np])) hin' [m] (agr_alloc _ _ _) rfl rfl rfl ?_ ?_ ?_ h.g⟩
    ·rw [e2]
     simp only [Own]
     refine ⟨xs,w.heap.size,cs,t,(0,0),B,rfl,rfl,rfl,heap_alloc_new w _,rfl,hl,?_⟩
     refine Each.imp (fun d v B1 hB1 r=>?_) he
     refine Own.ext (S:=fun _=>False) (agr_alloc _ _ _) (fun _ _ q=>q.elim) ?_ _ _ _ _ (fun _ _ q=>q) r
     rintro b hb (⟨n,s,q1,_,q3⟩ | q)
     ·exact ⟨n,s,q1,q3⟩
     ·rcases qmn.1 q with q | q
      ·omega
      ·exact ⟨m,_,k1,k3 ▸ q⟩
    ·refine List.nodup_cons.2 ⟨fun q=>?_,by rw [k3]; exact h.H.nodup m _ k1⟩
     have:=hlt _ q; omega
    ·intro b hb
     rcases qmn.1 hb with rfl | hb
     ·exact .inr (Nat.le_refl _)
     ·exact .inl ⟨m,_,k1,by simp,k3 ▸ hb⟩
   ·cases ht
  ·cases ht
 ·cases ht
end
end Go.Cat
namespace Go.Cat
section
variable {cf:CF} {c:Cx} {F:Fact→Prop} {E:Nat→D} {a:Act} {w:World} {vs:Nat→Value} {Bs:Nat→List Nat} {cnt:Nat} {g:Gd} {sm:Sm} {st:List Fact} {o:Oper} {p:Pr}
 {K:Nat→List D→List D→Prop}
theorem known_spec {d d':D} (h:known d=some d'):d'=d:=by
 unfold known at h
 split at h
 ·cases h
 ·injection h with h; exact h.symm
theorem fpD_spec {k:Nat} {d d':D} (h:fpD k d=some d'):∃ xs,d=.p xs∧xs[k]?=some d':=by
 unfold fpD at h
 split at h
 ·rename_i xs
  obtain ⟨y,h1,h2⟩:=qbs.1 h
  rw [known_spec h2]
  exact ⟨xs,rfl,h1⟩
 ·cases h
theorem exec_field {t:TypeId} {x:Operand} {f:Nat} (ho:o.op=.fieldAddr t x f) {v:Value} (h:(Instr.fieldAt t (a.eval x) f).run c.P w=.ok v w):(execOp a.eval o).run c.P w=.ok (.value v) w:=by
 simp only [execOp,ho]
 exact run_v h
theorem rootOf_whole {x:Operand} {n:Nat} {s:Sh} {ns:List Fact} (hr:rootOf st g x=some (n,[],s,ns)) (h:At cf c F E a w vs Bs cnt g p sm) (hn:∀ f∈ns,f∈sm.needs):
  F (.en n s)∧a.eval x=vs n:=by
 obtain ⟨h1,is,d,k1,k2,k3,k4⟩:=rootOf_sound (s':=s) hr h hn (by simp [Sh.under])
 refine ⟨h1,?_⟩
 rcases k4 with ⟨_,q,_⟩ | ⟨q,_⟩
 ·exact q
 ·have:=pathE_len k1
  simp at this
  exact (q this).elim
theorem trFa_sound {t:TypeId} {x:Operand} {f:Nat} (ho:o.op=.fieldAddr t x f) (ht:trFa cf st cnt o g t x f=some (p,sm)) (h:At cf c F E a w vs Bs cnt g p sm) (hE:EvP K E cnt p):StepOK c o sm F E a w:=by
 unfold trFa at ht
 split at ht
 ·cases ht
 ·rename_i d hd
  simp only [qbs] at ht
  obtain ⟨n,hn,ht⟩:=ht
  split at ht
  ·rename_i hc
   obtain ⟨hdn,hfn⟩:=hc
   simp only [qbs] at ht
   obtain ⟨⟨r,q,s,ns⟩,hroot,ht⟩:=ht
   simp only at ht
   split at ht
   ·rename_i hq
    subst hq
    have hP:c.P=cf.P:=h.fits.P
    have hin:inB (some d) c.nt=true:=by rw [h.fits.nt]; simpa [inB] using hdn
    -- a field of what is only read
    have hro:∀ (fl:Bool) (s':Sh),p=.fp fl (.e r) f→sm=⟨ns,[],one cnt s' (some d) (.vc cnt g)⟩→(s=.v∧s'=.v∨s=.y∧s'=.y∨s=.y∧fl=true∧s'=.v)→StepOK c o sm F E a w:=by
     intro fl s' hp hsm hss
     subst hp hsm
     obtain ⟨hF,hev⟩:=rootOf_whole hroot h (fun f hf=>hf)
     have hown:=h.H.own r s hF
     have hE0:((fpD f (E r)).bind fun d=>if fl=true then flatD d else some d)=some (E cnt):=hE
     obtain ⟨y,y1,y2⟩:=qbs.1 hE0
     obtain ⟨xs,e1,e2⟩:=fpD_spec y1
     have hy:y=E cnt∧(fl=true→(E cnt).flat=true):=by
      split at y2
      ·unfold flatD at y2
       split at y2
       ·rename_i q; injection y2 with y2; subst y2; exact ⟨rfl,fun _=>q⟩
       ·cases y2
      ·rename_i q; injection y2 with y2; exact ⟨y2,fun q'=>(q q').elim⟩
     obtain ⟨rfl,hfl⟩:=hy
     rw [e1] at hown
     obtain ⟨Z,hZ,hr,hOwn⟩:∃ Z:Nat→Prop,(∀ b,OB F Bs b→Z b)∧Rd c.fid w.heap Z (.p xs) (vs r)∧(∀ u,Rd c.fid w.heap Z (E cnt) u→Own c.fid w.heap (OB F Bs) c.Xb s' (E cnt) u []):=by
      rcases hss with ⟨rfl,rfl⟩ | ⟨rfl,rfl⟩ | ⟨rfl,hf,rfl⟩
      ·simp only [Own] at hown
       exact ⟨_,fun b q=>.inl q,hown.2,fun u hu=>by simp only [Own]; exact ⟨trivial,hu⟩⟩
      ·simp only [Own] at hown
       exact ⟨_,fun b q=>q,hown.2,fun u hu=>by simp only [Own]; exact ⟨trivial,hu⟩⟩
      ·simp only [Own] at hown
       exact ⟨_,fun b q=>q,hown.2,fun u hu=>by simp only [Own]; exact ⟨trivial,Rd.flat (hfl hf) hu⟩⟩
     simp only [Rd] at hr
     obtain ⟨b,off,cs,e',fz,hv,hb,hz,hl⟩:=hr
     obtain ⟨u,hu1,hu2⟩:=RdL.get hl e2
     rw [drop_get] at hu1
     have hrun:(execOp a.eval o).run c.P w=.ok (.value (.pointer (some ⟨b,off+f,none⟩))) w:=by
      refine exec_field ho ?_
      rw [hev,hv]
      exact run_fieldAt1 (by rw [hP]; exact hn) hfn
     refine StepOK.of_value hrun ⟨upd vs cnt u,upd Bs cnt [],?_⟩
     rw [hd]
     refine h.H.leaf (s:=s') (v:=u) (by simpa using h.fresh 0 (by simp [Pr.np])) hin (same_world w) (hOwn u hu2) [] ?_
     intro tm htm t' ht' hg
     injection ht' with ht'; subst ht'
     refine ⟨b,off+f,cs,e',fz,htm d rfl,hb,?_,fun q=>hz (hZ b q)⟩
     rw [upd_same]; exact hu1
    split at ht
    ·rename_i es
     simp only [qsj,qpj] at ht
     obtain ⟨rfl,rfl⟩:=ht
     obtain ⟨hF,hev⟩:=rootOf_whole hroot h (fun f hf=>hf)
     have hown:=h.H.own r _ hF
     have hE0:(pathD E [.k f] (E r)).bind known=some (E cnt):=hE
     obtain ⟨y,y1,y2⟩:=qbs.1 hE0
     have hy:=known_spec y2
     subst hy
     have y1':getP [f] (E r)=some (E cnt):=by simpa [pathD,PE.ev] using y1
     obtain ⟨b,o',u,B',w1,w2,w3,_⟩:=Wk.of_own [f] (.b es) es _ _ _ _ (by simp) hown y1' (by simp [Sh.under])
     have hcell:=w1
     simp only [Wk] at hcell
     obtain ⟨b',o1,cs,e',fz,y',hst,hb,hy,hh⟩:=hcell
     rcases hh with ⟨_,rfl,rfl,rfl⟩ | ⟨hne,_⟩
     ·obtain ⟨hv,rfl⟩:vs r=.pointer (some ⟨b,0,none⟩)∧o'=f:=by
       rcases hst with ⟨off,len,cap,q,_⟩ | q
       ·rw [q] at hown
        simp only [Own] at hown
        obtain ⟨xs,b2,cs2,e2,fz2,B2,_,_,q2,_⟩:=hown
        cases q2
       ·exact q
      have hrun:(execOp a.eval o).run c.P w=.ok (.value (.pointer (some ⟨b,o',none⟩))) w:=by
       refine exec_field ho ?_
       rw [hev,hv]
       have:=run_fieldAt1 (P:=c.P) (w:=w) (b:=b) (o:=0) (by rw [hP]; exact hn) hfn
       simpa using this
      have hfr:Fresh F cnt:=by simpa using h.fresh 0 (by simp [Pr.np])
      have hnc:r≠cnt:=by rintro rfl; exact hfr.1 _ hF
      have hloc:∀ (tm:Array Value) (al:Nat→Prop),tm[d]?=some (.pointer (some ⟨b,o',none⟩))→LocR w.heap E (upd vs cnt u) (OB F Bs) al tm d (.ad r [.k o'] cnt g):=by
       intro tm al htm _ _
       refine ⟨[o'],b,o',E cnt,by simp [pathE,PE.ev],y1',?_,htm⟩
       rw [upd_same,upd_ne vs u hnc]
       exact w1
      split
      ·rename_i hes
       subst hes
       rw [if_pos rfl] at h
       simp only [Own] at w2
       refine StepOK.of_value hrun ⟨upd vs cnt u,upd Bs cnt [],?_⟩
       rw [hd]
       refine h.H.leaf (s:=.v) (v:=u) hfr hin (same_world w) (by simp only [Own]; exact ⟨trivial,w2.2⟩) [] ?_
       intro tm htm t' ht'
       injection ht' with ht'; subst ht'
       exact hloc tm _ (htm d rfl)
      ·rename_i hes
       rw [if_neg hes] at h
       refine StepOK.of_value hrun ⟨upd vs cnt u,upd Bs cnt [],?_⟩
       rw [hd]
       exact h.H.leaf0 hfr (by rw [h.fits.nt]; exact hdn) (same_world w) fun tm htm=>hloc tm _ htm
     ·exact (hne rfl).elim
    ·simp only [qsj,qpj] at ht
     exact hro false .v ht.1.symm ht.2.symm (.inl ⟨rfl,rfl⟩)
    ·split at ht
     ·simp only [qsj,qpj] at ht
      exact hro true .v ht.1.symm ht.2.symm (.inr (.inr ⟨rfl,rfl,rfl⟩))
     ·simp only [qsj,qpj] at ht
      exact hro false .y ht.1.symm ht.2.symm (.inr (.inl ⟨rfl,rfl⟩))
    ·cases ht
   ·cases ht
  ·cases ht
theorem trLw_sound {k:Nat} {t:TypeId} {x:Operand} (ho:o.op=.load t x) (ht:trLw cf st cnt o g k t x=some (p,sm)) (h:At cf c F E a w vs Bs cnt g p sm) (hE:EvP K E cnt p):StepOK c o sm F E a w:=by
 unfold trLw at ht
 split at ht
 ·cases ht
 ·rename_i d hd
  simp only [qbs] at ht
  obtain ⟨n,hn,ht⟩:=ht
  split at ht
  ·rename_i hdn
   simp only [qbs] at ht
   obtain ⟨⟨r,q,s,ns⟩,hroot,ht⟩:=ht
   simp only at ht
   split at ht
   ·rename_i hq
    subst hq
    have hP:c.P=cf.P:=h.fits.P
    have hn':structN c.P t=some n:=by rw [hP]; exact hn
    have hin:inB (some d) c.nt=true:=by rw [h.fits.nt]; simpa [inB] using hdn
    have hput:∀ v:Value,(a.put (some d) v).tmps[d]?=some v:=fun v=>put_self (by rw [h.H.size,h.fits.nt]; exact hdn)
    have hfrz:∀ (s':Sh),p=.gp (.e r) n→sm=⟨ns,[],one cnt s' (some d) (.is cnt g)⟩→(s=.v∧s'=.v∨s=.y∧s'=.y)→StepOK c o sm F E a w:=by
     intro s' hp hsm hss
     subst hp hsm
     obtain ⟨hF,hev⟩:=rootOf_whole hroot h (fun f hf=>hf)
     have hown:=h.H.own r s hF
     obtain ⟨xs,e1,e2,e3⟩:=gpD_spec (d:=E r) (show gpD n (E r)=some (E cnt) from hE)
     rw [e1] at hown
     obtain ⟨Z,hr,hOwn⟩:∃ Z:Nat→Prop,Rd c.fid w.heap Z (.p xs) (vs r)∧(∀ u,Rd c.fid w.heap Z (E cnt) u→Own c.fid w.heap (OB F Bs) c.Xb s' (E cnt) u []):=by
      rcases hss with ⟨rfl,rfl⟩ | ⟨rfl,rfl⟩
      ·simp only [Own] at hown
       exact ⟨_,hown.2,fun u hu=>by simp only [Own]; exact ⟨trivial,hu⟩⟩
      ·simp only [Own] at hown
       exact ⟨_,hown.2,fun u hu=>by simp only [Own]; exact ⟨trivial,hu⟩⟩
     simp only [Rd] at hr
     obtain ⟨b,off,cs,e',fz,hv,hb,hz,hl⟩:=hr
     obtain ⟨t1,t2⟩:=RdL.take hl
     have hoff:off+n≤cs.size:=by
      have hle:(List.take xs.length (List.drop off cs.toList)).length≤cs.size-off:=by simp [List.length_take]; omega
      rw [t2,e3] at hle
      obtain ⟨fs,i,_,_,_,⟨_,h0⟩,_⟩:=structN_spec hn
      omega
     have hrun:(execOp a.eval o).run c.P w=.ok (.value (.agg ((cs.toList.drop off).take n).toArray)) w:=by
      refine exec_load ho ?_
      rw [hev,hv]
      exact run_loadAtO hn' hb hoff
     rw [e3] at t1 t2
     have hcs:Rd c.fid w.heap Z (E cnt) (.agg ((cs.toList.drop off).take n).toArray):=by
      rw [e2]
      simp only [Rd]
      exact ⟨_,rfl,by simpa [e3] using t2,by simpa using t1⟩
     refine StepOK.of_value hrun ?_
     rw [hd]
     exact h.H.leaf_is (s:=s') (by simpa using h.fresh 0 (by simp [Pr.np])) hin (same_world w) (hOwn _ hcs) [] h.g
    split at ht
    · -- a box of what may be read for ever
     simp only [qsj,qpj] at ht
     obtain ⟨rfl,rfl⟩:=ht
     obtain ⟨hF,hev⟩:=rootOf_whole hroot h (fun f hf=>hf)
     have hown:=h.H.own r _ hF
     obtain ⟨xs,e1,e2,e3,e4⟩:=wlD_spec (d:=E r) (show wlD n (E r)=some (E cnt) from hE)
     rw [e1] at hown
     simp only [Own] at hown
     obtain ⟨ys,b,cs,e,fz,B',hy,hB,hv,hb,hth,hl,he⟩:=hown
     injection hy with hy; subst hy
     have hrun:(execOp a.eval o).run c.P w=.ok (.value (.agg cs)) w:=by
      refine exec_load ho ?_
      rw [hev,hv]
      exact run_loadAtN hn' hb (by omega)
     refine StepOK.of_value hrun ?_
     rw [hd]
     refine h.H.leaf_is (s:=.v) (by simpa using h.fresh 0 (by simp [Pr.np])) hin (same_world w) ?_ [] h.g
     rw [e2]
     simp only [Own,Rd]
     exact ⟨trivial,cs,rfl,hl,(eachV.1 he).2⟩
    ·rename_i es hes
     split at ht
     ·rename_i hk
      simp only [qsj,qpj] at ht
      obtain ⟨rfl,rfl⟩:=ht
      obtain ⟨hF,hev⟩:=rootOf_whole hroot h (fun f hf=>hf)
      have hown:=h.H.own r _ hF
      obtain ⟨xs,e1,e2,e3,e4⟩:=wlD_spec (d:=E r) (show wlD n (E r)=some (E cnt) from hE)
      rw [e1] at hown
      simp only [Own] at hown
      obtain ⟨ys,b,cs,e,fz,B',hy,hB,hv,hb,hth,hl,he⟩:=hown
      injection hy with hy; subst hy
      have hrun:(execOp a.eval o).run c.P w=.ok (.value (.agg cs)) w:=by
       refine exec_load ho ?_
       rw [hev,hv]
       exact run_loadAtN hn' hb (by omega)
      have hnd:=h.H.nodup r _ hF
      rw [hB] at hnd
      refine StepOK.of_value hrun ⟨upd vs cnt (.agg cs),upd Bs cnt B',?_⟩
      rw [hd]
      refine h.H.put (by simpa using h.fresh 0 (by simp [Pr.np])) hin [r] (Agr.refl _ _) rfl rfl rfl ?_ (List.nodup_cons.1 hnd).2 (fun b' hb'=>.inl ⟨r,_,hF,by simp,by rw [hB]; exact qmc _ hb'⟩) h.g
      rw [e2]
      simp only [Own]
      refine ⟨xs,cs,rfl,rfl,hl,Each.imp (fun d v B1 hB1 r'=>?_) he⟩
      refine Own.ext (Agr.refl (fun _=>False) _) (fun _ _ q=>q.elim) ?_ _ _ _ _ (fun _ _ q=>q) r'
      rintro b' _ (⟨n,s,q1,_,q3⟩ | q)
      ·exact ⟨n,s,q1,q3⟩
      ·exact ⟨r,_,hF,by rw [hB]; exact qmc _ q⟩
     ·simp only [qsj,qpj] at ht
      obtain ⟨rfl,rfl⟩:=ht
      obtain ⟨hF,hev⟩:=rootOf_whole hroot h (fun f hf=>hf)
      have hown:=h.H.own r _ hF
      obtain ⟨xs,e1,e2,e3,e4⟩:=wlD_spec (d:=E r) (show wlD n (E r)=some (E cnt) from hE)
      rw [e1] at hown
      simp only [Own] at hown
      obtain ⟨ys,b,cs,e,fz,B',hy,hB,hv,hb,hth,hl,he⟩:=hown
      injection hy with hy; subst hy
      have hrun:(execOp a.eval o).run c.P w=.ok (.value (.agg cs)) w:=by
       refine exec_load ho ?_
       rw [hev,hv]
       exact run_loadAtN hn' hb (by omega)
      have hfr:Fresh F cnt:=by simpa using h.fresh 0 (by simp [Pr.np])
      have hnc:r≠cnt:=by rintro rfl; exact hfr.1 _ hF
      refine StepOK.of_value hrun ⟨upd vs cnt (.agg cs),upd Bs cnt [],?_⟩
      rw [hd]
      refine h.H.leaf0 hfr (by rw [h.fits.nt]; exact hdn) (same_world w) fun tm htm=>?_
      intro _ _
      exact ⟨xs,b,cs,e,fz,e1,e2,by rw [upd_ne vs _ hnc]; exact hv,hb,by rw [upd_same],by rw [upd_same]; exact htm⟩
    ·simp only [qsj,qpj] at ht
     exact hfrz .v ht.1.symm ht.2.symm (.inl ⟨rfl,rfl⟩)
    ·simp only [qsj,qpj] at ht
     exact hfrz .y ht.1.symm ht.2.symm (.inr ⟨rfl,rfl⟩)
    ·cases ht
   ·cases ht
  ·cases ht
theorem trNc_sound {x:Operand} (ho:o.op=.nilCheck x) (ht:trNc cf st cnt o g x=some (p,sm)) (h:At cf c F E a w vs Bs cnt g p sm) (hE:EvP K E cnt p):StepOK c o sm F E a w:=by
 unfold trNc at ht
 split at ht
 ·rename_i t d hd
  split at ht
  ·rename_i hdn
   have hin:inB (some d) c.nt=true:=by rw [h.fits.nt]; simpa [inB] using hdn
   split at ht
   ·rename_i n g' hl
    split at ht
    ·rename_i hg'
     have hev:∀ _s:Sh,Fact.sl t (.is n g')∈sm.needs→a.eval (.tmp t)=vs n:=by
      intro _ hh
      have h1:=(h.H.loc t _ (h.needs _ hh)).1 (prefix_gd hg' h.g)
      simp [Act.eval,qag,h1]
     have hrun:∀ ad,a.eval (.tmp t)=.pointer (some ad)→(execOp a.eval o).run c.P w=.ok (.value (.pointer (some ad))) w:=by
      intro ad h1
      simp only [execOp,ho,h1]
      rfl
     have hptr:∀ (s':Sh),(s'=.v∨s'=.y)→p=.nn (.e n)→sm=⟨[.sl t (.is n g'),.en n s'],[],one cnt s' (some d) (.is cnt g)⟩→StepOK c o sm F E a w:=by
      intro s' hs' hp hsm
      subst hp hsm
      have hev':=hev s' (by simp)
      have hown:=h.H.own n s' (h.needs _ (by simp))
      have hE0:nnD (E n)=some (E cnt):=hE
      unfold nnD at hE0
      split at hE0
      ·rename_i xs hx
       injection hE0 with hE0
       have hv:∃ ad,vs n=.pointer (some ad):=by
        rw [hx] at hown
        rcases hs' with rfl | rfl
        all_goals
         simp only [Own,Rd] at hown
         obtain ⟨_,b,off,cs,e,fz,hv,_⟩:=hown
         exact ⟨_,hv⟩
       obtain ⟨ad,hv⟩:=hv
       refine StepOK.of_value (hrun ad (hev'.trans hv)) ?_
       rw [hd]
       refine h.H.leaf_is (s:=s') (by simpa using h.fresh 0 (by simp [Pr.np])) hin (same_world w) ?_ [] h.g
       rw [← hE0,← hx,← hv]
       rcases hs' with rfl | rfl
       ·simp only [Own] at hown ⊢; exact ⟨trivial,hown.2⟩
       ·simp only [Own] at hown ⊢; exact ⟨trivial,hown.2⟩
      ·cases hE0
     split at ht
     ·rename_i s hs
      simp only [qsj,qpj] at ht
      obtain ⟨rfl,rfl⟩:=ht
      have hev':=hev (.b s) (by simp)
      have hown:=h.H.own n (.b s) (h.needs _ (by simp))
      simp only [Own] at hown
      obtain ⟨ys,b,cs,e,fz,B',hy,hB,hv,_⟩:=hown
      refine StepOK.of_value (hrun _ (hev'.trans hv)) ⟨vs,Bs,?_⟩
      rw [hd]
      refine h.H.slot (same_world w) ⟨fun _=>?_,fun q=>(q h.g).elim⟩
      rw [put_self (by rw [h.H.size,h.fits.nt]; exact hdn),hv]
     ·simp only [qsj,qpj] at ht
      exact hptr .v (.inl rfl) ht.1.symm ht.2.symm
     ·simp only [qsj,qpj] at ht
      exact hptr .y (.inr rfl) ht.1.symm ht.2.symm
     ·cases ht
    ·cases ht
   ·cases ht
  ·cases ht
 ·cases ht
theorem isPtr_spec {P:Program} {t:TypeId} (h:isPtr P t=true):P.underlying t=some (.pointer (P.pointee t)):=by
 unfold isPtr at h
 split at h
 ·rename_i e he; simp [Program.pointee,he]
 ·cases h
theorem trNz_sound {want:Bool} {op:BinOp} {t ty:TypeId} {x:Operand} (ho:o.op=.binOp op t x (.const (.pointer none)) ty) (hop:op=.eql∧want=true∨op=.neq∧want=false) (hp:isPtr cf.P t=true)
  (ht:trNz cf st cnt o g want x=some (p,sm)) (h:At cf c F E a w vs Bs cnt g p sm) (hE:EvP K E cnt p):StepOK c o sm F E a w:=by
 unfold trNz at ht
 simp only [qbs] at ht
 obtain ⟨⟨α,s,ns⟩,h1,ht⟩:=ht
 simp only at ht
 split at ht
 ·rename_i hs
  obtain ⟨rfl,hi,rfl⟩:=leafS_eq ht
  obtain ⟨B,hB,_⟩:=h.opA h1 (fun f hf=>hf)
  have hE0:(nzD (ev E α)).map (fun x=>D.b (x == want))=some (E cnt):=hE
  simp only [qms] at hE0
  obtain ⟨z,hz,hE1⟩:=hE0
  have hv:∃ ad:Option Addr,a.eval x=.pointer ad∧ad.isNone=z:=by
   unfold nzD at hz
   split at hz
   ·rename_i q
    injection hz with hz
    rw [q] at hB
    refine ⟨none,?_,by simp [← hz]⟩
    rcases hs with rfl | rfl
    ·simp only [Own,Rd] at hB; exact hB.2
    ·simp only [Own,Rd] at hB; exact hB.2
   ·rename_i xs q
    injection hz with hz
    rw [q] at hB
    rcases hs with rfl | rfl
    all_goals
     simp only [Own,Rd] at hB
     obtain ⟨_,b,off,cs,e,fz,hv,_⟩:=hB
     exact ⟨_,hv,by simp [← hz]⟩
   ·cases hz
  obtain ⟨ad,hv,hz2⟩:=hv
  have he:=isPtr_spec hp
  have hP:c.P=cf.P:=h.fits.P
  refine leaf_step h hi (same_world w) (v:=.bool (z == want)) ?_ (Own.of_rd fun Z=>by rw [← hE1]; simp [Rd])
  simp only [execOp,ho]
  refine run_v ?_
  have hnil:a.eval (.const (.pointer none))=.pointer none:=rfl
  rw [hv,hnil,Sem.run_bind]
  have hgd:(eqGuard op t x (.const (.pointer none)) (.pointer ad) (.pointer none)).run c.P w=.ok () w:=by
   rcases hop with ⟨rfl,_⟩ | ⟨rfl,_⟩ <;> simp [eqGuard]
  rw [hgd]
  show (binOp op t (.pointer ad) (.pointer none)).run c.P w=_
  rcases hop with ⟨rfl,rfl⟩ | ⟨rfl,rfl⟩
  ·rw [run_eql_pointer_nil w t ad (by rw [hP]; exact he)]
   simp [hz2]
  ·rw [run_neq_pointer_nil w t ad (by rw [hP]; exact he)]
   simp [hz2]
 ·cases ht
end
end Go.Cat
namespace Go.Cat
section
variable (cf:CF) (st:List Fact) (cnt:Nat) (o:Oper) (g:Gd)
def trSq (k:Nat) (t:TypeId) (x v:Operand):Option (Pr×Sm):=
 match x with
 | .tmp s=>if g=[]∧o.dst=none∧plain1 cf.P t=true then match findSl st s with
  | some l=>match adOf l with
   | some (r,p,[])=>
    (findEn st r).bind fun sr=>(sr.under p.length).bind fun es=>(owK es).bind fun kk=>(trPart cf st g kk v).bind fun a=>
     if r∉a.2.1∧kk≠0 then some (.uq r p a.1.1 a.1.2 kk,⟨[.sl s l,.en r sr]++(a.2.2++((slotsK st k r).map fun x=>.sl x.1 (.is r x.2))++(awSlots st k r p).map fun x=>.sl x.1 x.2.1),r::a.2.1,
      .en cnt sr::((slotsK st k r).map fun x=>.sl x.1 (.is cnt x.2))++(awSlots st k r p).map fun x=>.sl x.1 (.aw cnt [x.2.2] [])⟩)
     else none
   | _=>none
  | none=>none
  else none
 | _=>none
def trFz (x:Operand):Option (Pr×Sm):=
 match x,o.dst with
 | .tmp t,some d=>if g=[]∧d<cf.nt then match findSl st t with
  | some (.is n [])=>(findEn st n).map fun s=>(.cy (.e n),⟨[.sl t (.is n []),.en n s]++((slotsOf st n).filter fun y=>y.1 != d).map (fun y=>.sl y.1 (.is n y.2)),[n],
    .en cnt s::.sl d (.is cnt [])::((slotsOf st n).filter fun y=>y.1 != d).map fun y=>.sl y.1 (.is cnt y.2)⟩)
  | _=>none
  else none
 | _,_=>none
end
section
variable {cf:CF} {c:Cx} {F:Fact→Prop} {E:Nat→D} {a:Act} {w:World} {vs:Nat→Value} {Bs:Nat→List Nat} {cnt:Nat} {g:Gd} {sm:Sm} {st:List Fact} {o:Oper} {p:Pr}
 {K:Nat→List D→List D→Prop}
theorem trSw_sound {k:Nat} {t:TypeId} {x v:Operand} (ho:o.op=.store t x v) (ht:trSw cf st cnt o g k t x v=some (p,sm)) (h:At cf c F E a w vs Bs cnt g p sm) (hE:EvP K E cnt p):StepOK c o sm F E a w:=by
 unfold trSw at ht
 split at ht
 ·rename_i u
  split at ht
  ·rename_i hc
   obtain ⟨hg0,hdst⟩:=hc
   simp only [qbs] at ht
   obtain ⟨n,hn,ht⟩:=ht
   split at ht
   ·rename_i r hl
    split at ht
    ·rename_i s hs
     simp only [qbs] at ht
     obtain ⟨⟨α,sv,ns⟩,h1,ht⟩:=ht
     simp only at ht
     split at ht
     ·rename_i m
      split at ht
      ·rename_i hcm
       obtain ⟨hmr,hsv⟩:=hcm
       simp only [qsj,qpj] at ht
       obtain ⟨rfl,rfl⟩:=ht
       have hP:c.P=cf.P:=h.fits.P
       have hr:F (.en r (.b s)):=h.needs _ (by simp)
       have hown:=h.H.own r _ hr
       simp only [Own] at hown
       obtain ⟨ys,b,old,e,fz,B',hy,hB,hv,hb,hth,hol,_⟩:=hown
       have hfz:fz=(0,0):=hth
       subst hfz
       have hloc:a.tmps[u]?=some (vs r):=(h.H.loc u _ (h.needs (.sl u (.is r [])) (by simp))).1 (by simp [gdOK])
       have hev:a.eval (.tmp u)=.pointer (some ⟨b,0,none⟩):=by rw [← hv]; simp [Act.eval,qag,hloc]
       obtain ⟨B,hBo,hB2⟩:=h.opA h1 (fun f hf=>by simp [hf])
       obtain ⟨k1,k2,k3⟩:=hB2 m rfl
       have hE0:(if lenG n (E r)=true then wlD n (ev E (.e m)) else none)=some (E cnt):=hE
       have hon:old.size=n:=by
        split at hE0
        ·rename_i q
         rw [hy] at q
         simp only [lenG,beq_iff_eq] at q
         omega
        ·cases hE0
       rw [if_pos (by rw [hy]; simp [lenG]; omega)] at hE0
       obtain ⟨xs,e1,e2,e3,e4⟩:=wlD_spec hE0
       rw [e1] at hBo
       -- the new cells
       obtain ⟨cs,hcs,hcl,Bn,hbn,hEach,hone⟩:∃ cs,a.eval v=.agg cs∧cs.size=xs.length∧∃ Bn,Bn=(if sv=.v then [] else Bs m)∧Each (Own c.fid w.heap (OB F Bs) c.Xb s) xs cs.toList Bn∧∀ v∈cs.toList,v.oneCell'=true:=by
        rcases hsv with rfl | ⟨rfl,rfl⟩
        ·simp only [Own] at hBo
         obtain ⟨zs,cs,hz,hvv,hl2,he⟩:=hBo
         injection hz with hz; subst hz
         refine ⟨cs,hvv,hl2,B,by simp [k3],he,Each.one e4 (by simpa using hl2) he⟩
        ·simp only [Own,Rd] at hBo
         obtain ⟨_,cs,hvv,hl2,he⟩:=hBo
         exact ⟨cs,hvv,hl2,[],by simp,eachV.2 ⟨rfl,he⟩,RdL.one e4 (by simpa using hl2) he⟩
       have hlt:∀ n s,F (.en n s)→∀ b∈Bs n,b<w.heap.size:=fun n s hs=>Own.blocks_lt s _ _ _ (h.H.own n s hs)
       have hBnm:∀ b'∈Bn,b'∈Bs m:=by
        intro b' hb'
        rw [hbn] at hb'
        split at hb'
        ·simp at hb'
        ·exact hb'
       have hbr:b∈Bs r:=by rw [hB]; simp
       have hbn2:b∉Bn:=fun q=>h.H.apart m sv r _ k1 hr hmr b (hBnm b q) hbr
       have hrun:(execOp a.eval o).run c.P w=.ok .skip (w.setRow b cs):=by
        simp only [execOp,ho]
        rw [Sem.run_bind,hev,hcs,run_storeAtN (by rw [hP]; exact hn) hb hon (by omega) hone]
        rfl
       have hheap':=setRow_heap w b old cs e (0,0) hb
       have hagr:Agr (fun x=>x=b) w.heap (w.setRow b cs).heap:=⟨by simp,fun x _ hx=>setRow_other w b x _ hx⟩
       have hfr:Fresh F cnt:=by simpa using h.fresh 0 (by simp [Pr.np])
       have hrc:r≠cnt:=by rintro rfl; exact hfr.1 _ hr
       have hms:F (.en m sv):=k1
       have H1:=h.H.put (m:=cnt) (s:=.b s) (v:=vs r) (B:=b::Bn) (dst:=none) (ns:=[]) hfr (by simp [inB]) (r::(if sv=.v then [] else [m])) (hagr.mono fun x _ hx=>⟨r,_,hr,by simp,by rw [hx]; exact hbr⟩) rfl rfl rfl
        (by
         rw [e2]
         simp only [Own]
         refine ⟨xs,b,cs,e,(0,0),Bn,rfl,rfl,hv,hheap',rfl,hcl,Each.imp (fun d v B1 hB1 q=>?_) hEach⟩
         refine Own.ext hagr (fun x _ hx=>⟨r,_,hr,by rw [hx]; exact hbr⟩) ?_ _ _ _ _ (fun x hx q=>hbn2 (by rw [← q]; exact hB1 x hx)) q
         rintro x _ (⟨n1,s1,q1,_,q3⟩ | q)
         ·exact ⟨n1,s1,q1,q3⟩
         ·rcases qmn.1 q with rfl | q
          ·exact ⟨r,_,hr,hbr⟩
          ·exact ⟨m,_,hms,hBnm x q⟩)
        (by
         refine List.nodup_cons.2 ⟨hbn2,?_⟩
         rw [hbn]
         split
         ·simp
         ·exact h.H.nodup m _ hms)
        (fun x hx=>by
         rcases qmn.1 hx with rfl | hx
         ·exact .inl ⟨r,_,hr,by simp,hbr⟩
         ·rw [hbn] at hx
          split at hx
          ·simp at hx
          ·rename_i q
           exact .inl ⟨m,_,hms,by simp [q],hx⟩) h.g
       refine StepOK.of_skip hrun hdst ⟨upd vs cnt (vs r),upd Bs cnt (b::Bn),?_⟩
       refine H1.more2 ?_ ?_
       ·intro n' s'
        simp only [next,one,qmn,List.mem_map,qnm,or_false]
        constructor
        ·rintro (q | q | ⟨_,_,q⟩)
         ·exact .inl q
         ·exact .inr q
         ·cases q
        ·rintro (q | q)
         ·exact .inl q
         ·exact .inr (.inl q)
       ·intro t' l' hf
        rcases hf with ⟨q1,_⟩ | q
        ·exact .inl (.inl ⟨q1,by simp⟩)
        ·simp only [qmn,List.mem_map] at q
         rcases q with q | ⟨⟨u',gu⟩,hu,q⟩
         ·cases q
         ·injection q with q1 q2
          subst q1 q2
          have hf0:F (.sl u' (.is r gu)):=h.needs _ (by simp only [qma,List.mem_map]; exact .inr (.inr ⟨(u',gu),hu,rfl⟩))
          have:=H1.loc u' (.is r gu) (.inl ⟨hf0,by simp⟩)
          right
          refine ⟨fun hg=>?_,this.2⟩
          have h1:=this.1 hg
          rw [upd_ne vs _ hrc] at h1
          rw [upd_same]; exact h1
      ·cases ht
     ·cases ht
    ·cases ht
   ·cases ht
  ·cases ht
 ·cases ht
theorem trSq_sound {k:Nat} {t:TypeId} {x v:Operand} (ho:o.op=.store t x v) (ht:trSq cf st cnt o g k t x v=some (p,sm)) (h:At cf c F E a w vs Bs cnt g p sm) (hE:EvP K E cnt p):StepOK c o sm F E a w:=by
 unfold trSq at ht
 split at ht
 ·rename_i s
  split at ht
  ·rename_i hc
   obtain ⟨hg0,hdst,hpl⟩:=hc
   split at ht
   ·rename_i l hl
    split at ht
    ·rename_i r q had
     simp only [qbs] at ht
     obtain ⟨sr,hsr,es,hes,kk,hkk,⟨α,ks,ns⟩,hput,ht⟩:=ht
     simp only at ht
     split at ht
     ·rename_i hck
      obtain ⟨hrk,hk0⟩:=hck
      simp only [qsj,qpj] at ht
      obtain ⟨rfl,rfl⟩:=ht
      have hE0:(if putB kk (ev E α.1,α.2)=true then (q.mapM (PE.ev E)).bind fun is=>setP is (E r) (ev E α.1) else none)=some (E cnt):=hE
      split at hE0
      ·rename_i hpb
       have hnsn:∀ f∈ns,f∈([.sl s l,.en r sr]++(ns++((slotsK st k r).map fun x=>Fact.sl x.1 (.is r x.2))++(awSlots st k r q).map fun x=>Fact.sl x.1 x.2.1)):=fun f hf=>by simp [hf]
       have hal:=trPart_alive hput h hnsn
       have hesk:=owK_spec hkk
       subst hesk
       refine store_core ho hg0 hdst hpl had hes hrk h (by simp [Pr.np]) (putB_one hpb) hE0 hal fun O' hO hfr=>?_
       obtain ⟨Bx,x1,x2'⟩:=trPart_sound hput h hnsn hO (fun q=>(hk0 q).elim) hpb
       refine ⟨Bx,x1,?_,fun b hb=>?_⟩
       ·rcases x2' with rfl | ⟨n,hn,rfl,q⟩
        ·simp
        ·obtain ⟨rn,hrn⟩:=hal n hn
         exact h.H.nodup n rn hrn
       ·rcases x2' with rfl | ⟨n,hn,rfl,q⟩
        ·simp at hb
        ·refine ⟨n,hn,hb,?_⟩
         cases kk with
         | zero=>exact (q rfl).elim
         | succ kk=>simp [ow]
      ·cases hE0
     ·cases ht
    ·cases ht
   ·cases ht
  ·cases ht
 ·cases ht
theorem trFz_sound {x:Operand} (hx:(execOp a.eval o).run c.P w=.ok (.value (a.eval x)) w) (ht:trFz cf st cnt o g x=some (p,sm)) (h:At cf c F E a w vs Bs cnt g p sm) (hE:EvP K E cnt p):StepOK c o sm F E a w:=by
 unfold trFz at ht
 split at ht
 ·rename_i t d hd
  split at ht
  ·rename_i hc
   obtain ⟨hg0,hdn⟩:=hc
   split at ht
   ·rename_i n hl
    simp only [qms,qpj] at ht
    obtain ⟨s,hs,rfl,rfl⟩:=ht
    have hn:F (.en n s):=h.needs _ (by simp)
    have hloc:=(h.H.loc t _ (h.needs (.sl t (.is n [])) (by simp))).1 (by simp [gdOK])
    have hev:a.eval (.tmp t)=vs n:=by simp [Act.eval,qag,hloc]
    have hE':E n=E cnt:=by
     have:some (E n)=some (E cnt):=hE
     injection this
    have hfr:Fresh F cnt:=by simpa using h.fresh 0 (by simp [Pr.np])
    have hnc:n≠cnt:=by rintro rfl; exact hfr.1 _ hn
    have hin:inB (some d) c.nt=true:=by rw [h.fits.nt]; simpa [inB] using hdn
    rw [hev] at hx
    have H1:=h.H.put (m:=cnt) (s:=s) (v:=vs n) (B:=Bs n) (dst:=some d) (ns:=[]) (w':=w) hfr hin [n] (Agr.refl _ _) rfl rfl rfl
     (by
      rw [← hE']
      refine Own.ext (Agr.refl (fun _=>False) _) (fun _ _ q=>q.elim) ?_ _ _ _ _ (fun _ _ q=>q) (h.H.own n s hn)
      rintro b _ (⟨n1,s1,q1,_,q3⟩ | q)
      ·exact ⟨n1,s1,q1,q3⟩
      ·exact ⟨n,s,hn,q⟩) (h.H.nodup n s hn) (fun b hb=>.inl ⟨n,s,hn,by simp,hb⟩) h.g
    refine StepOK.of_value hx ⟨upd vs cnt (vs n),upd Bs cnt (Bs n),?_⟩
    rw [hd]
    subst hg0
    refine H1.more2 ?_ ?_
    ·intro n' s'
     simp only [next,one,qmn,List.mem_map,qnm,or_false]
     constructor
     ·rintro (q | q | q | ⟨_,_,q⟩)
      ·exact .inl q
      ·exact .inr (.inl q)
      ·cases q
      ·cases q
     ·rintro (q | q | q)
      ·exact .inl q
      ·exact .inr (.inl q)
      ·cases q
    ·intro t' l' hf
     rcases hf with ⟨q1,q2⟩ | q
     ·exact .inl (.inl ⟨q1,q2⟩)
     ·simp only [qmn,List.mem_map] at q
      rcases q with q | q | ⟨⟨u,gu⟩,hu,q⟩
      ·cases q
      ·exact .inl (.inr (by simp [one,q]))
      ·injection q with q1 q2
       subst q1 q2
       have hud:u≠d:=by have:=(List.mem_filter.1 hu).2; simpa using this
       have hf0:F (.sl u (.is n gu)):=h.needs _ (by simp only [qma,List.mem_map]; exact .inr ⟨(u,gu),hu,rfl⟩)
       have:=H1.loc u (.is n gu) (.inl ⟨hf0,by simpa using hud⟩)
       right
       refine ⟨fun hg=>?_,this.2⟩
       have h1:=this.1 hg
       rw [upd_ne vs _ hnc] at h1
       rw [upd_same]; exact h1
   ·cases ht
  ·cases ht
 ·cases ht
end
end Go.Cat
namespace Go.Cat
def zero1 (P:Program) (t:TypeId):Option D:=match P.info? t with
 | some i=>match i.zero with
  | some z=>match constD z with
   | some d=>some d
   | none=>match z with
    | .nilFunc=>some .u
    | _=>none
  | none=>none
 | none=>none
def isOf (st:List Fact) (t:Nat):Option Nat:=match findSl st t with
 | some (.is n [])=>some n
 | _=>none
def fbOf:List Fact→Nat→Option (Nat×List Nat)
 | [],_=>none
 | .sl t (.fb f ns [])::r,u=>if t=u then some (f,ns) else fbOf r u
 | _::r,u=>fbOf r u
def fbSlot:List Fact→Nat→List Nat→Option Nat
 | [],_,_=>none
 | .sl t (.fb f ns [])::r,f',ns'=>if f=f'∧ns=ns' then some t else fbSlot r f' ns'
 | _::r,f',ns'=>fbSlot r f' ns'
def slot1 (st:List Fact) (n:Nat):Option Nat:=((slotsOf st n).find? fun x=>x.2 == []&&isOf st x.1 == some n).map (·.1)
section
variable (cf:CF) (sg:Nat→Option Sg) (st:List Fact) (cnt:Nat) (o:Oper) (g:Gd)
def trAlP (k:Nat) (t:TypeId):Option (Pr×Sm):=
 (zero1 cf.P t).bind fun d=>if inB o.dst cf.nt=true∧g=[]∧(k == 0 || d.flat || isNilD d)=true then
  some (.cs (.b (ow k)) (.g [d]),⟨[],[],one cnt (.b (ow k)) o.dst (.is cnt g)⟩) else none
def trBxP (k:Nat) (t:TypeId) (x:Operand):Option (Pr×Sm):=
 (trPart cf st g k x).bind fun a=>if inB o.dst cf.nt=true∧g=[] then
  some (.bg k [a.1],⟨a.2.2,a.2.1,one cnt (.b (ow k)) o.dst (.is cnt g)⟩) else none
def trLb (k:Nat) (t:TypeId) (x:Operand):Option (Pr×Sm):=
 match x,o.dst with
 | .tmp s,some d=>if d<cf.nt∧plain1 cf.P t=true then match findSl st s with
  | some (.is r g')=>if g'.isPrefixOf g then match findEn st r with
   | some (.b es)=>
    if es=.v then some (.gt (.e r) [.k 0],⟨[.sl s (.is r g'),.en r (.b es)],[],one cnt .v (some d) (.is cnt g)⟩)
    else if k=1 then
     if g=[]∧es.lst=true then some (.tk r,⟨[.sl s (.is r g'),.en r (.b es)]++((slotsOf st r).filter fun y=>y.1 != d).map (fun y=>.sl y.1 (.is r y.2)),[r],
      .en cnt es::.en (cnt+1) (.b es)::.sl d (.is cnt [])::((slotsOf st r).filter fun y=>y.1 != d).map fun y=>.sl y.1 (.is (cnt+1) y.2)⟩)
     else none
    else some (.gt (.e r) [.k 0],⟨[.sl s (.is r g'),.en r (.b es)],[],[.sl d (.ip r [.k 0] cnt g)]⟩)
   | _=>none
   else none
  | _=>none
  else none
 | _,_=>none
def trSp (t:TypeId) (x v:Operand):Option (Pr×Sm):=
 match x with
 | .tmp s=>if g=[]∧o.dst=none∧plain1 cf.P t=true then match findSl st s with
  | some (.is r [])=>match findEn st r with
   | some (.b es)=>(trPut cf st g es v).bind fun a=>
     if r∉a.2.1 then some (.up r [.k 0] a.1,⟨[.sl s (.is r []),.en r (.b es)]++(a.2.2++((slotsK st 0 r).map fun x=>.sl x.1 (.is r x.2))++(awSlots st 0 r [.k 0]).map fun x=>.sl x.1 x.2.1),r::a.2.1,
      .en cnt (.b es)::((slotsK st 0 r).map fun x=>.sl x.1 (.is cnt x.2))++(awSlots st 0 r [.k 0]).map fun x=>.sl x.1 (.aw cnt [x.2.2] [])⟩)
     else none
   | _=>none
  | _=>none
  else none
 | _=>none
def trSc (t:TypeId) (x v:Operand):Option (Pr×Sm):=
 match x,v with
 | .tmp s,.tmp u=>if g=[]∧o.dst=none∧plain1 cf.P t=true then match findSl st s,findSl st u with
  | some (.is r []),some (.fv f ns [])=>if findEn st r=some (.b .v) then
    some (.cb r,⟨[.sl s (.is r []),.sl u (.fv f ns []),.en r (.b .v)]++(slotsOf st r).map (fun y=>.sl y.1 (.is r y.2)),[r],
     .en cnt .v::.sl s (.fb f (ns.map fun n=>if n=r then cnt else n) [])::(slotsOf st r).map fun y=>.sl y.1 (.is cnt y.2)⟩)
   else none
  | _,_=>none
  else none
 | _,_=>none
def trLc (t:TypeId) (x:Operand):Option (Pr×Sm):=
 match x,o.dst with
 | .tmp s,some d=>if d<cf.nt∧plain1 cf.P t=true∧g=[]∧d≠s then
   match (match cf.cl with
    | some (m,k,cs)=>if m=s then (cs.mapM (isOf st)).map fun ns=>(k,cs,ns) else none
    | none=>none) with
   | some (k,cs,ns)=>if cs.all (fun x=>x != d)=true then some (.nop,⟨(cs.zip ns).map fun x=>.sl x.1 (.is x.2 []),[],[.sl d (.fv (cf.fid k) ns []),.sl s (.fb (cf.fid k) ns [])]⟩) else none
   | none=>(fbOf st s).map fun r=>(.nop,⟨[.sl s (.fb r.1 r.2 [])],[],[.sl d (.fv r.1 r.2 [])]⟩)
  else none
 | _,_=>none
def tmpOf:Operand→Option Nat
 | .tmp t=>some t
 | _=>none
def trMf (fn:Fn) (first captured:List Operand):Option (Pr×Sm):=
 match fn,first,o.dst with
 | .func f,[],some d=>if d<cf.nt∧g=[] then (captured.mapM fun x=>(tmpOf x).bind fun t=>(isOf st t).map fun n=>(t,n)).map fun l=>
   (.nop,⟨l.map fun x=>.sl x.1 (.is x.2 []),[],[.sl d (.fv f (l.map (·.2)) [])]⟩)
  else none
 | _,_,_=>none
def trCf (x:Operand) (k:Nat) (xs:List Operand):Option (Pr×Sm):=
 match x with
 | .tmp t=>match findSl st t with
  | some (.fv f ns [])=>if cf.fid k=f then (ns.mapM (slot1 st)).bind fun us=>(fbSlot st f ns).bind fun um=>(ns.findIdx? fun n=>st.contains (.sl um (.is n []))).bind fun j=>
    match ns[j]?,trCallTo cf sg st cnt o g k (xs++us.map .tmp) (some (xs.length+j,k,(List.range ns.length).map (xs.length+·))) with
    | some nj,some (p,sm)=>some (p,{ sm with needs:=([.sl t (.fv f ns []),.sl um (.fb f ns []),.sl um (.is nj [])]++(us.zip ns).map fun x=>.sl x.1 (.is x.2 []))++sm.needs })
    | _,_=>none
   else none
  | _=>none
 | _=>none
end
theorem zero1_spec {P:Program} {t:TypeId} {d:D} (h:zero1 P t=some d):∃ i z,P.info? t=some i∧i.zero=some z∧z.cells=#[z]∧(constD z=some d∨d=.u):=by
 unfold zero1 at h
 split at h
 ·rename_i i hi
  split at h
  ·rename_i z hz
   split at h
   ·rename_i d' hd
    injection h with h; subst h
    refine ⟨i,z,hi,hz,?_,.inl hd⟩
    cases z <;> simp_all [constD,Value.cells]
   ·split at h
    ·injection h with h; subst h
     exact ⟨i,_,hi,hz,rfl,.inr rfl⟩
    ·cases h
  ·cases h
 ·cases h
theorem mapM_mem {α β:Type} {f:α→Option β}:∀ {l:List α} {r:List β},l.mapM f=some r→l.length=r.length∧∀ (j:Nat) (x:α),l[j]?=some x→∃ y,r[j]?=some y∧f x=some y
 | [],r,h=>by simp at h; subst h; simp
 | a::l,r,h=>by
  simp only [List.mapM_cons,Option.bind_eq_bind,qbs,Option.pure_def,qsj] at h
  obtain ⟨b,h1,bs,h2,rfl⟩:=h
  obtain ⟨q1,q2⟩:=mapM_mem h2
  refine ⟨by simp [q1],fun j x hj=>?_⟩
  cases j with
  | zero=>simp at hj; subst hj; exact ⟨b,by simp,h1⟩
  | succ j=>simpa using q2 j x (by simpa using hj)
theorem zip_get {α β:Type} {l:List α} {r:List β} {j:Nat} {x:α} {y:β} (h1:l[j]?=some x) (h2:r[j]?=some y):(x,y)∈l.zip r:=by
 rw [List.mem_iff_getElem?]
 exact ⟨j,by simp [List.getElem?_zip_eq_some,h1,h2]⟩
section
variable {cf:CF} {sg:Nat→Option Sg} {c:Cx} {F:Fact→Prop} {E:Nat→D} {a:Act} {w:World} {vs:Nat→Value} {Bs:Nat→List Nat} {cnt:Nat} {g:Gd} {sm:Sm} {st:List Fact} {o:Oper} {p:Pr}
 {K:Nat→List D→List D→Prop}
theorem trAlP_sound {k:Nat} {t:TypeId} (ho:o.op=.alloc t) (ht:trAlP cf cnt o g k t=some (p,sm)) (h:At cf c F E a w vs Bs cnt g p sm) (hE:EvP K E cnt p):StepOK c o sm F E a w:=by
 unfold trAlP at ht
 simp only [qbs] at ht
 obtain ⟨d,hd,ht⟩:=ht
 split at ht
 ·rename_i hc
  obtain ⟨hin,hg0,hall⟩:=hc
  simp only [qsj,qpj] at ht
  obtain ⟨rfl,rfl⟩:=ht
  obtain ⟨i,z,z1,z2,z3,z4⟩:=zero1_spec hd
  have hP:c.P=cf.P:=h.fits.P
  have hrun:(execOp a.eval o).run c.P w=.ok (.value (.pointer (some ⟨w.heap.size,0,none⟩))) (w.alloc (.cells #[z] t)):=by
   simp only [execOp,ho]
   refine run_v ?_
   have:=run_alloc (P:=c.P) (w:=w) (t:=t) (i:=i) (z:=z) (by rw [hP]; exact z1) z2
   rw [z3] at this
   exact this
  have hE':D.g [d]=E cnt:=by
   have:some (D.g [d])=some (E cnt):=hE
   injection this
  refine StepOK.of_value hrun ⟨upd vs cnt (.pointer (some ⟨w.heap.size,0,none⟩)),upd Bs cnt [w.heap.size],?_⟩
  refine h.H.put (by simpa using h.fresh 0 (by simp [Pr.np])) (by rw [h.fits.nt]; exact hin) [] (agr_alloc _ _ _) rfl rfl rfl ?_ (by simp) (by simp) h.g
  rw [← hE']
  simp only [Own]
  refine ⟨[d],w.heap.size,#[z],t,(0,0),[],rfl,rfl,rfl,heap_alloc_new w _,rfl,rfl,?_⟩
  simp only [Each]
  refine ⟨[],[],rfl,?_,rfl⟩
  simp only [Bool.or_eq_true,beq_iff_eq] at hall
  rcases z4 with q | rfl
  ·refine Own.of_const q ?_
   rcases hall with (q | q) | q
   ·exact .inl q
   ·exact .inr (.inl q)
   ·exact .inr (.inr q)
  ·have hk:k=0:=by
    rcases hall with (q | q) | q
    ·exact q
    ·simp [D.flat] at q
    ·simp [isNilD] at q
   subst hk
   simp only [ow,Own,Rd]
   exact ⟨trivial,trivial⟩
 ·cases ht
theorem trBxP_sound {k:Nat} {t:TypeId} {x:Operand} (ho:o.op=.box t x) (ht:trBxP cf st cnt o g k t x=some (p,sm)) (h:At cf c F E a w vs Bs cnt g p sm) (hE:EvP K E cnt p):StepOK c o sm F E a w:=by
 unfold trBxP at ht
 simp only [qbs] at ht
 obtain ⟨⟨α,ks,ns⟩,hpart,ht⟩:=ht
 simp only at ht
 split at ht
 ·rename_i hc
  obtain ⟨hin,hg0⟩:=hc
  simp only [qsj,qpj] at ht
  obtain ⟨rfl,rfl⟩:=ht
  have hE0:(if ([α].map fun x=>(ev E x.1,x.2)).all (putB k)=true then some (D.g ([α].map fun x=>ev E x.1)) else none)=some (E cnt):=hE
  split at hE0
  ·rename_i hput
   injection hE0 with hE0
   have hp:putB k (ev E α.1,α.2)=true:=by simpa using hput
   have hns:∀ f∈ns,f∈ns:=fun _ h=>h
   have hal:=trPart_alive hpart h hns
   have hO:=Oput_old h.H (ks:=ks) (es:=ow k) (N:=fun _=>False) (fun _ _ q=>q.elim)
   obtain ⟨B,x1,x2⟩:=trPart_sound hpart h hns hO (fun hk=>by
    subst hk
    exact Oput_fr h.H (fun n hn=>hn) hal (fun _ _ _ _ q=>q)) hp
   have hone:=x1.one (putB_one hp)
   have hcells:(a.eval x).cells=#[a.eval x]:=by
    generalize a.eval x=v at hone
    cases v <;> simp_all [Value.cells,Value.oneCell']
   have hrun:(execOp a.eval o).run c.P w=.ok (.value (.pointer (some ⟨w.heap.size,0,none⟩))) (w.alloc (.cells #[a.eval x] t)):=by
    simp only [execOp,ho]
    refine run_v ?_
    rw [run_box,hcells]
   have hBn:∀ b∈B,∃ n r,F (.en n r)∧n∈ks∧b∈Bs n∧ow k≠.v:=by
    intro b hb
    rcases x2 with rfl | ⟨n,hn,rfl,hk⟩
    ·simp at hb
    ·obtain ⟨r,hr⟩:=hal n hn
     refine ⟨n,r,hr,hn,hb,?_⟩
     cases k with
     | zero=>exact (hk rfl).elim
     | succ k=>simp [ow]
   have hnew:w.heap.size∉B:=by
    intro hb
    obtain ⟨n,r,hr,_,hb,_⟩:=hBn _ hb
    have:=Own.blocks_lt r _ _ _ (h.H.own n r hr) _ hb
    omega
   have hBnd:B.Nodup:=by
    rcases x2 with rfl | ⟨n,hn,rfl,hk⟩
    ·simp
    ·obtain ⟨r,hr⟩:=hal n hn
     exact h.H.nodup n r hr
   refine StepOK.of_value hrun ⟨upd vs cnt (.pointer (some ⟨w.heap.size,0,none⟩)),upd Bs cnt (w.heap.size::B),?_⟩
   refine h.H.put (by simpa using h.fresh 0 (by simp [Pr.np])) (by rw [h.fits.nt]; exact hin) ks (agr_alloc _ _ _) rfl rfl rfl ?_ (List.nodup_cons.2 ⟨hnew,hBnd⟩) (fun b hb=>?_) h.g
   ·rw [← hE0]
    simp only [List.map_cons,List.map_nil,Own]
    refine ⟨[ev E α.1],w.heap.size,#[a.eval x],t,(0,0),B,rfl,rfl,rfl,heap_alloc_new w _,rfl,rfl,?_⟩
    simp only [Each]
    refine ⟨B,[],by simp,?_,rfl⟩
    refine Own.ext (agr_alloc w _ (fun _=>False)) (fun _ _ q=>q.elim) ?_ _ _ _ _ (fun _ _ q=>q) x1
    rintro b hb (q | q)
    ·exact .inl q
    ·rcases qmn.1 q with rfl | q
     ·omega
     ·obtain ⟨n,r,hr,hn,hbn,hkv⟩:=hBn b q
      exact .inr (.inl ⟨hkv,n,hn,⟨r,hr⟩,hbn⟩)
   ·rcases qmn.1 hb with rfl | hb
    ·exact .inr (Nat.le_refl _)
    ·obtain ⟨n,r,hr,hn,hbn,_⟩:=hBn b hb
     exact .inl ⟨n,r,hr,hn,hbn⟩
  ·cases hE0
 ·cases ht
theorem Own.nil_lst {fid:Nat→Nat} {h:Array Obj} {O X:Nat→Prop} {s:Sh} (hs:s.lst=true) (v:Value):Own fid h O X s .u v []:=by
 cases s <;> simp [Own,Rd,Sh.lst] at hs ⊢
theorem trLb_sound {k:Nat} {t:TypeId} {x:Operand} (ho:o.op=.load t x) (ht:trLb cf st cnt o g k t x=some (p,sm)) (h:At cf c F E a w vs Bs cnt g p sm) (hE:EvP K E cnt p):StepOK c o sm F E a w:=by
 unfold trLb at ht
 split at ht
 ·rename_i s d hd
  split at ht
  ·rename_i hc
   obtain ⟨hdn,hpl⟩:=hc
   have hP:c.P=cf.P:=h.fits.P
   have hin:inB (some d) c.nt=true:=by rw [h.fits.nt]; simpa [inB] using hdn
   split at ht
   ·rename_i r g' hl
    split at ht
    ·rename_i hg'
     split at ht
     ·rename_i es hes
      -- the box,and what it holds
      have core:Fact.sl s (.is r g')∈sm.needs→Fact.en r (.b es)∈sm.needs→∀ y,getP [0] (E r)=some y→F (.en r (.b es))∧∃ b cs e u B',E r=.g (y::(match E r with | .g (_::ys)=>ys | _=>[]))∧vs r=.pointer (some ⟨b,0,none⟩)∧w.heap[b]?=some (.cells cs e (0,0))∧cs[0]?=some u∧Bs r=b::B'∧
        (∃ B1,(∀ b∈B1,b∈B')∧Own c.fid w.heap (OB F Bs) c.Xb es y u B1∧(E r=.g [y]→B1=B'))∧cs.size=(match E r with | .g ys=>ys.length | _=>0)∧(execOp a.eval o).run c.P w=.ok (.value u) w:=by
       intro hn1 hn2 y hy
       have hF:=h.needs _ hn2
       have hown:=h.H.own r _ hF
       simp only [Own] at hown
       obtain ⟨xs,b,cs,e,fz,B',e1,e2,e3,e4,e5,e6,e7⟩:=hown
       have hfz:fz=(0,0):=e5
       subst hfz
       rw [e1] at hy ⊢
       cases xs with
       | nil=>simp [getP] at hy
       | cons x0 xs=>
        simp [getP] at hy
        subst hy
        have hloc:=(h.H.loc s _ (h.needs _ hn1)).1 (prefix_gd hg' h.g)
        have hev:a.eval (.tmp s)=.pointer (some ⟨b,0,none⟩):=by rw [← e3]; simp [Act.eval,qag,hloc]
        have h0:0<cs.size:=by rw [e6]; simp
        obtain ⟨csl,hcsl⟩:∃ l,cs.toList=l:=⟨_,rfl⟩
        rw [hcsl] at e7
        cases csl with
        | nil=>simp [Each] at e7
        | cons u us=>
         have hu:cs[0]?=some u:=by rw [← Array.getElem?_toList,hcsl]; rfl
         simp only [Each] at e7
         obtain ⟨B1,B2,rfl,q1,q2⟩:=e7
         refine ⟨hF,b,cs,e,u,B1++B2,rfl,e3,e4,hu,e2,⟨B1,fun b hb=>qal _ hb,q1,fun hx=>?_⟩,e6,?_⟩
         ·injection hx with hx
          injection hx with _ hx
          subst hx
          simp only [Each] at q2
          subst q2; simp
         ·refine exec_load ho ?_
          rw [hev]
          exact run_loadAt1 (by rw [hP]; exact hpl) e4 hu
      have gtE:∀ q:Pr,q=.gt (.e r) [.k 0]→p=q→∃ y,getP [0] (E r)=some y∧y=E cnt:=by
       rintro q rfl rfl
       have hE0:(pathD E [.k 0] (E r)).bind known=some (E cnt):=hE
       obtain ⟨y,y1,y2⟩:=qbs.1 hE0
       exact ⟨y,by simpa [pathD,PE.ev] using y1,(known_spec y2).symm⟩
      split at ht
      ·rename_i hv
       simp only [qsj,qpj] at ht
       obtain ⟨rfl,rfl⟩:=ht
       obtain ⟨y,hy,hyE⟩:=gtE _ rfl rfl
       obtain ⟨hF,b,cs,e,u,B',_,_,_,_,_,⟨B1,_,q1,_⟩,_,hrun⟩:=core (by simp) (by simp) y hy
       subst hv hyE
       refine StepOK.of_value hrun ?_
       rw [hd]
       refine h.H.leaf_is (s:=.v) (by simpa using h.fresh 0 (by simp [Pr.np])) hin (same_world w) ?_ [] h.g
       simp only [Own] at q1 ⊢
       exact ⟨trivial,q1.2⟩
      ·split at ht
       ·split at ht
        ·rename_i hv hk hgl
         obtain ⟨hg0,hlst⟩:=hgl
         simp only [qsj,qpj] at ht
         obtain ⟨rfl,rfl⟩:=ht
         obtain ⟨hE1,hE2⟩:tkD (E r)=some (E cnt)∧E (cnt+1)=.g [.u]:=hE
         have hEr:E r=.g [E cnt]:=by
          unfold tkD at hE1
          split at hE1
          ·rename_i y hy; injection hE1 with hE1; rw [hy,hE1]
          ·cases hE1
         obtain ⟨hF,b,cs,e,u,B',_,hvr,hb,hu,hB,⟨B1,hB1,q1,q2⟩,hsz,hrun⟩:=core (by simp) (by simp) (E cnt) (by rw [hEr]; simp [getP])
         obtain rfl:=q2 hEr
         rw [hEr] at hsz
         have hcs:cs.toList=[u]:=by
          have hl:cs.toList.length=1:=by simpa using hsz
          have hu':cs.toList[0]?=some u:=by rw [Array.getElem?_toList]; exact hu
          match hh:cs.toList,hl with
          | [x],_=>rw [hh] at hu'; simp at hu'; rw [hu']
         have fr0:Fresh F cnt:=by simpa using h.fresh 0 (by simp [Pr.np])
         have fr1:Fresh F (cnt+1):=h.fresh 1 (by simp [Pr.np])
         have hrc:r≠cnt:=by rintro rfl; exact fr0.1 _ hF
         have hrc1:r≠cnt+1:=by rintro rfl; exact fr1.1 _ hF
         have hnd:=h.H.nodup r _ hF
         rw [hB] at hnd
         obtain ⟨nd1,nd2⟩:=List.nodup_cons.1 hnd
         subst hg0
         let V:Nat→Value:=upd (upd vs cnt u) (cnt+1) (vs r)
         let W:Nat→List Nat:=upd (upd Bs cnt B1) (cnt+1) [b]
         have hV0:V cnt=u:=by simp only [V]; rw [upd_ne _ _ (by omega),upd_same]
         have hV1:V (cnt+1)=vs r:=by simp only [V]; rw [upd_same]
         have hW0:W cnt=B1:=by simp only [W]; rw [upd_ne _ _ (by omega),upd_same]
         have hW1:W (cnt+1)=[b]:=by simp only [W]; rw [upd_same]
         have hfact:∀ f,f∈(Fact.en cnt es::Fact.en (cnt+1) (.b es)::[Fact.sl d (.is cnt [])])→f=.en cnt es∨f=.en (cnt+1) (.b es)∨f=.sl d (.is cnt []):=by
          intro f hf; simpa using hf
         have nx:∀ n s',(n=cnt∨n=cnt+1)→next F (some d) ⟨[],[r],[.en cnt es,.en (cnt+1) (.b es),.sl d (.is cnt [])]⟩ (.en n s')→(n=cnt∧s'=es)∨(n=cnt+1∧s'=.b es):=by
          rintro n s' hn (⟨q,_⟩ | q)
          ·rcases hn with rfl | rfl
           ·exact (fr0.1 _ q).elim
           ·exact (fr1.1 _ q).elim
          ·rcases hfact _ q with q | q | q
           ·injection q with q1 q2; exact .inl ⟨q1,q2⟩
           ·injection q with q1 q2; exact .inr ⟨q1,q2⟩
           ·cases q
         have H1:HoldsG c (next F (some d) ⟨[],[r],[.en cnt es,.en (cnt+1) (.b es),.sl d (.is cnt [])]⟩) E (a.put (some d) u) w V W:=by
          refine HoldsG.step (fun n=>n=cnt∨n=cnt+1) (fun n=>n∈[r]) (fun _=>False) (some d) h.H (fun n hn=>by simp only [V]; rw [upd_ne _ _ (fun e=>hn (.inr e)),upd_ne _ _ (fun e=>hn (.inl e))])
           (fun n hn=>by simp only [W]; rw [upd_ne _ _ (fun e=>hn (.inr e)),upd_ne _ _ (fun e=>hn (.inl e))])
           (fun t l hl n hn q=>by
            rcases q with rfl | rfl
            ·exact fr0.2 t l hl hn
            ·exact fr1.2 t l hl hn)
           (fun _ q=>q.elim) (Agr.refl _ _) rfl rfl rfl (fun t ht=>put_get ht) put_size put_defers ?_ ?_ ?_ ?_ ?_ ?_
          ·rintro f (⟨h1,h2⟩ | q)
           ·left; refine ⟨h1,?_⟩; cases f <;> exact h2
           ·right
            rcases hfact _ q with rfl | rfl | rfl
            ·exact .inl rfl
            ·exact .inr rfl
            ·rfl
          ·intro n s' hn hf
           have hOO:∀ b',b' < w.heap.size→(OBk F Bs (fun n=>n∈[r]) b'∨∃ m,(m=cnt∨m=cnt+1)∧b'∈W m)→OB F Bs b':=by
            rintro b' _ (⟨n1,s1,z1,_,z3⟩ | ⟨m,hm,hb'⟩)
            ·exact ⟨n1,s1,z1,z3⟩
            ·refine ⟨r,_,hF,?_⟩
             rw [hB]
             rcases hm with rfl | rfl
             ·rw [hW0] at hb'; exact qmc _ hb'
             ·rw [hW1] at hb'; simp at hb'; subst hb'; simp
           rcases nx n s' hn hf with ⟨rfl,rfl⟩ | ⟨rfl,rfl⟩
           ·rw [hV0,hW0]
            exact Own.ext (Agr.refl (fun _=>False) _) (fun _ _ q=>q.elim) hOO _ _ _ _ (fun _ _ q=>q) q1
           ·rw [hV1,hW1,hE2,hvr]
            simp only [Own]
            refine ⟨[.u],b,cs,e,(0,0),[],rfl,rfl,rfl,hb,rfl,by simpa using hsz,?_⟩
            rw [hcs]
            simp only [Each]
            exact ⟨[],[],rfl,Own.nil_lst hlst u,rfl⟩
          ·intro n s' hn hf
           rcases nx n s' hn hf with ⟨rfl,rfl⟩ | ⟨rfl,rfl⟩
           ·rw [hW0]; exact nd2
           ·rw [hW1]; simp
          ·intro n s' hn hf b' hb'
           refine .inl ⟨r,_,hF,by simp,?_⟩
           rw [hB]
           rcases nx n s' hn hf with ⟨rfl,rfl⟩ | ⟨rfl,rfl⟩
           ·rw [hW0] at hb'; exact qmc _ hb'
           ·rw [hW1] at hb'; simp at hb'; subst hb'; simp
          ·intro n s' m r' hn hm hf hg hne b' hb' hb2
           rcases nx n s' hn hf with ⟨rfl,rfl⟩ | ⟨rfl,rfl⟩ <;> rcases nx m r' hm hg with ⟨rfl,rfl⟩ | ⟨rfl,rfl⟩
           ·exact hne rfl
           ·rw [hW0] at hb'; rw [hW1] at hb2; simp at hb2; subst hb2; exact nd1 hb'
           ·rw [hW1] at hb'; rw [hW0] at hb2; simp at hb'; subst hb'; exact nd1 hb2
           ·exact hne rfl
          ·intro t' l' ht' hf
           rcases hf with ⟨_,q⟩ | q
           ·exact (q ht').elim
           ·rcases hfact _ q with q | q | q
            ·cases q
            ·cases q
            ·injection q with q1 q2
             subst q1 q2
             refine ⟨fun _=>?_,fun q=>(q (by simp [gdOK])).elim⟩
             rw [hV0]
             exact put_self (by rw [h.H.size,h.fits.nt]; exact hdn)
         refine StepOK.of_value hrun ⟨V,W,?_⟩
         rw [hd]
         refine H1.more2 ?_ ?_
         ·intro n' s'
          simp only [next,qmn,List.mem_map,qnm,or_false]
          constructor
          ·rintro (q | q | q | q | ⟨_,_,q⟩)
           ·exact .inl q
           ·exact .inr (.inl q)
           ·exact .inr (.inr (.inl q))
           ·cases q
           ·cases q
          ·rintro (q | q | q | q)
           ·exact .inl q
           ·exact .inr (.inl q)
           ·exact .inr (.inr (.inl q))
           ·cases q
         ·intro t' l' hf
          rcases hf with ⟨q1,q2⟩ | q
          ·exact .inl (.inl ⟨q1,q2⟩)
          ·simp only [qmn,List.mem_map] at q
           rcases q with q | q | q | ⟨⟨u',gu⟩,hu',q⟩
           ·cases q
           ·cases q
           ·exact .inl (.inr (by simp [q]))
           ·injection q with q1 q2
            subst q1 q2
            have hud:u'≠d:=by have:=(List.mem_filter.1 hu').2; simpa using this
            have hf0:F (.sl u' (.is r gu)):=h.needs _ (by simp only [qma,List.mem_map]; exact .inr ⟨(u',gu),hu',rfl⟩)
            have:=H1.loc u' (.is r gu) (.inl ⟨hf0,by simpa using hud⟩)
            right
            refine ⟨fun hg=>?_,this.2⟩
            have h1:=this.1 hg
            have hVr:V r=vs r:=by simp only [V]; rw [upd_ne _ _ hrc1,upd_ne _ _ hrc]
            rw [hVr] at h1
            rw [hV1]; exact h1
        ·cases ht
       ·simp only [qsj,qpj] at ht
        obtain ⟨rfl,rfl⟩:=ht
        obtain ⟨y,hy,hyE⟩:=gtE _ rfl rfl
        obtain ⟨hF,b,cs,e,u,B',_,hvr,hb,hu,_,_,_,hrun⟩:=core (by simp) (by simp) y hy
        have hfr:Fresh F cnt:=by simpa using h.fresh 0 (by simp [Pr.np])
        have hnc:r≠cnt:=by rintro rfl; exact hfr.1 _ hF
        refine StepOK.of_value hrun ⟨upd vs cnt u,upd Bs cnt [],?_⟩
        rw [hd]
        refine h.H.leaf0 hfr (by rw [h.fits.nt]; exact hdn) (same_world w) fun tm htm=>?_
        intro _ _
        refine ⟨[0],b,0,y,by simp [pathE,PE.ev],hy,?_,?_⟩
        ·rw [upd_same,upd_ne vs u hnc,hvr]
         simp only [Wk]
         exact ⟨b,0,cs,e,(0,0),u,.inr ⟨rfl,rfl⟩,hb,hu,.inl ⟨trivial,rfl,rfl,rfl⟩⟩
        ·rw [upd_same]; exact htm
     ·cases ht
    ·cases ht
   ·cases ht
  ·cases ht
 ·cases ht
theorem StepOK.less {F':Fact→Prop} {sm':Sm} (hF:∀ f,F f→F' f) (hen:∀ n s,F' (.en n s)→F (.en n s)) (hk:sm.kill=sm'.kill) (ha:sm.adds=sm'.adds) (h:StepOK c o sm' F' E a w):StepOK c o sm F E a w:=by
 intro nxt Q hn
 refine h nxt Q fun a' w' ⟨vs',Bs',H⟩=>hn a' w' ⟨vs',Bs',?_⟩
 refine H.more ?_ ?_
 ·intro n s
  simp only [next,hk,ha]
  constructor
  ·rintro (⟨q1,q2⟩ | q)
   ·exact .inl ⟨hF _ q1,q2⟩
   ·exact .inr q
  ·rintro (⟨q1,q2⟩ | q)
   ·exact .inl ⟨hen _ _ q1,q2⟩
   ·exact .inr q
 ·intro t l hf
  refine .inl ?_
  rcases hf with ⟨q1,q2⟩ | q
  ·exact .inl ⟨hF _ q1,q2⟩
  ·exact .inr (ha ▸ q)
theorem trSp_sound {t:TypeId} {x v:Operand} (ho:o.op=.store t x v) (ht:trSp cf st cnt o g t x v=some (p,sm)) (h:At cf c F E a w vs Bs cnt g p sm) (hE:EvP K E cnt p):StepOK c o sm F E a w:=by
 unfold trSp at ht
 split at ht
 ·rename_i s
  split at ht
  ·rename_i hc
   obtain ⟨hg0,hdst,hpl⟩:=hc
   split at ht
   ·rename_i r hl
    split at ht
    ·rename_i es hes
     simp only [qbs] at ht
     obtain ⟨⟨α,ks,ns⟩,hput,ht⟩:=ht
     simp only at ht
     split at ht
     ·rename_i hrk
      simp only [qsj,qpj] at ht
      obtain ⟨rfl,rfl⟩:=ht
      have hE0:(if (ev E α).one=true then ([PE.k 0].mapM (PE.ev E)).bind fun is=>setP is (E r) (ev E α) else none)=some (E cnt):=hE
      split at hE0
      ·rename_i hone
       have hr:F (.en r (.b es)):=h.needs _ (by simp)
       have hsl:F (.sl s (.is r [])):=h.needs _ (by simp)
       -- the slot as the address of the cell
       let F':Fact→Prop:=fun f=>F f∨f=.sl s (.aw r [.k 0] [])
       have hen:∀ n s',F' (.en n s')→F (.en n s'):=by
        rintro n s' (q | q)
        ·exact q
        ·cases q
       have hown:=h.H.own r _ hr
       have hloc:=(h.H.loc s _ hsl).1 (by simp [gdOK])
       have haw:LocR w.heap E vs (OB F Bs) (alive F) a.tmps s (.aw r [.k 0] []):=by
        intro _ _
        simp only [Own] at hown
        obtain ⟨xs,b,cs,e,fz,B',e1,e2,e3,e4,e5,e6,e7⟩:=hown
        cases xs with
        | nil=>rw [e1] at hE0; simp [PE.ev,setP] at hE0
        | cons x0 xs=>
         have h0:0<cs.size:=by rw [e6]; simp
         refine ⟨[0],b,0,x0,cs[0],by simp [pathE,PE.ev],by rw [e1]; simp [getP],?_,by rw [hloc,e3]⟩
         simp only [Wk]
         exact ⟨b,0,cs,e,fz,cs[0],.inr ⟨e3,rfl⟩,e4,by simp [h0],.inl ⟨trivial,rfl,rfl,rfl⟩⟩
       have H':HoldsG c F' E a w vs Bs:=h.H.more2 (fun n s'=>⟨hen n s',.inl⟩) (by
        rintro t' l' (q | q)
        ·exact .inl q
        ·injection q with q1 q2; subst q1 q2; exact .inr haw)
       have h':At cf c F' E a w vs Bs cnt g (.up r [.k 0] α) ⟨[.sl s (.aw r [.k 0] []),.en r (.b es)]++(ns++((slotsK st 0 r).map fun x=>Fact.sl x.1 (.is r x.2))++(awSlots st 0 r [.k 0]).map fun x=>Fact.sl x.1 x.2.1),r::ks,
         .en cnt (.b es)::((slotsK st 0 r).map fun x=>Fact.sl x.1 (.is cnt x.2))++(awSlots st 0 r [.k 0]).map fun x=>Fact.sl x.1 (.aw cnt [x.2.2] [])⟩:=by
        refine ⟨h.fits,H',fun j hj=>?_,fun f hf=>?_,h.g,h.fix⟩
        ·have:=h.fresh j hj
         refine ⟨fun s' q=>this.1 s' (hen _ _ q),?_⟩
         rintro t' l' (q | q)
         ·exact this.2 t' l' q
         ·injection q with q1 q2; subst q1 q2
          simp only [Loc.ments,List.mem_singleton]
          rintro rfl
          exact this.1 _ hr
        ·simp only [List.cons_append,List.nil_append,qmn] at hf
         rcases hf with rfl | rfl | hf
         ·exact .inr rfl
         ·exact .inl hr
         ·exact .inl (h.needs _ (by simp only [List.cons_append,List.nil_append,qmn]; exact .inr (.inr hf)))
       have hnsn:∀ f∈ns,f∈([.sl s (.aw r [.k 0] []),.en r (.b es)]++(ns++((slotsK st 0 r).map fun x=>Fact.sl x.1 (.is r x.2))++(awSlots st 0 r [.k 0]).map fun x=>Fact.sl x.1 x.2.1)):=fun f hf=>by simp [hf]
       have hal:∀ n∈ks,alive F' n:=by
        obtain ⟨_,_,_,k⟩:=trPut_sound (O':=fun _=>False) hput h' hnsn (fun _ _ q=>q.elim) (fun _ _ _ _ _ q=>q)
        exact k
       refine StepOK.less (F':=F') (sm':=⟨[.sl s (.aw r [.k 0] []),.en r (.b es)]++(ns++((slotsK st 0 r).map fun x=>Fact.sl x.1 (.is r x.2))++(awSlots st 0 r [.k 0]).map fun x=>Fact.sl x.1 x.2.1),r::ks,_⟩) (fun f q=>.inl q) hen rfl rfl (store_core (p:=.up r [.k 0] α) (st:=st) (k:=0) (es:=es) (α:=α) (l:=.aw r [.k 0] []) (q:=[.k 0]) ho hg0 hdst hpl rfl (by simp [Sh.under]) hrk h' (by simp [Pr.np]) hone hE0 hal fun O' hO hfr=>?_)
       obtain ⟨Bx,x1,x2',_⟩:=trPut_sound hput h' hnsn hO hfr
       refine ⟨Bx,x1,?_,fun b hb=>?_⟩
       ·rcases x2' with ⟨_,rfl⟩ | ⟨n,rfl,rfl,q⟩
        ·simp
        ·obtain ⟨rn,hrn⟩:=hal n (by simp)
         exact H'.nodup n rn hrn
       ·rcases x2' with ⟨_,rfl⟩ | ⟨n,rfl,rfl,q⟩
        ·simp at hb
        ·exact ⟨n,by simp,hb,q⟩
      ·cases hE0
     ·cases ht
    ·cases ht
   ·cases ht
  ·cases ht
 ·cases ht
theorem trSc_sound {t:TypeId} {x v:Operand} (ho:o.op=.store t x v) (ht:trSc cf st cnt o g t x v=some (p,sm)) (h:At cf c F E a w vs Bs cnt g p sm) (hE:EvP K E cnt p):StepOK c o sm F E a w:=by
 unfold trSc at ht
 split at ht
 ·rename_i s u
  split at ht
  ·rename_i hc
   obtain ⟨hg0,hdst,hpl⟩:=hc
   split at ht
   ·rename_i r f ns hl1 hl2
    split at ht
    ·rename_i hr0
     simp only [qsj,qpj] at ht
     obtain ⟨rfl,rfl⟩:=ht
     have hP:c.P=cf.P:=h.fits.P
     have hr:F (.en r (.b .v)):=h.needs _ (by simp)
     have hown:=h.H.own r _ hr
     simp only [Own] at hown
     obtain ⟨xs,b,cs,e,fz,B',e1,e2,e3,e4,e5,e6,e7⟩:=hown
     have hfz:fz=(0,0):=e5
     subst hfz
     have hloc:=(h.H.loc s _ (h.needs (.sl s (.is r [])) (by simp))).1 (by simp [gdOK])
     have hev:a.eval (.tmp s)=.pointer (some ⟨b,0,none⟩):=by rw [← e3]; simp [Act.eval,qag,hloc]
     have hlv:=h.H.loc u _ (h.needs (.sl u (.fv f ns [])) (by simp)) (by simp [gdOK])
     have hevv:a.eval (.tmp u)=.func (.func f) #[] (ns.map vs).toArray:=by simp [Act.eval,qag,hlv]
     have hE0:cbD (E r)=some (E cnt):=hE
     rw [e1] at hE0
     have hB'0:B'=[]:=(eachV.1 e7).1
     subst hB'0
     -- the box has one cell
     have hfr:Fresh F cnt:=by simpa using h.fresh 0 (by simp [Pr.np])
     have hrc:r≠cnt:=by rintro rfl; exact hfr.1 _ hr
     have hxs:xs≠[]:=by rintro rfl; simp [cbD] at hE0
     have hE':E cnt=.u:=by
      cases xs with
      | nil=>exact (hxs rfl).elim
      | cons x xs=>simp [cbD] at hE0; exact hE0.symm
     have hcsz:0<cs.size:=by
      rw [e6]
      cases xs with
      | nil=>exact (hxs rfl).elim
      | cons x xs=>simp
     have h0:cs[0]?=some cs[0]:=by simp [hcsz]
     have hrun:(execOp a.eval o).run c.P w=.ok .skip (w.setRow b (cs.setIfInBounds 0 (.func (.func f) #[] (ns.map vs).toArray))):=by
      simp only [execOp,ho]
      rw [Sem.run_bind,hev,hevv,run_storeAt1 (by rw [hP]; exact hpl) e4 h0 (by simp [Value.oneCell'])]
      rfl
     have hheap':=setRow_heap w b cs (cs.setIfInBounds 0 (.func (.func f) #[] (ns.map vs).toArray)) e (0,0) e4
     have hagr:Agr (fun x=>x=b) w.heap (w.setRow b (cs.setIfInBounds 0 (.func (.func f) #[] (ns.map vs).toArray))).heap:=⟨by simp,fun x _ hx=>setRow_other w b x _ hx⟩
     have hvr:upd vs cnt (vs r) r=vs r:=upd_ne vs _ hrc
     have hnm:∀ n∈ns,n≠cnt:=by
      rintro n hn rfl
      exact hfr.2 _ _ (h.needs (.sl u (.fv f ns [])) (by simp)) (by simpa [Loc.ments] using hn)
     have H1:=h.H.put (m:=cnt) (s:=.v) (v:=vs r) (B:=[]) (dst:=none) (ns:=[]) hfr (by simp [inB]) [r] (hagr.mono fun x _ hx=>⟨r,_,hr,by simp,by rw [hx,e2]; simp⟩) rfl rfl rfl
      (by rw [hE']; simp only [Own,Rd]; exact ⟨trivial,trivial⟩) (by simp) (by simp) h.g
     refine StepOK.of_skip hrun hdst ⟨upd vs cnt (vs r),upd Bs cnt [],?_⟩
     refine H1.more2 ?_ ?_
     ·intro n' s'
      simp only [next,one,qmn,List.mem_map,qnm,or_false]
      constructor
      ·rintro (q | q | q | ⟨_,_,q⟩)
       ·exact .inl q
       ·exact .inr q
       ·cases q
       ·cases q
      ·rintro (q | q)
       ·exact .inl q
       ·exact .inr (.inl q)
     ·intro t' l' hf
      rcases hf with ⟨q1,_⟩ | q
      ·exact .inl (.inl ⟨q1,by simp⟩)
      ·simp only [qmn,List.mem_map] at q
       rcases q with q | q | ⟨⟨u',gu⟩,hu,q⟩
       ·cases q
       ·injection q with q1 q2
        subst q1 q2
        right
        intro _
        have em:(ns.map fun n=>if n=r then cnt else n).map (upd vs cnt (vs r))=ns.map vs:=by
         rw [List.map_map]
         refine List.map_congr_left fun n hn=>?_
         simp only [Function.comp_def]
         split
         ·rename_i q; rw [upd_same,q]
         ·exact upd_ne vs _ (hnm n hn)
        refine ⟨b,_,e,(0,0),?_,hheap',?_,?_⟩
        ·rw [put_get (by simp)]; rw [hloc,e3]
        ·rw [em]; simp [hcsz]
        ·rintro ⟨n1,s1,⟨q1,q2⟩ | q1,q3⟩
         ·have hn1:n1≠r:=by simpa using q2
          have hn2:n1≠cnt:=by rintro rfl; exact hfr.1 _ q1
          rw [upd_ne Bs _ hn2] at q3
          exact h.H.apart n1 s1 r _ q1 hr hn1 b q3 (by rw [e2]; simp)
         ·simp [one] at q1
          obtain ⟨rfl,rfl⟩:=q1
          rw [upd_same] at q3
          simp at q3
       ·injection q with q1 q2
        subst q1 q2
        have hf0:F (.sl u' (.is r gu)):=h.needs _ (by simp only [qma,List.mem_map]; exact .inr ⟨(u',gu),hu,rfl⟩)
        have:=H1.loc u' (.is r gu) (.inl ⟨hf0,by simp⟩)
        right
        refine ⟨fun hg=>?_,this.2⟩
        have h1:=this.1 hg
        rw [hvr] at h1
        rw [upd_same]; exact h1
    ·cases ht
   ·cases ht
  ·cases ht
 ·cases ht
theorem load_fn {t:TypeId} {s d:Nat} {f:Nat} {ns:List Nat} (ho:o.op=.load t (.tmp s)) (hd:o.dst=some d) (hdn:d<cf.nt) (hds:d≠s) (hpl:plain1 cf.P t=true) (h:At cf c F E a w vs Bs cnt g p sm)
  (hk:sm.kill=[]) (hadds:∀ f',f'∈sm.adds→f'=.sl d (.fv f ns [])∨f'=.sl s (.fb f ns [])) (hl:LocR w.heap E vs (OB F Bs) (alive F) a.tmps s (.fb f ns [])):StepOK c o sm F E a w:=by
 have hP:c.P=cf.P:=h.fits.P
 obtain ⟨b,cs,e,fz,k1,k2,k3,k4⟩:=hl (by simp [gdOK])
 have hev:a.eval (.tmp s)=.pointer (some ⟨b,0,none⟩):=by simp [Act.eval,qag,k1]
 have hrun:(execOp a.eval o).run c.P w=.ok (.value (.func (.func f) #[] (ns.map vs).toArray)) w:=by
  refine exec_load ho ?_
  rw [hev]
  exact run_loadAt1 (by rw [hP]; exact hpl) k2 k3
 refine StepOK.of_value hrun ⟨vs,Bs,?_⟩
 rw [hd]
 have H1:=h.H.slot (d:=d) (u:=.func (.func f) #[] (ns.map vs).toArray) (ns:=[]) (l:=.fv f ns []) (same_world w) (fun _=>put_self (by rw [h.H.size,h.fits.nt]; exact hdn))
 refine H1.more2 ?_ ?_
 ·intro n s'
  simp only [next,hk,List.mem_singleton,qnm,not_false_eq_true,and_true]
  constructor
  ·rintro (q | q)
   ·exact .inl q
   ·rcases hadds _ q with q | q <;> cases q
  ·rintro (q | q)
   ·exact .inl q
   ·cases q
 ·intro t' l' hf
  rcases hf with ⟨q1,q2⟩ | q
  ·exact .inl (.inl ⟨q1,q2⟩)
  ·rcases hadds _ q with q | q
   ·exact .inl (.inr (by simp [q]))
   ·injection q with q1 q2
    subst q1 q2
    right
    intro _
    refine ⟨b,cs,e,fz,?_,k2,k3,?_⟩
    ·rw [put_get (by simpa using Ne.symm hds)]; exact k1
    ·rintro ⟨n1,s1,⟨z1,_⟩ | z1,z3⟩
     ·exact k4 ⟨n1,s1,z1,z3⟩
     ·simp at z1
theorem trLc_sound {t:TypeId} {x:Operand} (ho:o.op=.load t x) (ht:trLc cf st o g t x=some (p,sm)) (h:At cf c F E a w vs Bs cnt g p sm):StepOK c o sm F E a w:=by
 unfold trLc at ht
 split at ht
 ·rename_i s d hd
  split at ht
  ·rename_i hc
   obtain ⟨hdn,hpl,hg0,hds⟩:=hc
   split at ht
   ·rename_i k cs ns hcl
    split at ht
    ·rename_i hcd
     simp only [qsj,qpj] at ht
     obtain ⟨rfl,rfl⟩:=ht
     split at hcl
     ·rename_i m k0 cs0 hcf
      split at hcl
      ·rename_i hms
       subst hms
       simp only [qms,qpj] at hcl
       obtain ⟨ns0,hm,rfl,rfl,rfl⟩:=hcl
       obtain ⟨b,hs,e,fz,vl,f1,f2,f3,f4,f5⟩:=h.fits.cl _ _ _ hcf
       obtain ⟨l1,l2⟩:=mapM_mem hm
       have hvs:cs0.map vl=ns0.map vs:=by
        apply List.ext_getElem?
        intro j
        simp only [List.getElem?_map]
        cases hj:cs0[j]? with
        | none=>
         have:ns0[j]?=none:=by
          rw [List.getElem?_eq_none_iff] at hj ⊢; omega
         rw [this]; rfl
        | some x=>
         obtain ⟨y,hy,_⟩:=l2 j x hj
         rw [hy]
         have hx:=h.fix _ (f2 x (List.mem_of_getElem? hj))
         have hy2:=(h.H.loc x _ (h.needs (.sl x (.is y [])) (List.mem_map.2 ⟨(x,y),zip_get hj hy,rfl⟩))).1 (by simp [gdOK])
         simp only at hx
         rw [hx] at hy2
         simpa using hy2
       have hbl:b<c.w0.heap.size:=lt_of_some f3
       refine load_fn ho hd hdn hds hpl h rfl (fun f' hf=>by simpa using hf) ?_
       intro _
       refine ⟨b,hs,e,fz,h.fix _ f1,(h.H.agr.same b hbl f5).trans f3,by rw [← hvs]; exact f4,?_⟩
       rintro ⟨n,s',q1,q2⟩
       rcases h.H.mine n s' q1 b q2 with q | q
       ·omega
       ·exact f5 q
      ·cases hcl
     ·cases hcl
    ·cases ht
   ·simp only [qms,qpj] at ht
    obtain ⟨⟨f,ns⟩,hf,rfl,rfl⟩:=ht
    exact load_fn ho hd hdn hds hpl h rfl (fun f' hf=>.inl (by simpa using hf)) (h.H.loc s _ (h.needs _ (by simp)))
  ·cases ht
 ·cases ht
theorem trMf_sound {fn:Fn} {first captured:Array Operand} (ho:o.op=.makeFunc fn first captured) (ht:trMf cf st o g fn first.toList captured.toList=some (p,sm)) (h:At cf c F E a w vs Bs cnt g p sm):StepOK c o sm F E a w:=by
 unfold trMf at ht
 split at ht
 ·rename_i f d hfi hd
  split at ht
  ·rename_i hc
   obtain ⟨hdn,hg0⟩:=hc
   simp only [qms,qpj] at ht
   obtain ⟨l,hl,rfl,rfl⟩:=ht
   obtain ⟨l1,l2⟩:=mapM_mem hl
   have hfirst:first=#[]:=by
    apply Array.ext'; simpa using hfi
   have hcap:captured.map a.eval=((l.map (·.2)).map vs).toArray:=by
    apply Array.ext'
    rw [Array.toList_map]
    apply List.ext_getElem?
    intro j
    simp only [List.getElem?_map,List.map_map]
    cases hj:captured.toList[j]? with
    | none=>
     have:l[j]?=none:=by
      rw [List.getElem?_eq_none_iff] at hj ⊢; omega
     simp [this]
    | some x=>
     obtain ⟨y,hy,hxy⟩:=l2 j x hj
     simp only [qbs,qms] at hxy
     obtain ⟨t,ht1,n,hn,rfl⟩:=hxy
     have hx:x=.tmp t:=by
      unfold tmpOf at ht1
      split at ht1
      ·injection ht1 with ht1; rw [ht1]
      ·cases ht1
     subst hx
     have:=(h.H.loc t _ (h.needs (.sl t (.is n [])) (List.mem_map.2 ⟨(t,n),List.mem_of_getElem? hy,rfl⟩))).1 (by simp [gdOK])
     rw [hy]
     simp [Act.eval,qag,this]
   have hrun:(execOp a.eval o).run c.P w=.ok (.value (.func (.func f) #[] ((l.map (·.2)).map vs).toArray)) w:=by
    simp only [execOp,ho]
    refine run_v ?_
    rw [hfirst,hcap]
    simp [Instr.makeFunc]
   refine StepOK.of_value hrun ⟨vs,Bs,?_⟩
   rw [hd]
   exact h.H.slot (same_world w) (fun _=>put_self (by rw [h.H.size,h.fits.nt]; exact hdn))
  ·cases ht
 ·cases ht
theorem exec_cf {o:Oper} {x:Operand} {f:FuncId} {args:Array Operand} {ts:Array TypeId} {caps:List Value} (ho:o.op=.call { callee:=.value x,args,argTypes:=ts }) (P:Program) (w:World) (a:Act) (hx:a.eval x=.func (.func f) #[] caps.toArray):
  (execOp a.eval o).run P w=(callFunc f (args.toList.map a.eval++caps).toArray).run P w:=by
 simp only [execOp,ho]
 rw [Sem.run_bind]
 have e:resolve a.eval { callee:=.value x,args,argTypes:=ts } o.type=(Pure.pure { target:=.fn (.func f) caps.toArray,args:=#[]++args.map a.eval }:Sem Deferred):=by
  simp only [resolve,hx,Deferred.ofValue]
 rw [e]
 simp only [Sem.run_pure,Result.andThen]
 show (invoke (.fn (.func f) caps.toArray) (#[]++args.map a.eval)).run P w=_
 have:(args.toList.map a.eval++caps).toArray=(#[]++args.map a.eval)++caps.toArray:=by
  apply Array.ext'; simp
 rw [this]
 simp [invoke]
theorem trCf_sound (hs:Sound cf sg K) {x:Operand} {k:Nat} {args:Array Operand} {ts:Array TypeId} (ho:o.op=.call { callee:=.value x,args,argTypes:=ts }) (ht:trCf cf sg st cnt o g x k args.toList=some (p,sm)) (h:At cf c F E a w vs Bs cnt g p sm) (hE:EvP K E cnt p):StepOK c o sm F E a w:=by
 unfold trCf at ht
 split at ht
 ·rename_i t
  split at ht
  ·rename_i f ns hl
   split at ht
   ·rename_i hkf
    simp only [qbs] at ht
    obtain ⟨us,hus,um,hum,j,hj,ht⟩:=ht
    split at ht
    ·rename_i nj p' sm' hnj hc
     simp only [qsj,qpj] at ht
     obtain ⟨rfl,rfl⟩:=ht
     obtain ⟨l1,l2⟩:=mapM_mem hus
     have hfv:=h.H.loc t _ (h.needs (.sl t (.fv f ns [])) (by simp)) (by simp [gdOK])
     have hfb:=h.H.loc um _ (h.needs (.sl um (.fb f ns [])) (by simp)) (by simp [gdOK])
     have hum':=(h.H.loc um _ (h.needs (.sl um (.is nj [])) (by simp))).1 (by simp [gdOK])
     have hn2:∀ f∈sm'.needs,F f:=fun f hf=>h.needs f (qar _ hf)
     have husv:(us.map Operand.tmp).map a.eval=ns.map vs:=by
      apply List.ext_getElem?
      intro i
      simp only [List.getElem?_map]
      cases hi:ns[i]? with
      | none=>
       have:us[i]?=none:=by
        rw [List.getElem?_eq_none_iff] at hi ⊢; omega
       simp [this]
      | some n=>
       obtain ⟨u,hu,hu2⟩:=l2 i n hi
       have:=(h.H.loc u _ (h.needs (.sl u (.is n [])) (by
        simp only [qma]
        exact .inl (.inr (List.mem_map.2 ⟨(u,n),zip_get hu hi,rfl⟩))))).1 (by simp [gdOK])
       rw [hu]
       simp [Act.eval,qag,this]
     have hxs:(args.toList++us.map Operand.tmp).map a.eval=args.toList.map a.eval++ns.map vs:=by
      rw [List.map_append,husv]
     have hev:a.eval (.tmp t)=.func (.func f) #[] (ns.map vs).toArray:=by simp [Act.eval,qag,hfv]
     have hk':p'.np=p'.np:=rfl
     have q:StepOK c o sm' F E a w:=by
      refine trCallTo_sound hs h.fits hc ?_ h.H h.fresh hn2 h.g hE ?_
      ·obtain ⟨b,cs,e,fz,k1,k2,k3,k4⟩:=hfb
       rw [hxs]
       refine ⟨b,cs,e,fz,?_,k2,?_,k4⟩
       ·rw [qgr (by simp)]
        simp only [List.length_map,Nat.add_sub_cancel_left,List.getElem?_map,hnj,Option.map_some]
        rw [hum'] at k1
        exact k1
       ·rw [k3,hkf]
        congr 3
        rw [List.map_map]
        apply List.ext_getElem?
        intro i
        simp only [List.getElem?_map]
        rcases qlg i ns.length with q | q
        ·rw [range_get q]
         simp only [Option.map_some,Function.comp_def,qgd]
         rw [qgr (by simp)]
         simp [q]
        ·rw [qgn (by simpa using q),qgn (by simpa using q)]
         rfl
      ·rw [exec_cf ho _ _ _ hev,hxs,hkf]
     exact q
    ·cases ht
   ·cases ht
  ·cases ht
 ·cases ht
def trBxA (cf:CF) (st:List Fact) (cnt:Nat) (o:Oper) (g:Gd) (t:TypeId) (x:Operand):Option (Pr×Sm):=
 match x,o.dst with
 | .tmp u,some d=>(structN cf.P t).bind fun n=>match findSl st u with
  | some (.is m [])=>match findEn st m with
   | some (.a s)=>if g=[]∧d<cf.nt∧u≠d then some (.wl n (.e m),⟨[.sl u (.is m []),.en m (.a s)],[m],[.en cnt (.b s),.sl d (.is cnt []),.sl u (.ag cnt [])]⟩) else none
   | _=>none
  | _=>none
 | _,_=>none
theorem trBxA_sound {t:TypeId} {x:Operand} (ho:o.op=.box t x) (ht:trBxA cf st cnt o g t x=some (p,sm)) (h:At cf c F E a w vs Bs cnt g p sm) (hE:EvP K E cnt p):StepOK c o sm F E a w:=by
 unfold trBxA at ht
 split at ht
 ·rename_i u d hd
  simp only [qbs] at ht
  obtain ⟨n,hn,ht⟩:=ht
  split at ht
  ·rename_i m hl
   split at ht
   ·rename_i s hs
    split at ht
    ·rename_i hc
     obtain ⟨hg0,hdn,hud⟩:=hc
     simp only [qsj,qpj] at ht
     obtain ⟨rfl,rfl⟩:=ht
     have k1:F (.en m (.a s)):=h.needs _ (by simp)
     have hloc:=(h.H.loc u _ (h.needs (.sl u (.is m [])) (by simp))).1 (by simp [gdOK])
     have hev:a.eval (.tmp u)=vs m:=by simp [Act.eval,qag,hloc]
     obtain ⟨xs,e1,e2,e3,e4⟩:=wlD_spec (d:=ev E (.e m)) (show wlD n (ev E (.e m))=some (E cnt) from hE)
     have hB:=h.H.own m _ k1
     have e1':E m=.g xs:=e1
     rw [e1'] at hB
     simp only [Own] at hB
     obtain ⟨ys,cs,hy,hv,hl2,he⟩:=hB
     injection hy with hy; subst hy
     have hrun:(execOp a.eval o).run c.P w=.ok (.value (.pointer (some ⟨w.heap.size,0,none⟩))) (w.alloc (.cells cs t)):=by
      simp only [execOp,ho]
      refine run_v ?_
      rw [hev,hv,run_box]
      rfl
     have hlt:∀ b∈Bs m,b<w.heap.size:=fun b hb=>Own.blocks_lt _ _ _ _ (h.H.own m _ k1) b hb
     have hin':inB (some d) c.nt=true:=by rw [h.fits.nt]; simpa [inB] using hdn
     have hheap:(w.alloc (.cells cs t)).heap[w.heap.size]?=some (.cells cs t (0,0)):=heap_alloc_new w _
     subst hg0
     have H1:=h.H.put (m:=cnt) (s:=.b s) (v:=.pointer (some ⟨w.heap.size,0,none⟩)) (B:=w.heap.size::Bs m) (dst:=some d) (ns:=[]) (w':=w.alloc (.cells cs t)) (g:=[]) (by simpa using h.fresh 0 (by simp [Pr.np])) hin' [m] (agr_alloc _ _ _) rfl rfl rfl
      (by
       rw [e2]
       simp only [Own]
       refine ⟨xs,w.heap.size,cs,t,(0,0),Bs m,rfl,rfl,rfl,hheap,rfl,hl2,?_⟩
       refine Each.imp (fun d v B1 hB1 r=>?_) he
       refine Own.ext (S:=fun _=>False) (agr_alloc _ _ _) (fun _ _ q=>q.elim) ?_ _ _ _ _ (fun _ _ q=>q) r
       rintro b hb (⟨n,s,q1,_,q3⟩ | q)
       ·exact ⟨n,s,q1,q3⟩
       ·rcases qmn.1 q with q | q
        ·omega
        ·exact ⟨m,_,k1,q⟩)
      (List.nodup_cons.2 ⟨fun q=>by have:=hlt _ q; omega,h.H.nodup m _ k1⟩)
      (fun b hb=>by
       rcases qmn.1 hb with rfl | hb
       ·exact .inr (Nat.le_refl _)
       ·exact .inl ⟨m,_,k1,by simp,hb⟩) (by simp [gdOK])
     refine StepOK.of_value hrun ⟨upd vs cnt (.pointer (some ⟨w.heap.size,0,none⟩)),upd Bs cnt (w.heap.size::Bs m),?_⟩
     rw [hd]
     refine H1.more2 ?_ ?_
     ·intro n' s'
      simp only [next,one,qmn,qnm,or_false]
      constructor
      ·rintro (q | q | q | q)
       ·exact .inl q
       ·exact .inr (.inl q)
       ·cases q
       ·cases q
      ·rintro (q | q | q)
       ·exact .inl q
       ·exact .inr (.inl q)
       ·cases q
     ·intro t' l' hf
      rcases hf with ⟨q1,q2⟩ | q
      ·exact .inl (.inl ⟨q1,q2⟩)
      ·simp only [qmn,qnm,or_false] at q
       rcases q with q | q | q
       ·cases q
       ·exact .inl (.inr (by simp [one,q]))
       ·injection q with q1 q2
        subst q1 q2
        right
        intro _ _
        refine ⟨xs,w.heap.size,cs,t,(0,0),e2,?_,hheap,?_⟩
        ·rw [upd_same]
        ·rw [put_get (by simpa using hud),hloc,hv]
    ·cases ht
   ·cases ht
  ·cases ht
 ·cases ht
end
end Go.Cat
namespace Go.Cat
def lhOf (st:List Fact) (n:Nat):Option Nat:=st.findSome? fun f=>match f with
 | .sl u (.lh n' [])=>if n'=n then some u else none
 | _=>none
section
variable (cf:CF) (st:List Fact) (cnt:Nat) (o:Oper) (g:Gd)
def trIz (t:TypeId) (x i:Operand):Option (Pr×Sm):=
 match o.dst,x with
 | some d,.tmp s=>if d<cf.nt∧(elem1 cf.P t).isSome∧g=[] then match findSl st s with
  | some (.is n [])=>(lhOf st n).bind fun u=>(opA cf st g i).bind fun a=>match a.1 with
   | .e e=>some (.ix (.e n) [] (.e e),⟨[.sl s (.is n []),.sl u (.lh n [])]++a.2.2,[],[.sl d (.sa n e [])]⟩)
   | _=>none
  | _=>none
  else none
 | _,_=>none
def trSu (k:Nat) (t:TypeId) (x v:Operand):Option (Pr×Sm):=
 match x with
 | .tmp s=>if g=[]∧o.dst=none then match findSl st s with
  | some (.sa n e [])=>(aliasOf st n).bind fun z=>match z with
   | (u,m,.o es)=>(trSt cf (.sl s (.aw m [.e e] [])::st) cnt o g k t x v).bind fun r=>match r with
    | (.up m' [.e e'] α,sm)=>if m'=m∧e'=e then some (.up m [.e e] α,{ sm with needs:=[.sl s (.sa n e []),.sl u (.is n []),.sl u (.is m []),.en m (.o es)]++sm.needs.filter (fun f=>f != .sl s (.aw m [.e e] [])) }) else none
    | _=>none
   | _=>none
  | _=>none
  else none
 | _=>none
end
section
variable {cf:CF} {c:Cx} {F:Fact→Prop} {E:Nat→D} {a:Act} {w:World} {vs:Nat→Value} {Bs:Nat→List Nat} {cnt:Nat} {g:Gd} {sm:Sm} {st:List Fact} {o:Oper} {p:Pr}
 {K:Nat→List D→List D→Prop}
theorem trIz_sound {t:TypeId} {x i:Operand} (ho:o.op=.indexAddr t x i) (ht:trIz cf st o g t x i=some (p,sm)) (h:At cf c F E a w vs Bs cnt g p sm) (hE:EvP K E cnt p):StepOK c o sm F E a w:=by
 unfold trIz at ht
 split at ht
 ·rename_i d s hd
  split at ht
  ·rename_i hc
   obtain ⟨hdn,hel,hg0⟩:=hc
   subst hg0
   obtain ⟨⟨e1,ti⟩,hel⟩:=Option.isSome_iff_exists.1 hel
   split at ht
   ·rename_i n hl
    simp only [qbs] at ht
    obtain ⟨u,hu,⟨A1,si,ins⟩,hia,ht⟩:=ht
    simp only at ht
    split at ht
    ·rename_i e
     simp only [qsj,qpj] at ht
     obtain ⟨rfl,rfl⟩:=ht
     obtain ⟨Bi,hi,hi2⟩:=h.opA hia (fun f hf=>qar _ hf)
     have h1:=(h.H.loc s _ (h.needs (.sl s (.is n [])) (by simp))).1 (by simp [gdOK])
     obtain ⟨xs,ad,len,cap,k1,k2,k3,k4,k5⟩:=h.H.loc u _ (h.needs (.sl u (.lh n [])) (by simp)) (by simp [gdOK])
     have hE':ixD (E n) (E e)=some (E cnt):=by
      simpa [EvP,evP,pathD,ev,getP] using hE
     obtain ⟨ys,k,j,e2,e3,e4⟩:=ixD_spec hE'
     rw [k1] at e2
     injection e2 with e2
     subst e2
     have hjl:j<len:=by rw [← k3]; exact (List.getElem?_eq_some_iff.1 e4).1
     obtain ⟨b,off,rfl⟩:=k4 j hjl
     have hev:ev E (.e e)=.i k (j:Nat):=e3
     rw [hev] at hi
     have hiv:=hi.int
     have hv:a.eval (.tmp s)=.slice (some ⟨b,off,none⟩) len cap:=by
      rw [← k2]; simp [Act.eval,qag,h1]
     have hP:c.P=cf.P:=h.fits.P
     have hrun:(execOp a.eval o).run c.P w=.ok (.value (.pointer (some ⟨b,off+j,none⟩))) w:=by
      refine exec_index ho ?_
      rw [hv,hiv]
      exact run_indexAt1 (by rw [hP]; exact hel) hjl
     have hfr:Fresh F cnt:=by simpa using h.fresh 0 (by simp [Pr.np])
     refine StepOK.of_value hrun ⟨upd vs cnt undef,upd Bs cnt [],?_⟩
     rw [hd]
     have hnc:n≠cnt:=by rintro rfl; exact hfr.2 s _ (h.needs (.sl s (.is n [])) (by simp)) (by simp [Loc.ments])
     refine h.H.leaf0 hfr (by rw [h.fits.nt]; exact hdn) (same_world w) ?_
     intro tm htm _
     refine ⟨j,b,off+j,?_,?_,htm⟩
     ·simp only [PE.ev,e3]; rfl
     ·rw [upd_ne vs undef hnc,k2]
      exact .inl ⟨off,len,cap,rfl,hjl,rfl⟩
    ·cases ht
   ·cases ht
  ·cases ht
 ·cases ht
theorem setP_one {d x y:D} {i:Nat} (h:setP [i] d x=some y):∃ q,getP [i] d=some q:=by
 cases d with
 | l xs=>
  simp only [setP,qms,qbs] at h
  obtain ⟨_,⟨q,hz,_⟩,_⟩:=h
  exact ⟨q,by simp [getP,hz]⟩
 | g xs=>
  simp only [setP,qms,qbs] at h
  obtain ⟨_,⟨q,hz,_⟩,_⟩:=h
  exact ⟨q,by simp [getP,hz]⟩
 | _=>simp [setP] at h
theorem trSu_sound {k:Nat} {t:TypeId} {x v:Operand} (ho:o.op=.store t x v) (ht:trSu cf st cnt o g k t x v=some (p,sm)) (h:At cf c F E a w vs Bs cnt g p sm) (hE:EvP K E cnt p):StepOK c o sm F E a w:=by
 unfold trSu at ht
 split at ht
 ·rename_i s
  split at ht
  ·rename_i hc
   obtain ⟨hg0,hdst⟩:=hc
   subst hg0
   split at ht
   ·rename_i n e hl
    simp only [qbs] at ht
    obtain ⟨_,hz,ht⟩:=ht
    split at ht
    ·rename_i u m es
     simp only [qbs] at ht
     obtain ⟨r,hr,ht⟩:=ht
     split at ht
     ·rename_i m' e' α sm1
      split at ht
      ·rename_i hme
       obtain ⟨rfl,rfl⟩:=hme
       simp only [qsj,qpj] at ht
       obtain ⟨rfl,rfl⟩:=ht
       have n1:F (.sl s (.sa n e' [])):=h.needs _ (by simp)
       have n2:F (.sl u (.is n [])):=h.needs _ (by simp)
       have n3:F (.sl u (.is m' [])):=h.needs _ (by simp)
       have n4:F (.en m' (.o es)):=h.needs _ (by simp)
       have h2:=(h.H.loc u _ n2).1 (by simp [gdOK])
       have h3:=(h.H.loc u _ n3).1 (by simp [gdOK])
       have hvs:vs n=vs m':=by rw [h2] at h3; injection h3
       obtain ⟨i,b,off,q1,q2,q3⟩:=h.H.loc s _ n1 (by simp [gdOK])
       have hE0:(if (ev E α).one=true then ([PE.e e'].mapM (PE.ev E)).bind fun is=>setP is (E m') (ev E α) else none)=some (E cnt):=hE
       split at hE0
       ·have hp:[PE.e e'].mapM (PE.ev E)=some [i]:=by simp [q1]
        rw [hp,Option.bind_some] at hE0
        obtain ⟨q0,hz⟩:=setP_one hE0
        have hown:=h.H.own m' _ n4
        obtain ⟨b2,o2,y,B',w1,_,_,_⟩:=Wk.of_own [i] (.o es) es _ _ _ _ (by simp) hown hz (by simp [Sh.under])
        have hloc:LocR w.heap E vs (OB F Bs) (alive F) a.tmps s (.aw m' [.e e'] []):=by
         intro _ _
         refine ⟨[i],b,off,q0,y,hp,hz,?_,q3⟩
         have w1':=w1
         simp only [Wk] at w1'
         obtain ⟨b',o1,cs,e1,fz,y',hst,hb,hy,hh⟩:=w1'
         rcases hh with ⟨_,rfl,rfl,rfl⟩ | ⟨hne,_⟩
         ·rw [hvs] at q2
          obtain ⟨rfl,rfl⟩:=q2.det hst
          exact w1
         ·exact (hne rfl).elim
        let F':Fact→Prop:=fun f=>F f∨f=.sl s (.aw m' [.e e'] [])
        have H':HoldsG c F' E a w vs Bs:=by
         refine h.H.more2 (fun n s=>?_) (fun t l hf=>?_)
         ·constructor
          ·rintro (q | q)
           ·exact q
           ·cases q
          ·exact fun q=>.inl q
         ·rcases hf with q | q
          ·exact .inl q
          ·injection q with q1 q2
           subst q1 q2
           exact .inr hloc
        have hfresh:∀ j,j<(Pr.up m' [.e e'] α).np→Fresh F' (cnt+j):=by
         intro j hj
         have hf:=h.fresh j hj
         refine ⟨fun s' q=>?_,fun t' l' q=>?_⟩
         ·rcases q with q | q
          ·exact hf.1 s' q
          ·cases q
         ·rcases q with q | q
          ·exact hf.2 t' l' q
          ·injection q with q1 q2
           subst q1 q2
           have f1:=hf.2 _ _ n1
           have f2:=hf.2 _ _ n3
           simp only [Loc.ments,qmn,qnm,or_false,List.flatMap_cons,PE.ments] at f1 f2 ⊢
           intro q
           exact f2 q
        have h':At cf c F' E a w vs Bs cnt [] (.up m' [.e e'] α) sm1:=by
         refine ⟨h.fits,H',hfresh,fun f hf=>?_,h.g,h.fix⟩
         by_cases hfe:f=.sl s (.aw m' [.e e'] [])
         ·exact .inr hfe
         ·refine .inl (h.needs f ?_)
          simp only [qma,List.mem_filter,bne_iff_ne,ne_eq]
          exact .inr ⟨hf,hfe⟩
        have hs:=trSt_sound ho hr h' hE
        intro nxt Q hn
        refine hs nxt Q fun a' w' hx=>hn a' w' ?_
        refine hx.weak fun f hf=>?_
        rcases hf with ⟨q1,q2⟩ | q
        ·exact .inl ⟨.inl q1,q2⟩
        ·exact .inr q
       ·cases hE0
      ·cases ht
     ·cases ht
    ·cases ht
   ·cases ht
  ·cases ht
 ·cases ht
end
end Go.Cat
namespace Go.Cat
section
variable (cf:CF) (sg:Nat→Option Sg) (st:List Fact) (cnt:Nat) (o:Oper) (g:Gd)
def trEx (x:Operand) (ix:Nat):Option (Pr×Sm):=
 match x,o.dst with
 | .tmp t,some d=>if d<cf.nt then match findSl st t with
  | some (.tu ns g')=>if g'.isPrefixOf g then (ns[ix]?).map fun n=>(.nop,⟨[.sl t (.tu ns g')],[],[.sl d (.is n g)]⟩) else none
  | _=>none
  else none
 | _,_=>none
def trCd (x:Operand) (k:Nat) (xs:List Operand):Option (Pr×Sm):=
 match opA cf st g x with
 | some (A,.v,ns)=>match trCallTo cf sg st cnt o g k xs with
  | some (.ca k' As n,sm)=>some (.cd A k' As n,{ sm with needs:=ns++sm.needs })
  | _=>none
 | _=>none
def trOp (k:Nat):Option (Pr×Sm):=
 match o.op with
 | .extract x ix=>trEx cf st o g x ix
 | .call { callee:=.value (.func f),args,.. }=>match cf.gof f with
  | some m=>trCallTo cf sg st cnt o g m args.toList
  | none=>none
 | .call { callee:=.value (.tmp t),args,.. }=>match trCf cf sg st cnt o g (.tmp t) k args.toList with
  | some r=>some r
  | none=>trCd cf sg st cnt o g (.tmp t) k args.toList
 | .makeFunc fn first captured=>trMf cf st o g fn first.toList captured.toList
 | .move x=>match trTu cf st o g x with
  | some r=>some r
  | none=>trPure cf st cnt o g k
 | .slice t x lo hi mx=>trSl cf st cnt o g t x lo hi mx
 | .convert s d x=>if isBytes cf.P s=true then match opA cf st g x with
   | some (_,sh,_)=>if okBs sh=true then trBs cf st cnt o g s d x else none
   | none=>none
  else trPure cf st cnt o g k
 | .indexAddr t x i=>if k=7 then trIz cf st o g t x i else trIx cf st cnt o g t x i
 | .load t x=>if (structN cf.P t).isSome then trLw cf st cnt o g k t x else match trLd cf st o g t x with
  | some r=>some r
  | none=>match trLb cf st cnt o g k t x with
   | some r=>some r
   | none=>trLc cf st o g t x
 | .store t x v=>if (structN cf.P t).isSome then trSw cf st cnt o g k t x v else match trSu cf st cnt o g k t x v with
  | some r=>some r
  | none=>match trSt cf st cnt o g k t x v with
  | some r=>some r
  | none=>match trSq cf st cnt o g k t x v with
   | some r=>some r
   | none=>match trSp cf st cnt o g t x v with
    | some r=>some r
    | none=>trSc cf st cnt o g t x v
 | .alloc t=>if (structN cf.P t).isSome then trAl cf cnt o g k t else trAlP cf cnt o g k t
 | .box t x=>if (structN cf.P t).isSome then match trBxA cf st cnt o g t x with
   | some r=>some r
   | none=>trBx cf st cnt o g k t x
  else trBxP cf st cnt o g k t x
 | .build t ps=>trBd cf st cnt o g k t ps
 | .fieldAddr t x f=>trFa cf st cnt o g t x f
 | .nilCheck x=>trNc cf st cnt o g x
 | .binOp op t x y _=>if isPtr cf.P t=true then match op,y with
   | .eql,.const (.pointer none)=>trNz cf st cnt o g true x
   | .neq,.const (.pointer none)=>trNz cf st cnt o g false x
   | _,_=>none
  else trPure cf st cnt o g k
 | .makeSlice t l c=>trMk cf st cnt o g k t l c
 | .buildSlice t len ps=>trLi cf st cnt o g k t len ps
 | .call { callee:=.builtin .append,args,argTypes }=>match args,argTypes with
  | ⟨[s,x]⟩,⟨[t,t']⟩=>if t=t' then (match trAp cf st cnt o g t s x with
   | some r=>some r
   | none=>trAp2 cf st cnt o g t s x) else none
  | _,_=>none
 | _=>trPure cf st cnt o g k
def trOpF (k:Nat):Option (Pr×Sm):=
 if 1000≤k then match o.op with
  | .move x=>trFz cf st cnt o g x
  | _=>trOp cf sg st cnt o g (k-1000)
 else trOp cf sg st cnt o g k
end
theorem exec_call {o:Oper} {f:FuncId} {args:Array Operand} {ts:Array TypeId} (ho:o.op=.call { callee:=.value (.func f),args,argTypes:=ts }) (P:Program) (w:World) (a:Act):
  (execOp a.eval o).run P w=(callFunc f (args.toList.map a.eval).toArray).run P w:=by
 simp only [execOp,ho]
 rw [Sem.run_bind]
 show (Result.andThen ((Pure.pure _:Sem Deferred).run P w) _)=_
 simp only [Sem.run_pure,Result.andThen]
 show (invoke (.fn (.func f) #[]) (#[]++args.map a.eval)).run P w=_
 have:(args.toList.map a.eval).toArray=args.map a.eval:=by
  apply Array.ext'; simp
 rw [this]
 simp [invoke]
section
variable {cf:CF} {sg:Nat→Option Sg} {c:Cx} {F:Fact→Prop} {E:Nat→D} {a:Act} {w:World} {vs:Nat→Value} {Bs:Nat→List Nat} {cnt:Nat} {g:Gd} {sm:Sm} {st:List Fact} {o:Oper} {p:Pr}
 {K:Nat→List D→List D→Prop}
theorem trEx_sound {x:Operand} {ix:Nat} (ho:o.op=.extract x ix) (ht:trEx cf st o g x ix=some (p,sm)) (h:At cf c F E a w vs Bs cnt g p sm):StepOK c o sm F E a w:=by
 unfold trEx at ht
 split at ht
 ·rename_i t d hd
  split at ht
  ·rename_i hlt
   split at ht
   ·rename_i ns g' hl
    split at ht
    ·rename_i hg'
     simp only [qms,qpj] at ht
     obtain ⟨n,hn,_,rfl⟩:=ht
     have hf:=h.needs (.sl t (.tu ns g')) (by simp)
     have hl1:a.tmps[t]?=some (.tuple (ns.map vs).toArray):=h.H.loc t _ hf (fun x hx=>h.g x ((List.isPrefixOf_iff_prefix.1 hg').subset hx))
     have hev:a.eval (.tmp t)=.tuple (ns.map vs).toArray:=by simp [Act.eval,hl1]
     have hr:(execOp a.eval o).run c.P w=.ok (.value (vs n)) w:=by
      simp only [execOp,ho]
      refine run_v ?_
      rw [hev]
      simp [Instr.extract,hn]
     refine StepOK.of_value hr ⟨vs,Bs,?_⟩
     rw [hd]
     refine HoldsG.step (fun _=>False) (fun _=>False) (fun _=>False) (some d) h.H (fun _ _=>rfl) (fun _ _=>rfl) (fun _ _ _ _ _ q=>q) (fun _ q=>q.elim) (Agr.refl _ _) rfl rfl rfl
      (fun t ht=>put_get ht) put_size put_defers ?_ (fun _ _ q=>q.elim) (fun _ _ q=>q.elim) (fun _ _ q=>q.elim) (fun _ _ _ _ q=>q.elim) ?_
     ·rintro f (⟨h1,h2⟩ | h1)
      ·left
       refine ⟨h1,?_⟩
       cases f with
       | en n s=>exact fun q=>q
       | sl u l=>exact h2
      ·simp at h1; subst h1; right; rfl
     ·rintro u l hu (⟨_,h2⟩ | h2)
      ·exact (h2 hu).elim
      ·simp at h2
       obtain ⟨rfl,rfl⟩:=h2
       exact ⟨fun _=>put_self (by rw [h.H.size,h.fits.nt]; exact hlt),fun q=>(q h.g).elim⟩
    ·simp at ht
   ·simp at ht
  ·simp at ht
 ·simp at ht
theorem exec_cd {o:Oper} {x:Operand} {f:FuncId} {args:Array Operand} {ts:Array TypeId} (ho:o.op=.call { callee:=.value x,args,argTypes:=ts }) (P:Program) (w:World) (a:Act) (hx:a.eval x=.func (.func f) #[] #[]):
  (execOp a.eval o).run P w=(callFunc f (args.toList.map a.eval).toArray).run P w:=by
 simp only [execOp,ho]
 rw [Sem.run_bind]
 have e:resolve a.eval { callee:=.value x,args,argTypes:=ts } o.type=(Pure.pure { target:=.fn (.func f) #[],args:=#[]++args.map a.eval }:Sem Deferred):=by
  simp only [resolve,hx,Deferred.ofValue]
 rw [e]
 simp only [Sem.run_pure,Result.andThen]
 show (invoke (.fn (.func f) #[]) (#[]++args.map a.eval)).run P w=_
 have:(args.toList.map a.eval).toArray=args.map a.eval:=by
  apply Array.ext'; simp
 rw [this]
 simp [invoke]
theorem trCd_sound (hs:Sound cf sg K) {x:Operand} {k:Nat} {args:Array Operand} {ts:Array TypeId} (ho:o.op=.call { callee:=.value x,args,argTypes:=ts }) (ht:trCd cf sg st cnt o g x k args.toList=some (p,sm)) (h:At cf c F E a w vs Bs cnt g p sm) (hE:EvP K E cnt p):StepOK c o sm F E a w:=by
 unfold trCd at ht
 split at ht
 ·rename_i A ns hA
  split at ht
  ·rename_i k' As n sm' hc
   simp only [qsj,qpj] at ht
   obtain ⟨rfl,rfl⟩:=ht
   obtain ⟨h0,hE2⟩:=hE
   have hn:∀ f∈ns,F f:=fun f hf=>h.needs f (qal _ hf)
   have hn2:∀ f∈sm'.needs,F f:=fun f hf=>h.needs f (qar _ hf)
   obtain ⟨B,o1,_⟩:=opA_sound h.fits hA h.H hn h.g
   have hk:k'=k:=by
    unfold trCallTo at hc
    simp only [qbs] at hc
    obtain ⟨s,_,r,_,hc⟩:=hc
    split at hc
    ·simp only [qsj,qpj,Pr.ca.injEq] at hc
     exact hc.1.1.symm
    ·cases hc
   have hx:a.eval x=.func (.func (cf.fid k)) #[] #[]:=by
    rw [h0,hk] at o1
    simp only [Own] at o1
    obtain ⟨vs,e1,e2,_⟩:=o1.2
    have:vs=#[]:=by
     apply Array.eq_empty_of_size_eq_zero
     simpa using e2
    rw [e1,this,h.fits.fid]
   have q:StepOK c o sm' F E a w:=by
    refine trCallTo_sound hs h.fits hc trivial h.H h.fresh hn2 h.g hE2 ?_
    exact exec_cd ho _ _ _ hx
   exact q
  ·cases ht
 ·cases ht
theorem trOp_sound (hs:Sound cf sg K) {k:Nat} (ht:trOp cf sg st cnt o g k=some (p,sm)) (h:At cf c F E a w vs Bs cnt g p sm) (hE:EvP K E cnt p):StepOK c o sm F E a w:=by
 unfold trOp at ht
 split at ht
 ·rename_i x ix ho
  exact trEx_sound ho ht h
 ·rename_i f args ts ho
  split at ht
  ·rename_i m hm
   refine trCallTo_sound hs h.fits ht trivial h.H h.fresh h.needs h.g hE ?_
   rw [exec_call ho,h.fits.gof f m hm]
  ·simp at ht
 ·rename_i t args ts ho
  split at ht
  ·rename_i r hr
   injection ht with ht
   subst ht
   exact trCf_sound hs ho hr h hE
  ·exact trCd_sound hs ho ht h hE
 ·rename_i fn first captured ho
  exact trMf_sound ho ht h
 ·rename_i x ho
  split at ht
  ·rename_i r hr
   injection ht with ht
   subst ht
   exact trTu_sound (by simp only [execOp,ho]; rfl) hr h
  ·exact trPure_sound ht h hE
 ·rename_i t x lo hi mx ho
  exact trSl_sound ho ht h hE
 ·rename_i s d x ho
  split at ht
  ·split at ht
   ·rename_i α sh ns hx
    split at ht
    ·rename_i hok
     refine trBs_sound ho ht (fun α' sh' ns' hx'=>?_) h hE
     rw [hx] at hx'
     simp only [qsj,qpj] at hx'
     obtain ⟨_,rfl,_⟩:=hx'
     exact hok
    ·cases ht
   ·cases ht
  ·exact trPure_sound ht h hE
 ·rename_i t x i ho
  split at ht
  ·exact trIz_sound ho ht h hE
  ·exact trIx_sound ho ht h hE
 ·rename_i t x ho
  split at ht
  ·exact trLw_sound ho ht h hE
  ·split at ht
   ·rename_i r hr
    injection ht with ht
    subst ht
    exact trLd_sound ho hr h
   ·split at ht
    ·rename_i r hr
     injection ht with ht
     subst ht
     exact trLb_sound ho hr h hE
    ·exact trLc_sound ho ht h
 ·rename_i t x v ho
  split at ht
  ·exact trSw_sound ho ht h hE
  ·split at ht
   ·rename_i r hr
    injection ht with ht
    subst ht
    exact trSu_sound ho hr h hE
   ·split at ht
    ·rename_i r hr
     injection ht with ht
     subst ht
     exact trSt_sound ho hr h hE
    ·split at ht
     ·rename_i r hr
      injection ht with ht
      subst ht
      exact trSq_sound ho hr h hE
     ·split at ht
      ·rename_i r hr
       injection ht with ht
       subst ht
       exact trSp_sound ho hr h hE
      ·exact trSc_sound ho ht h hE
 ·rename_i t ho
  split at ht
  ·exact trAl_sound ho ht h hE
  ·exact trAlP_sound ho ht h hE
 ·rename_i t x ho
  split at ht
  ·split at ht
   ·rename_i r hr
    injection ht with ht
    subst ht
    exact trBxA_sound ho hr h hE
   ·exact trBx_sound ho ht h hE
  ·exact trBxP_sound ho ht h hE
 ·rename_i t ps ho
  exact trBd_sound ho ht h hE
 ·rename_i t x f ho
  exact trFa_sound ho ht h hE
 ·rename_i x ho
  exact trNc_sound ho ht h hE
 ·rename_i op t x y ty ho
  split at ht
  ·rename_i hp
   split at ht
   ·exact trNz_sound ho (.inl ⟨rfl,rfl⟩) hp ht h hE
   ·exact trNz_sound ho (.inr ⟨rfl,rfl⟩) hp ht h hE
   ·cases ht
  ·exact trPure_sound ht h hE
 ·rename_i t l c ho
  exact trMk_sound ho ht h hE
 ·rename_i t len ps ho
  exact trLi_sound ho ht h hE
 ·rename_i args ts ho
  split at ht
  ·split at ht
   ·rename_i hh
    subst hh
    split at ht
    ·rename_i r hr
     injection ht with ht
     subst ht
     exact trAp_sound ho hr h hE
    ·exact trAp2_sound ho ht h hE
   ·cases ht
  ·cases ht
 ·exact trPure_sound ht h hE
theorem trOpF_sound (hs:Sound cf sg K) {k:Nat} (ht:trOpF cf sg st cnt o g k=some (p,sm)) (h:At cf c F E a w vs Bs cnt g p sm) (hE:EvP K E cnt p):StepOK c o sm F E a w:=by
 unfold trOpF at ht
 split at ht
 ·split at ht
  ·rename_i x ho
   exact trFz_sound (by simp only [execOp,ho]; rfl) ht h hE
  ·exact trOp_sound hs ht h hE
 ·exact trOp_sound hs ht h hE
end
end Go.Cat
namespace Go.Cat
theorem wp_frame {P:Program} {o:Oper} {a:Act} {w:World} {nxt nxt':Act→World→Prop} {Q:Exit→Act→World→Prop} (h:o.wp P a w nxt Q)
  (hk:∀ a' w',nxt a' w'→(∀ t,some t≠o.dst→a'.tmps[t]?=a.tmps[t]?)→nxt' a' w'):o.wp P a w nxt' Q:=by
 unfold Oper.wp Oper.upon at*
 split at h
 ·exact hk _ _ h fun t ht=>put_get ht
 ·exact hk _ _ h fun t ht=>put_get ht
 ·refine hk _ _ h fun t ht=>?_
  have:=put_get (a:=a) (v:=undef) ht
  cases hd:o.dst <;> simp_all [Act.put]
 ·refine h.mono ?_
  rintro e w'' he
  cases e with
  | returned v=>exact hk _ _ he fun t ht=>put_get ht
  | panicked c=>exact he
  | outgrown=>exact he
 ·intro b cs
  obtain ⟨v,w'',hR,hs⟩:=h b cs
  exact ⟨v,w'',hk _ _ hR fun t ht=>put_get ht,hs⟩
 ·exact h
 ·exact h
end Go.Cat
namespace Go.Cat
theorem Each.at {R:D→Value→List Nat→Prop}:∀ {xs:List D} {vs:List Value} {B:List Nat} {i:Nat} {x:D},Each R xs vs B→xs[i]?=some x→
  ∃ y Ba Bi Bc,vs[i]?=some y∧B=Ba++(Bi++Bc)∧R x y Bi∧∀ x' Bi',R x' y Bi'→Each R (xs.set i x') vs (Ba++(Bi'++Bc))
 | [],_,_,_,_=>fun _ h=>by simp at h
 | x0::xs,v::vs,B,0,x=>fun h hx=>by
  simp only [Each] at h
  obtain ⟨B1,B2,rfl,h1,h2⟩:=h
  simp at hx
  subst hx
  refine ⟨v,[],B1,B2,by simp,by simp,h1,fun x' Bi' h'=>?_⟩
  simp only [List.set_cons_zero,List.nil_append,Each]
  exact ⟨Bi',B2,rfl,h',h2⟩
 | x0::xs,v::vs,B,i+1,x=>fun h hx=>by
  simp only [Each] at h
  obtain ⟨B1,B2,rfl,h1,h2⟩:=h
  obtain ⟨y,Ba,Bi,Bc,k1,rfl,k2,k3⟩:=Each.at h2 (by simpa using hx)
  refine ⟨y,B1++Ba,Bi,Bc,by simpa using k1,by simp,k2,fun x' Bi' h'=>?_⟩
  simp only [List.set_cons_succ,Each]
  exact ⟨B1,Ba++(Bi'++Bc),by simp,h1,k3 x' Bi' h'⟩
 | _::_,[],_,_,_=>fun h _=>by simp [Each] at h
theorem Own.split {fid:Nat→Nat} {h:Array Obj} {O X:Nat→Prop} {es:Sh} (hes:es.lst=true):∀ (is:List Nat) (s:Sh) (d d' dh:D) (v y:Value) (B:List Nat) (gb go:Nat),is≠[]→Own fid h O X s d v B→B.Nodup→
  s.under is.length=some es→getP is d=some d'→setP is d .u=some dh→Wk h is v gb go y→
  ∃ B1 B2,Own fid h O X es d' y B1∧Own fid h O X s dh v B2∧(∀ k∈B1,k∈B∧k∉B2)∧(∀ k∈B2,k∈B)∧B1.Nodup∧B2.Nodup
 | [],_,_,_,_,_,_,_,_,_,hne=>(hne rfl).elim
 | i::is,s,d,d',dh,v,y,B,gb,go,_=>fun r hnd hs hg hset hw=>by
  -- one row,element i
  have row:∀ (s':Sh) (xs:List D) (row:List Value) (B':List Nat),Each (Own fid h O X s') xs row B'→B'.Nodup→s'.under is.length=some es→(xs[i]?.bind (getP is))=some d'→
    ∀ z,row[i]?=some z→(is=[]∧y=z∨is≠[]∧Wk h is z gb go y)→
    ∃ x xh B1 B2,xs[i]?=some x∧setP is x .u=some xh∧Own fid h O X es d' y B1∧Each (Own fid h O X s') (xs.set i xh) row B2∧(∀ k∈B1,k∈B'∧k∉B2)∧(∀ k∈B2,k∈B')∧B1.Nodup∧B2.Nodup:=by
   intro s' xs row B' he hn hu hg z hz hy
   cases hx:xs[i]? with
   | none=>rw [hx] at hg; simp at hg
   | some x=>
    rw [hx] at hg
    simp only [Option.bind_some] at hg
    obtain ⟨z',Ba,Bi,Bc,k1,rfl,k2,k3⟩:=Each.at he hx
    rw [hz] at k1
    injection k1 with k1
    subst k1
    obtain ⟨n1,n2,n3⟩:=List.nodup_append.1 hn
    obtain ⟨n4,n5,n6⟩:=List.nodup_append.1 n2
    rcases hy with ⟨rfl,rfl⟩ | ⟨hne,hy⟩
    ·simp only [getP,qsj] at hg
     subst hg
     simp only [qln,Sh.under,qsj] at hu
     subst hu
     refine ⟨x,.u,Bi,Ba++([]++Bc),rfl,by simp [setP],k2,k3 .u [] (Own.nil_lst hes _),?_,?_,n4,?_⟩
     ·intro k hk
      refine ⟨by simp [hk],fun q=>?_⟩
      rcases qma.1 q with q | q
      ·exact n3 k q k (by simp [hk]) rfl
      ·exact n6 k hk k (by simpa using q) rfl
     ·intro k hk
      simp only [List.nil_append,qma] at hk ⊢
      exact hk.imp id .inr
     ·refine List.nodup_append.2 ⟨n1,by simpa using n5,fun a ha b hb e=>?_⟩
      exact n3 a ha b (by simp only [List.nil_append] at hb; simp [hb]) e
    ·have hxh:∃ xh,setP is x .u=some xh:=by
      have gs:∀ (is:List Nat) (x d':D),getP is x=some d'→∃ xh,setP is x .u=some xh:=by
       intro is
       induction is with
       | nil=>intro x d' _; exact ⟨.u,rfl⟩
       | cons j is ih=>
        intro x d' hg
        cases x with
        | l ys=>
         simp only [getP,qbs] at hg
         obtain ⟨c1,hz,hg⟩:=hg
         obtain ⟨q,hq⟩:=ih c1 d' hg
         exact ⟨.l (ys.set j q),by simp [setP,hz,hq]⟩
        | g ys=>
         simp only [getP,qbs] at hg
         obtain ⟨c1,hz,hg⟩:=hg
         obtain ⟨q,hq⟩:=ih c1 d' hg
         exact ⟨.g (ys.set j q),by simp [setP,hz,hq]⟩
        | _=>simp [getP] at hg
      exact gs is x d' hg
     obtain ⟨xh,hxh⟩:=hxh
     obtain ⟨B1,B2,q1,q2,q3,q4,q5,q6⟩:=Own.split hes is s' x d' xh _ y Bi gb go hne k2 n4 hu hg hxh hy
     refine ⟨x,xh,B1,Ba++(B2++Bc),rfl,hxh,q1,k3 xh B2 q2,?_,?_,q5,?_⟩
     ·intro k hk
      have:=q3 k hk
      refine ⟨by simp [this.1],fun q=>?_⟩
      rcases qma.1 q with q | q
      ·exact n3 k q k (by simp [this.1]) rfl
      ·rcases qma.1 q with q | q
       ·exact this.2 q
       ·exact n6 k this.1 k q rfl
     ·intro k hk
      simp only [qma] at hk ⊢
      rcases hk with hk | hk | hk
      ·exact .inl hk
      ·exact .inr (.inl (q4 k hk))
      ·exact .inr (.inr hk)
     ·refine List.nodup_append.2 ⟨n1,List.nodup_append.2 ⟨q6,n5,fun a ha b hb e=>n6 a (q4 a ha) b hb e⟩,fun a ha b hb e=>?_⟩
      rcases qma.1 hb with hb | hb
      ·exact n3 a ha b (by simp [q4 b hb]) e
      ·exact n3 a ha b (by simp [hb]) e
  cases s with
  | v=>simp [Sh.under] at hs
  | y=>simp [Sh.under] at hs
  | a s=>simp [Sh.under] at hs
  | b s'=>
   simp only [qlc,Sh.under] at hs
   simp only [Own] at r
   obtain ⟨xs,b1,cs1,e1,fz1,B',rfl,rfl,rfl,hb1,ht,hl,he⟩:=r
   simp only [Wk] at hw
   obtain ⟨b2,o2,cs2,e2,fz2,z,hv,hb2,hz,hw⟩:=hw
   obtain ⟨rfl,rfl⟩:=hv.box
   rw [hb1] at hb2
   injection hb2 with hb2
   injection hb2 with q5 q6 q7
   subst q5 q6 q7
   obtain ⟨n1,n2⟩:=List.nodup_cons.1 hnd
   simp only [getP] at hg
   obtain ⟨x,xh,B1,B2,k1,k2,k3,k4,k5,k6,k7,k8⟩:=row s' xs cs1.toList B' he n2 hs hg z (by rw [Array.getElem?_toList]; exact hz) (by
    rcases hw with ⟨a1,_,_,a4⟩ | ⟨a1,a2⟩
    ·exact .inl ⟨a1,a4⟩
    ·exact .inr ⟨a1,a2⟩)
   simp only [setP,k1,Option.bind_some,k2,Option.map_some,qsj] at hset
   subst hset
   refine ⟨B1,_::B2,k3,?_,?_,?_,k7,List.nodup_cons.2 ⟨fun q=>n1 (k6 _ q),k8⟩⟩
   ·simp only [Own]
    exact ⟨_,_,cs1,e1,fz1,B2,rfl,rfl,rfl,hb1,ht,by simp [hl],k4⟩
   ·intro k hk
    refine ⟨qmc _ (k5 k hk).1,fun q=>?_⟩
    rcases qmn.1 q with rfl | q
    ·exact n1 (k5 _ hk).1
    ·exact (k5 k hk).2 q
   ·intro k hk
    rcases qmn.1 hk with rfl | hk
    ·simp
    ·exact qmc _ (k6 k hk)
  | o s'=>
   simp only [qlc,Sh.under] at hs
   simp only [Own] at r
   rcases r with ⟨q | q,_⟩ | ⟨xs,rfl,r⟩
   ·subst q; simp [getP] at hg
   ·cases d <;> simp [getP] at hg <;> simp [D.flat] at q
   simp only [Wk] at hw
   obtain ⟨b2,o2,cs2,e2,fz2,z,hv,hb2,hz,hw⟩:=hw
   rcases r with ⟨rfl,rfl,_⟩ | ⟨b1,off,cap,cs1,e1,fz1,B',rfl,rfl,hb1,ht,h1,h2,h3,he⟩
   ·exact hv.none.elim
   obtain ⟨rfl,hi,rfl⟩:=hv.slice
   rw [hb1] at hb2
   injection hb2 with hb2
   injection hb2 with q5 q6 q7
   subst q5 q6 q7
   obtain ⟨n1,n2⟩:=List.nodup_cons.1 hnd
   simp only [getP] at hg
   obtain ⟨x,xh,B1,B2,k1,k2,k3,k4,k5,k6,k7,k8⟩:=row s' xs (cs1.toList.drop off) B' he n2 hs hg z (by rw [drop_get]; exact hz) (by
    rcases hw with ⟨a1,_,_,a4⟩ | ⟨a1,a2⟩
    ·exact .inl ⟨a1,a4⟩
    ·exact .inr ⟨a1,a2⟩)
   simp only [setP,k1,Option.bind_some,k2,Option.map_some,qsj] at hset
   subst hset
   refine ⟨B1,_::B2,k3,?_,?_,?_,k7,List.nodup_cons.2 ⟨fun q=>n1 (k6 _ q),k8⟩⟩
   ·simp only [Own]
    refine .inr ⟨_,rfl,.inr ⟨_,off,cap,cs1,e1,fz1,B2,rfl,by simp,hb1,ht,by simpa using h1,h2,by simpa using h3,k4⟩⟩
   ·intro k hk
    refine ⟨qmc _ (k5 k hk).1,fun q=>?_⟩
    rcases qmn.1 q with rfl | q
    ·exact n1 (k5 _ hk).1
    ·exact (k5 k hk).2 q
   ·intro k hk
    rcases qmn.1 hk with rfl | hk
    ·simp
    ·exact qmc _ (k6 k hk)
def ipOf:List Fact→Nat→Option (Nat×List PE×Nat)
 | [],_=>none
 | .sl t (.ip r p m [])::st,u=>if t=u then some (r,p,m) else ipOf st u
 | _::st,u=>ipOf st u
def agOf:List Fact→Nat→Option Nat
 | [],_=>none
 | .sl t (.ag r [])::st,u=>if t=u then some r else agOf st u
 | _::st,u=>agOf st u
def agSlots (st:List Fact) (r:Nat):List Nat:=st.filterMap fun f=>match f with
 | .sl t (.ag r' [])=>if r'=r then some t else none
 | _=>none
def isF (n:Nat) (l:List (Nat×Gd)):List Fact:=l.map fun y=>.sl y.1 (.is n y.2)
def agF (n:Nat) (l:List Nat):List Fact:=l.map fun y=>.sl y (.ag n [])
def lastL (l:List (Nat×Gd)):List (Nat×Gd):=l.drop (l.length-1)
def trGh (st:List Fact) (cnt:Nat) (code:Nat):Option (Pr×Sm):=
 if 600000≤code then
  match findSl st ((code-600000) % 1000) with
  | some (.ip r p m [])=>(findEn st r).bind fun sr=>(sr.under p.length).bind fun es=>(owK es).bind fun i=>
    some (.sp r p (min i ((code-600000) / 1000)),⟨[.sl ((code-600000) % 1000) (.ip r p m []),.en r sr]++(isF r (lastL (slotsOf st r))++agF r []),[r],
     .en cnt (ow ((code-600000) / 1000))::.en (cnt+1) sr::.sl ((code-600000) % 1000) (.is cnt [])::.sl ((code-600000) % 1000) (.ip (cnt+1) p cnt [])::(isF (cnt+1) (lastL (slotsOf st r))++agF (cnt+1) [])⟩)
  | _=>none
 else if 500000≤code then
  match findSl st (code-500000) with
  | some (.is n [])=>match findEn st n with
   | some (.o s)=>some (.ln (.e n) [],⟨[.sl (code-500000) (.is n []),.en n (.o s)],[],[.sl (code-500000) (.is n []),.sl (code-500000) (.lh n [])]⟩)
   | _=>none
  | _=>none
 else if 400000≤code then
  match findSl st (code-400000),agOf st (code-400000) with
  | some (.is m []),some h=>match findEn st m,findEn st h with
   | some (.a s),some (.b s')=>if s=s'∧m≠h then some (.cy (.e m),⟨[.sl (code-400000) (.is m []),.sl (code-400000) (.ag h []),.en m (.a s),.en h (.b s)]++isF h (slotsOf st h),[m,h],.en cnt (.b s)::isF cnt (slotsOf st h)⟩) else none
   | _,_=>none
  | _,_=>none
 else if 300000≤code then
  match (match agOf st (code-300000) with
   | some r=>some (r,Loc.ag r [])
   | none=>match findSl st (code-300000) with
    | some (.ia r m [])=>some (r,.ia r m [])
    | _=>none) with
  | some (r,l)=>match findEn st r with
   | some (.b s)=>if s.lst=true then some (.sw r,⟨[.sl (code-300000) l,.en r (.b s)]++isF r (slotsOf st r),[r],.en cnt (.a s)::.en (cnt+1) (.b s)::.sl (code-300000) (.is cnt [])::.sl (code-300000) (.ag (cnt+1) [])::isF (cnt+1) (slotsOf st r)⟩) else none
   | _=>none
  | none=>none
 else if 200000≤code then
  match findSl st (code-200000),ipOf st (code-200000) with
  | some (.is m []),some (h,p,m0)=>match findEn st m,findEn st h with
   | some s1,some sr=>(owK s1).bind fun k=>(sr.under p.length).bind fun es=>(owK es).bind fun i=>
     if m≠h then some (.jn h p (.e m) (min k i),⟨[.sl (code-200000) (.is m []),.sl (code-200000) (.ip h p m0 []),.en m s1,.en h sr]++(isF h (slotsOf st h)++agF h (agSlots st h)),[m,h],.en cnt sr::(isF cnt (slotsOf st h)++agF cnt (agSlots st h))⟩) else none
   | _,_=>none
  | _,_=>none
 else if 100000≤code then
  match findSl st ((code-100000) % 1000) with
  | some (.ip r p m [])=>(findEn st r).bind fun sr=>(sr.under p.length).bind fun es=>(owK es).bind fun i=>
    some (.sp r p (min i ((code-100000) / 1000)),⟨[.sl ((code-100000) % 1000) (.ip r p m []),.en r sr]++(isF r (slotsOf st r)++agF r (agSlots st r)),[r],
     .en cnt (ow ((code-100000) / 1000))::.en (cnt+1) sr::.sl ((code-100000) % 1000) (.is cnt [])::.sl ((code-100000) % 1000) (.ip (cnt+1) p cnt [])::(isF (cnt+1) (slotsOf st r)++agF (cnt+1) (agSlots st r))⟩)
  | _=>none
 else none
theorem ow_lst (k:Nat):(ow k).lst=true:=by cases k <;> rfl
section
variable {cf:CF} {sg:Nat→Option Sg} {c:Cx} {F:Fact→Prop} {E:Nat→D} {a:Act} {w:World} {vs:Nat→Value} {Bs:Nat→List Nat} {cnt:Nat} {sm:Sm} {st:List Fact} {p:Pr}
 {K:Nat→List D→List D→Prop}
theorem HoldsG.two (H:HoldsG c F E a w vs Bs) {r:Nat} {sr:Sh} (hr:F (.en r sr)) {m:Nat} (f0:Fresh F m) (f1:Fresh F (m+1)) {s1 s2:Sh} {v1 v2:Value} {B1 B2:List Nat}
  (o1:Own c.fid w.heap (OB F Bs) c.Xb s1 (E m) v1 B1) (o2:Own c.fid w.heap (OB F Bs) c.Xb s2 (E (m+1)) v2 B2) (n1:B1.Nodup) (n2:B2.Nodup) (b1:∀ k∈B1,k∈Bs r∧k∉B2) (b2:∀ k∈B2,k∈Bs r):
  HoldsG c (next F none ⟨[],[r],[.en m s1,.en (m+1) s2]⟩) E a w (upd (upd vs m v1) (m+1) v2) (upd (upd Bs m B1) (m+1) B2):=by
 let V:Nat→Value:=upd (upd vs m v1) (m+1) v2
 let W:Nat→List Nat:=upd (upd Bs m B1) (m+1) B2
 have hV0:V m=v1:=by simp only [V]; rw [upd_ne _ _ (by omega),upd_same]
 have hV1:V (m+1)=v2:=by simp only [V]; rw [upd_same]
 have hW0:W m=B1:=by simp only [W]; rw [upd_ne _ _ (by omega),upd_same]
 have hW1:W (m+1)=B2:=by simp only [W]; rw [upd_same]
 have nx:∀ n s',(n=m∨n=m+1)→next F none ⟨[],[r],[.en m s1,.en (m+1) s2]⟩ (.en n s')→(n=m∧s'=s1)∨(n=m+1∧s'=s2):=by
  rintro n s' hn (⟨q,_⟩ | q)
  ·rcases hn with rfl | rfl
   ·exact (f0.1 _ q).elim
   ·exact (f1.1 _ q).elim
  ·simp only [qmn,qnm,or_false] at q
   rcases q with q | q
   ·injection q with q1 q2; exact .inl ⟨q1,q2⟩
   ·injection q with q1 q2; exact .inr ⟨q1,q2⟩
 refine HoldsG.step (fun n=>n=m∨n=m+1) (fun n=>n∈[r]) (fun _=>False) none H (fun n hn=>by rw [upd_ne _ _ (fun e=>hn (.inr e)),upd_ne _ _ (fun e=>hn (.inl e))])
  (fun n hn=>by rw [upd_ne _ _ (fun e=>hn (.inr e)),upd_ne _ _ (fun e=>hn (.inl e))])
  (fun t l hl n hn q=>by
   rcases q with rfl | rfl
   ·exact f0.2 t l hl hn
   ·exact f1.2 t l hl hn)
  (fun _ q=>q.elim) (Agr.refl _ _) rfl rfl rfl (fun _ _=>rfl) rfl rfl ?_ ?_ ?_ ?_ ?_ ?_
 ·rintro f (⟨h1,h2⟩ | q)
  ·left; refine ⟨h1,?_⟩; cases f <;> exact h2
  ·right
   simp only [qmn,qnm,or_false] at q
   rcases q with rfl | rfl
   ·exact .inl rfl
   ·exact .inr rfl
 ·intro n s' hn hf
  have hOO:∀ b',b' < w.heap.size→(OBk F Bs (fun n=>n∈[r]) b'∨∃ k,(k=m∨k=m+1)∧b'∈W k)→OB F Bs b':=by
   rintro b' _ (⟨n1,s1,z1,_,z3⟩ | ⟨k,hk,hb'⟩)
   ·exact ⟨n1,s1,z1,z3⟩
   ·refine ⟨r,_,hr,?_⟩
    rcases hk with rfl | rfl
    ·rw [hW0] at hb'; exact (b1 _ hb').1
    ·rw [hW1] at hb'; exact b2 _ hb'
  rcases nx n s' hn hf with ⟨rfl,rfl⟩ | ⟨rfl,rfl⟩
  ·show Own c.fid w.heap _ c.Xb s' (E n) (V n) (W n)
   rw [hV0,hW0]
   exact Own.ext (Agr.refl (fun _=>False) _) (fun _ _ q=>q.elim) hOO _ _ _ _ (fun _ _ q=>q) o1
  ·show Own c.fid w.heap _ c.Xb s' (E (m+1)) (V (m+1)) (W (m+1))
   rw [hV1,hW1]
   exact Own.ext (Agr.refl (fun _=>False) _) (fun _ _ q=>q.elim) hOO _ _ _ _ (fun _ _ q=>q) o2
 ·intro n s' hn hf
  show (W n).Nodup
  rcases nx n s' hn hf with ⟨rfl,rfl⟩ | ⟨rfl,rfl⟩
  ·rw [hW0]; exact n1
  ·rw [hW1]; exact n2
 ·intro n s' hn hf b' hb'
  refine .inl ⟨r,_,hr,by simp,?_⟩
  have hb':b'∈W n:=hb'
  rcases nx n s' hn hf with ⟨rfl,rfl⟩ | ⟨rfl,rfl⟩
  ·rw [hW0] at hb'; exact (b1 _ hb').1
  ·rw [hW1] at hb'; exact b2 _ hb'
 ·intro n s' k r' hn hk hf hg hne b' hb' hb2
  have hb':b'∈W n:=hb'
  have hb2:b'∈W k:=hb2
  rcases nx n s' hn hf with ⟨rfl,rfl⟩ | ⟨rfl,rfl⟩ <;> rcases nx k r' hk hg with ⟨rfl,rfl⟩ | ⟨rfl,rfl⟩
  ·exact hne rfl
  ·rw [hW0] at hb'; rw [hW1] at hb2; exact (b1 _ hb').2 hb2
  ·rw [hW1] at hb'; rw [hW0] at hb2; exact (b1 _ hb2).2 hb'
  ·exact hne rfl
 ·intro t' l' ht'
  cases ht'
theorem split_sound (hfr:∀ j,j<2→Fresh F (cnt+j)) (H:HoldsG c F E a w vs Bs) {t r m k i:Nat} {q:List PE} {sr es:Sh} {l1:List (Nat×Gd)} {l2:List Nat} (hsl:F (.sl t (.ip r q m []))) (hr:F (.en r sr)) (hs:sr.under q.length=some es) (hi:owK es=some i)
  (h1:∀ f∈isF r l1,F f) (h2:∀ f∈agF r l2,F f) (hE:spD (min i k) (E r) (q.mapM (PE.ev E))=some (E cnt,E (cnt+1))) (ns:List Fact):
  HoldsX c (next F none ⟨ns,[r],.en cnt (ow k)::.en (cnt+1) sr::.sl t (.is cnt [])::.sl t (.ip (cnt+1) q cnt [])::(isF (cnt+1) l1++agF (cnt+1) l2)⟩) E a w:=by
 have f0:Fresh F cnt:=by simpa using hfr 0 (by omega)
 have f1:Fresh F (cnt+1):=hfr 1 (by omega)
 have hown:=H.own r _ hr
 obtain ⟨is,gb,go,d0,k1,k2,k3,k4⟩:=H.loc t _ hsl (by simp [gdOK]) ⟨sr,hr⟩
 have hne:is≠[]:=by rintro rfl; simp [Wk] at k3
 unfold spD at hE
 have hq:q.mapM (PE.ev E)=some is:=k1
 rw [hq,Option.bind_some,k2,Option.bind_some] at hE
 split at hE
 ·rename_i hdep
  simp only [qms,qpj] at hE
  obtain ⟨dh,hset,hd1,rfl⟩:=hE
  have hes:=owK_spec hi
  subst hes
  rw [hd1] at k2 hdep
  obtain ⟨B1,B2,o1,o2,b1,b2,n1,n2⟩:=Own.split (ow_lst i) is sr (E r) (E cnt) (E (cnt+1)) (vs r) (vs m) (Bs r) gb go hne hown (H.nodup r _ hr) (by rw [pathE_len k1]; exact hs) k2 hset k3
  have H1:=H.two hr f0 f1 (Own.lift i k _ _ _ o1 hdep) o2 n1 n2 b1 b2
  have hrc:r≠cnt:=by rintro rfl; exact f0.1 _ hr
  have hrc1:r≠cnt+1:=by rintro rfl; exact f1.1 _ hr
  have hmc:m≠cnt:=by rintro rfl; exact f0.2 _ _ hsl (by simp [Loc.ments])
  have hmc1:m≠cnt+1:=by rintro rfl; exact f1.2 _ _ hsl (by simp [Loc.ments])
  have e0:upd (upd vs cnt (vs m)) (cnt+1) (vs r) cnt=vs m:=by rw [upd_ne _ _ (by omega),upd_same]
  have e1:upd (upd vs cnt (vs m)) (cnt+1) (vs r) (cnt+1)=vs r:=upd_same _ _ _
  have er:upd (upd vs cnt (vs m)) (cnt+1) (vs r) r=vs r:=by rw [upd_ne _ _ hrc1,upd_ne _ _ hrc]
  have hgl:∃ x,getP is (E (cnt+1))=some x:=by
   have gs:∀ (is:List Nat) (x y:D),setP is x .u=some y→∃ d,getP is y=some d:=by
    intro is
    induction is with
    | nil=>intro x y _; exact ⟨y,rfl⟩
    | cons j is ih=>
     intro x y hg
     cases x with
     | l ys=>
      simp only [setP,qms,qbs] at hg
      obtain ⟨y1,⟨x1,hx1,hy1⟩,rfl⟩:=hg
      obtain ⟨d,hd⟩:=ih x1 y1 hy1
      have hj:j<ys.length:=(List.getElem?_eq_some_iff.1 hx1).1
      exact ⟨d,by simp [getP,hj,hd]⟩
     | g ys=>
      simp only [setP,qms,qbs] at hg
      obtain ⟨y1,⟨x1,hx1,hy1⟩,rfl⟩:=hg
      obtain ⟨d,hd⟩:=ih x1 y1 hy1
      have hj:j<ys.length:=(List.getElem?_eq_some_iff.1 hx1).1
      exact ⟨d,by simp [getP,hj,hd]⟩
     | _=>simp [setP] at hg
   exact gs is _ _ hset
  obtain ⟨x0,hx0⟩:=hgl
  refine ⟨_,_,H1.more2 ?_ ?_⟩
  ·intro n' s'
   simp only [next,isF,agF,qmn,qma,List.mem_map,qnm,or_false]
   constructor
   ·rintro (q | q | q | q | q | ⟨_,_,q⟩ | ⟨_,_,q⟩)
    ·exact .inl q
    ·exact .inr (.inl q)
    ·exact .inr (.inr q)
    ·cases q
    ·cases q
    ·cases q
    ·cases q
   ·rintro (q | q | q)
    ·exact .inl q
    ·exact .inr (.inl q)
    ·exact .inr (.inr (.inl q))
  ·intro t' l' hf
   rcases hf with ⟨q1,q2⟩ | q
   ·exact .inl (.inl ⟨q1,q2⟩)
   ·simp only [isF,agF,qmn,qma,List.mem_map] at q
    rcases q with q | q | q | q | ⟨⟨u',gu⟩,hu,q⟩ | ⟨u',hu,q⟩
    ·cases q
    ·cases q
    ·injection q with q1 q2
     subst q1 q2
     right
     refine ⟨fun _=>?_,fun q=>(q (by simp [gdOK])).elim⟩
     rw [e0]; exact k4
    ·injection q with q1 q2
     subst q1 q2
     right
     intro _ _
     exact ⟨is,gb,go,x0,k1,hx0,by rw [e0,e1]; exact k3,by rw [e0]; exact k4⟩
    ·injection q with q1 q2
     subst q1 q2
     have hf0:F (.sl u' (.is r gu)):=h1 _ (List.mem_map.2 ⟨(u',gu),hu,rfl⟩)
     have:=H.loc u' _ hf0
     right
     refine ⟨fun hg=>?_,this.2⟩
     rw [e1]; exact this.1 hg
    ·injection q with q1 q2
     subst q1 q2
     have hf0:F (.sl u' (.ag r [])):=h2 _ (List.mem_map.2 ⟨u',hu,rfl⟩)
     obtain ⟨xs,b,cs,e,fz,j1,j2,j3,j4⟩:=H.loc u' _ hf0 (by simp [gdOK]) ⟨sr,hr⟩
     right
     intro _ _
     have hg2:∃ ys,E (cnt+1)=.g ys:=by
      rw [j1] at hset
      cases is with
      | nil=>exact (hne rfl).elim
      | cons j is=>
       simp only [setP,qms] at hset
       obtain ⟨y,_,hy⟩:=hset
       exact ⟨_,hy.symm⟩
     obtain ⟨ys,hys⟩:=hg2
     exact ⟨ys,b,cs,e,fz,hys,by rw [e1]; exact j2,j3,j4⟩
 ·cases hE
theorem join_sound (hfr:Fresh F cnt) (H:HoldsG c F E a w vs Bs) {t h m m0 k i:Nat} {q:List PE} {s1 sr es:Sh} {l1:List (Nat×Gd)} {l2:List Nat} (hsl:F (.sl t (.is m []))) (hsp:F (.sl t (.ip h q m0 []))) (hm:F (.en m s1)) (hh:F (.en h sr)) (hmh:m≠h)
  (hk:owK s1=some k) (hs:sr.under q.length=some es) (hi:owK es=some i)
  (h1:∀ f∈isF h l1,F f) (h2:∀ f∈agF h l2,F f) (hE:evP E (.jn h q (.e m) (min k i))=some (E cnt)) (ns:List Fact):
  HoldsX c (next F none ⟨ns,[m,h],.en cnt sr::(isF cnt l1++agF cnt l2)⟩) E a w:=by
 have hownh:=H.own h _ hh
 have hownm:=H.own m _ hm
 obtain ⟨is,gb,go,d0,k1,k2,k3,k4⟩:=H.loc t _ hsp (by simp [gdOK]) ⟨sr,hh⟩
 have k5:=(H.loc t _ hsl).1 (by simp [gdOK])
 have hv0:vs m0=vs m:=by rw [k4] at k5; injection k5
 have hne:is≠[]:=by rintro rfl; simp [Wk] at k3
 have hq:q.mapM (PE.ev E)=some is:=k1
 have hE0:(if ((E m).one&&depB (min k i) (E m))=true then (q.mapM (PE.ev E)).bind fun is=>setP is (E h) (E m) else none)=some (E cnt):=hE
 split at hE0
 ·rename_i hc
  simp only [qba] at hc
  obtain ⟨hone,hdep⟩:=hc
  rw [hq,Option.bind_some] at hE0
  have hs1:=owK_spec hk
  have hes:=owK_spec hi
  subst hs1 hes
  have hsu:sr.under is.length=some (ow i):=by rw [pathE_len k1]; exact hs
  obtain ⟨b2,o2,x2,B2,w1,_,_,hgbB⟩:=Wk.of_own is sr (ow i) (E h) d0 (vs h) (Bs h) hne hownh k2 hsu
  obtain ⟨rfl,rfl,_⟩:=Wk.det is k3 w1
  obtain ⟨gcs,ge,gfz,c1,c2⟩:=k3.cell
  have hfz:gfz=(0,0):=own_thawed is sr (E h) d0 (vs h) (Bs h) hownh k2 hsu k3 c1
  subst hfz
  rw [hv0] at c2
  have hset:gcs.setIfInBounds go (vs m)=gcs:=by
   apply Array.ext
   ·simp
   ·intro j hj1 hj2
    rw [Array.getElem_setIfInBounds]
    split
    ·rename_i e
     subst e
     obtain ⟨q1,q2⟩:=Array.getElem?_eq_some_iff.1 c2
     exact q2.symm
    ·rfl
  have hdis:∀ b∈Bs h,b∉Bs m:=fun b hb hbm=>H.apart h _ m _ hh hm (Ne.symm hmh) b hb hbm
  have hO:∀ b,b<w.heap.size→(OBk F Bs (fun n=>n∈[m,h]) b∨b∈Bs h∨b∈Bs m)→OB F Bs b:=by
   rintro b _ (⟨n1,s1,z1,_,z3⟩ | q | q)
   ·exact ⟨n1,s1,z1,z3⟩
   ·exact ⟨h,_,hh,q⟩
   ·exact ⟨m,_,hm,q⟩
  have x1:Own c.fid w.heap (fun b=>OBk F Bs (fun n=>n∈[m,h]) b∨b∈Bs h∨b∈Bs m) c.Xb (ow i) (E m) (vs m) (Bs m):=
   Own.ext (Agr.refl (fun _=>False) _) (fun _ _ q=>q.elim) hO _ _ _ _ (fun _ _ q=>q) (Own.lift k i _ _ _ hownm hdep)
  obtain ⟨B',s1,s2,s3,_⟩:=Own.set (O:=OB F Bs) (fun b _=>rfl) rfl c1 (by rw [hset]; exact c1) ⟨h,sr,hh,hgbB⟩ hO x1 is sr (E h) (E cnt) (vs h) _ (Bs h) hne hownh (H.nodup h sr hh) hdis (H.nodup m _ hm) hsu hE0 k3
  have hhc:h≠cnt:=by rintro rfl; exact hfr.1 _ hh
  have H1:=H.put (m:=cnt) (s:=sr) (v:=vs h) (B:=B') (dst:=none) (ns:=[]) (w':=w) (g:=[]) hfr (by simp [inB]) [m,h] (Agr.refl _ _) rfl rfl rfl
   (Own.ext (Agr.refl (fun _=>False) _) (fun _ _ q=>q.elim) (fun b hb hb2=>by
    rcases hb2 with hb2 | hb2
    ·exact .inl hb2
    ·exact .inr (s2 b hb2)) _ _ _ _ (fun _ _ q=>q) s1) s3
   (fun b hb=>by
    rcases s2 b hb with hb | hb
    ·exact .inl ⟨h,sr,hh,by simp,hb⟩
    ·exact .inl ⟨m,_,hm,by simp,hb⟩) (by simp [gdOK])
  refine ⟨upd vs cnt (vs h),upd Bs cnt B',H1.more2 ?_ ?_⟩
  ·intro n' s'
   simp only [next,one,isF,agF,qmn,qma,List.mem_map,qnm,or_false]
   constructor
   ·rintro (q | q | ⟨_,_,q⟩ | ⟨_,_,q⟩)
    ·exact .inl q
    ·exact .inr q
    ·cases q
    ·cases q
   ·rintro (q | q)
    ·exact .inl q
    ·exact .inr (.inl q)
  ·intro t' l' hf
   rcases hf with ⟨q1,q2⟩ | q
   ·exact .inl (.inl ⟨q1,q2⟩)
   ·simp only [isF,agF,qmn,qma,List.mem_map] at q
    rcases q with q | ⟨⟨u',gu⟩,hu,q⟩ | ⟨u',hu,q⟩
    ·cases q
    ·injection q with q1 q2
     subst q1 q2
     have hf0:F (.sl u' (.is h gu)):=h1 _ (List.mem_map.2 ⟨(u',gu),hu,rfl⟩)
     have:=H.loc u' _ hf0
     right
     refine ⟨fun hg=>?_,this.2⟩
     rw [upd_same]; exact this.1 hg
    ·injection q with q1 q2
     subst q1 q2
     have hf0:F (.sl u' (.ag h [])):=h2 _ (List.mem_map.2 ⟨u',hu,rfl⟩)
     obtain ⟨xs,b,cs,e,fz,j1,j2,j3,j4⟩:=H.loc u' _ hf0 (by simp [gdOK]) ⟨sr,hh⟩
     right
     intro _ _
     have hg2:∃ ys,E cnt=.g ys:=by
      rw [j1] at hE0
      cases is with
      | nil=>exact (hne rfl).elim
      | cons j is=>
       simp only [setP,qms] at hE0
       obtain ⟨y,_,hy⟩:=hE0
       exact ⟨_,hy.symm⟩
     obtain ⟨ys,hys⟩:=hg2
     exact ⟨ys,b,cs,e,fz,hys,by rw [upd_same]; exact j2,j3,j4⟩
 ·cases hE0
theorem each_u {fid:Nat→Nat} {h:Array Obj} {O X:Nat→Prop} {s:Sh} (hs:s.lst=true):∀ (vs:List Value),Each (Own fid h O X s) (List.replicate vs.length .u) vs []
 | []=>by simp [Each]
 | v::vs=>by
  simp only [qlc,List.replicate_succ,Each]
  exact ⟨[],[],rfl,Own.nil_lst hs v,each_u hs vs⟩
theorem splitW_sound (hfr:∀ j,j<2→Fresh F (cnt+j)) (H:HoldsG c F E a w vs Bs) {t r:Nat} {s:Sh} {l1:List (Nat×Gd)} (hr:F (.en r (.b s))) (hs:s.lst=true)
  (hag:∃ xs b cs e fz,E r=.g xs∧vs r=.pointer (some ⟨b,0,none⟩)∧w.heap[b]?=some (.cells cs e fz)∧a.tmps[t]?=some (.agg cs)) (h1:∀ f∈isF r l1,F f)
  (hE:swD (E r)=some (E cnt,E (cnt+1))) (ns:List Fact):
  HoldsX c (next F none ⟨ns,[r],.en cnt (.a s)::.en (cnt+1) (.b s)::.sl t (.is cnt [])::.sl t (.ag (cnt+1) [])::isF (cnt+1) l1⟩) E a w:=by
 have f0:Fresh F cnt:=by simpa using hfr 0 (by omega)
 have f1:Fresh F (cnt+1):=hfr 1 (by omega)
 have hown:=H.own r _ hr
 simp only [Own] at hown
 obtain ⟨xs,b,cs,e,fz,B',e1,e2,e3,e4,e5,e6,e7⟩:=hown
 have hfz:fz=(0,0):=e5
 subst hfz
 obtain ⟨xs',b',cs',e',fz',j1,j2,j3,j4⟩:=hag
 rw [e3] at j2
 injection j2 with j2
 injection j2 with j2
 injection j2 with j2
 subst j2
 rw [e4] at j3
 injection j3 with j3
 injection j3 with j3 _ _
 subst j3
 rw [e1] at hE
 simp only [swD,qsj,qpj] at hE
 obtain ⟨hE1,hE2⟩:=hE
 have hnd:=H.nodup r _ hr
 rw [e2] at hnd
 obtain ⟨n1,n2⟩:=List.nodup_cons.1 hnd
 have hlen:cs.toList.length=xs.length:=by simpa using e6
 have H1:=H.two hr f0 f1 (s1:=.a s) (s2:=.b s) (v1:=.agg cs) (v2:=vs r) (B1:=B') (B2:=[b])
  (by rw [← hE1]; simp only [Own]; exact ⟨xs,cs,rfl,rfl,e6,e7⟩)
  (by
   rw [← hE2,e3]
   simp only [Own]
   refine ⟨_,b,cs,e,(0,0),[],rfl,rfl,rfl,e4,rfl,by simp [e6],?_⟩
   rw [← hlen]
   exact each_u hs _) n2 (by simp)
  (fun k hk=>⟨by rw [e2]; exact qmc _ hk,by simp only [List.mem_singleton]; rintro rfl; exact n1 hk⟩) (fun k hk=>by rw [e2]; simp only [List.mem_singleton] at hk; subst hk; simp)
 have e0:upd (upd vs cnt (.agg cs)) (cnt+1) (vs r) cnt=.agg cs:=by rw [upd_ne _ _ (by omega),upd_same]
 have e1':upd (upd vs cnt (.agg cs)) (cnt+1) (vs r) (cnt+1)=vs r:=upd_same _ _ _
 refine ⟨_,_,H1.more2 ?_ ?_⟩
 ·intro n' s'
  simp only [next,isF,qmn,List.mem_map,qnm,or_false]
  constructor
  ·rintro (q | q | q | q | q | ⟨_,_,q⟩)
   ·exact .inl q
   ·exact .inr (.inl q)
   ·exact .inr (.inr q)
   ·cases q
   ·cases q
   ·cases q
  ·rintro (q | q | q)
   ·exact .inl q
   ·exact .inr (.inl q)
   ·exact .inr (.inr (.inl q))
 ·intro t' l' hf
  rcases hf with ⟨q1,q2⟩ | q
  ·exact .inl (.inl ⟨q1,q2⟩)
  ·simp only [isF,qmn,List.mem_map] at q
   rcases q with q | q | q | q | ⟨⟨u',gu⟩,hu,q⟩
   ·cases q
   ·cases q
   ·injection q with q1 q2
    subst q1 q2
    right
    refine ⟨fun _=>?_,fun q=>(q (by simp [gdOK])).elim⟩
    rw [e0]; exact j4
   ·injection q with q1 q2
    subst q1 q2
    right
    intro _ _
    exact ⟨_,b,cs,e,(0,0),hE2.symm,by rw [e1',e3],e4,j4⟩
   ·injection q with q1 q2
    subst q1 q2
    have hf0:F (.sl u' (.is r gu)):=h1 _ (List.mem_map.2 ⟨(u',gu),hu,rfl⟩)
    have:=H.loc u' _ hf0
    right
    refine ⟨fun hg=>?_,this.2⟩
    rw [e1']; exact this.1 hg
theorem joinW_sound (hfr:Fresh F cnt) (H:HoldsG c F E a w vs Bs) {t h m:Nat} {s:Sh} {l1:List (Nat×Gd)} (hsl:F (.sl t (.is m []))) (hsp:F (.sl t (.ag h []))) (hm:F (.en m (.a s))) (hh:F (.en h (.b s))) (hmh:m≠h)
  (h1:∀ f∈isF h l1,F f) (hE:some (E m)=some (E cnt)) (ns:List Fact):
  HoldsX c (next F none ⟨ns,[m,h],.en cnt (.b s)::isF cnt l1⟩) E a w:=by
 injection hE with hE
 have hownh:=H.own h _ hh
 have hownm:=H.own m _ hm
 simp only [Own] at hownh hownm
 obtain ⟨xs,b,cs,e,fz,B',e1,e2,e3,e4,e5,e6,e7⟩:=hownh
 have hfz:fz=(0,0):=e5
 subst hfz
 obtain ⟨ys,cs',d1,d2,d3,d4⟩:=hownm
 obtain ⟨xs',b',cs2,e',fz',j1,j2,j3,j4⟩:=H.loc t _ hsp (by simp [gdOK]) ⟨_,hh⟩
 have j5:=(H.loc t _ hsl).1 (by simp [gdOK])
 rw [e3] at j2
 injection j2 with j2
 injection j2 with j2
 injection j2 with j2
 subst j2
 rw [e4] at j3
 injection j3 with j3
 injection j3 with j3 _ _
 subst j3
 rw [j4,d2] at j5
 injection j5 with j5
 injection j5 with j5
 subst j5
 have hbm:b∉Bs m:=fun hb=>H.apart h _ m _ hh hm (Ne.symm hmh) b (by rw [e2]; simp) hb
 have H1:=H.put (m:=cnt) (s:=.b s) (v:=vs h) (B:=b::Bs m) (dst:=none) (ns:=[]) (w':=w) (g:=[]) hfr (by simp [inB]) [m,h] (Agr.refl _ _) rfl rfl rfl
  (by
   rw [← hE,d1,e3]
   simp only [Own]
   refine ⟨ys,b,cs,e,(0,0),Bs m,rfl,rfl,rfl,e4,rfl,d3,Each.imp (fun d v B1 hB1 q=>?_) d4⟩
   refine Own.ext (Agr.refl (fun _=>False) _) (fun _ _ q=>q.elim) ?_ _ _ _ _ (fun _ _ q=>q) q
   rintro x _ (⟨n1,s1,q1,_,q3⟩ | q)
   ·exact ⟨n1,s1,q1,q3⟩
   ·rcases qmn.1 q with rfl | q
    ·exact ⟨h,_,hh,by rw [e2]; simp⟩
    ·exact ⟨m,_,hm,q⟩)
  (List.nodup_cons.2 ⟨hbm,H.nodup m _ hm⟩)
  (fun x hx=>by
   rcases qmn.1 hx with rfl | hx
   ·exact .inl ⟨h,_,hh,by simp,by rw [e2]; simp⟩
   ·exact .inl ⟨m,_,hm,by simp,hx⟩) (by simp [gdOK])
 refine ⟨_,_,H1.more2 ?_ ?_⟩
 ·intro n' s'
  simp only [next,one,isF,qmn,List.mem_map,qnm,or_false]
  constructor
  ·rintro (q | q | ⟨_,_,q⟩)
   ·exact .inl q
   ·exact .inr q
   ·cases q
  ·rintro (q | q)
   ·exact .inl q
   ·exact .inr (.inl q)
 ·intro t' l' hf
  rcases hf with ⟨q1,q2⟩ | q
  ·exact .inl (.inl ⟨q1,q2⟩)
  ·simp only [isF,qmn,List.mem_map] at q
   rcases q with q | ⟨⟨u',gu⟩,hu,q⟩
   ·cases q
   ·injection q with q1 q2
    subst q1 q2
    have hf0:F (.sl u' (.is h gu)):=h1 _ (List.mem_map.2 ⟨(u',gu),hu,rfl⟩)
    have:=H.loc u' _ hf0
    right
    refine ⟨fun hg=>?_,this.2⟩
    rw [upd_same]; exact this.1 hg
theorem lh_sound (H:HoldsG c F E a w vs Bs) {t n:Nat} {s:Sh} (h1:F (.sl t (.is n []))) (h2:F (.en n (.o s))) (hE:EvP K E cnt (.ln (.e n) [])) (ns:List Fact):
  HoldsX c (next F none ⟨ns,[],[.sl t (.is n []),.sl t (.lh n [])]⟩) E a w:=by
 have hE':lenD (E n)=some (E cnt):=by
  simpa [EvP,evP,pathD,ev,getP] using hE
 obtain ⟨xs,hx⟩:∃ xs,E n=.l xs:=by
  unfold lenD at hE'
  split at hE'
  ·exact ⟨_,‹_›⟩
  ·cases hE'
 have hown:=H.own n _ h2
 have hl:=(H.loc t _ h1).1 (by simp [gdOK])
 rw [hx] at hown
 refine ⟨vs,Bs,H.more2 (fun m r=>?_) (fun u l hf=>?_)⟩
 ·simp [next]
 ·rcases hf with ⟨q,_⟩ | q
  ·exact .inl q
  ·simp only [qmn,qnm,or_false] at q
   rcases q with q | q
   ·rw [q]; exact .inl h1
   right
   injection q with q1 q2
   subst q1 q2
   intro _
   simp only [Own] at hown
   rcases hown with ⟨q | q,_⟩ | ⟨ys,hy,r⟩
   ·cases q
   ·simp [D.flat] at q
   ·injection hy with hy
    subst hy
    rcases r with ⟨hv,rfl,_⟩ | ⟨b,off,cap,cs1,e1,fz1,B',_,hv,_⟩
    ·exact ⟨[],none,0,0,hx,hv,rfl,fun i hi=>by omega,hl⟩
    ·exact ⟨xs,_,_,_,hx,hv,rfl,fun i hi=>⟨b,off,rfl⟩,hl⟩
theorem gh_sound {code:Nat} (ht:trGh st cnt code=some (p,sm)) (H:HoldsG c F E a w vs Bs) (hfr:∀ j,j<p.np→Fresh F (cnt+j)) (hn:∀ f∈sm.needs,F f) (hE:EvP K E cnt p):HoldsX c (next F none sm) E a w:=by
 unfold trGh at ht
 split at ht
 ·split at ht
  ·rename_i r q m e1
   simp only [qbs] at ht
   obtain ⟨sr,hsr,es,hes,i,hi,ht⟩:=ht
   simp only [qsj,qpj] at ht
   obtain ⟨rfl,rfl⟩:=ht
   exact split_sound (fun j hj=>hfr j (by simpa [Pr.np] using hj)) H (hn (.sl _ (.ip r q m [])) (by simp)) (hn _ (by simp)) hes hi
    (fun f hf=>hn f (qar _ (qal _ hf))) (fun f hf=>hn f (qar _ (qar _ hf))) hE _
  ·cases ht
 split at ht
 ·split at ht
  ·rename_i n e1
   split at ht
   ·rename_i s e2
    simp only [qsj,qpj] at ht
    obtain ⟨rfl,rfl⟩:=ht
    exact lh_sound H (hn (.sl (code-500000) (.is n [])) (by simp)) (hn (.en n (.o s)) (by simp)) hE _
   ·cases ht
  ·cases ht
 split at ht
 ·split at ht
  ·rename_i m h e1 e2
   split at ht
   ·rename_i s s' e3 e4
    split at ht
    ·rename_i hc
     obtain ⟨rfl,hmh⟩:=hc
     simp only [qsj,qpj] at ht
     obtain ⟨rfl,rfl⟩:=ht
     exact joinW_sound (by simpa using hfr 0 (by simp [Pr.np])) H (hn (.sl (code-400000) (.is m [])) (by simp)) (hn (.sl (code-400000) (.ag h [])) (by simp)) (hn _ (by simp)) (hn _ (by simp)) hmh (fun f hf=>hn f (qar _ hf)) hE _
    ·cases ht
   ·cases ht
  ·cases ht
 ·split at ht
  ·split at ht
   ·rename_i r l hl
    split at ht
    ·rename_i s hs
     split at ht
     ·rename_i hlst
      simp only [qsj,qpj] at ht
      obtain ⟨rfl,rfl⟩:=ht
      have hr:F (.en r (.b s)):=hn _ (by simp)
      have hl0:F (.sl (code-300000) l):=hn _ (by simp)
      refine splitW_sound (fun j hj=>hfr j (by simpa [Pr.np] using hj)) H hr hlst ?_ (fun f hf=>hn f (qar _ hf)) hE _
      split at hl
      ·injection hl with hl
       injection hl with h1 h2
       subst h1 h2
       exact H.loc _ _ hl0 (by simp [gdOK]) ⟨_,hr⟩
      ·split at hl
       ·injection hl with hl
        injection hl with h1 h2
        subst h1 h2
        obtain ⟨xs,b,cs,e,fz,j1,_,j3,j4,j5,j6⟩:=H.loc _ _ hl0 (by simp [gdOK]) ⟨_,hr⟩
        exact ⟨xs,b,cs,e,fz,j1,j3,j4,by rw [j6,j5]⟩
       ·cases hl
     ·cases ht
    ·cases ht
   ·cases ht
  ·split at ht
   ·split at ht
    ·rename_i m h q m0 e1 e2
     split at ht
     ·rename_i s1 sr e3 e4
      simp only [qbs] at ht
      obtain ⟨k,hk,es,hes,i,hi,ht⟩:=ht
      split at ht
      ·rename_i hmh
       simp only [qsj,qpj] at ht
       obtain ⟨rfl,rfl⟩:=ht
       exact join_sound (by simpa using hfr 0 (by simp [Pr.np])) H (hn (.sl (code-200000) (.is m [])) (by simp)) (hn (.sl (code-200000) (.ip h q m0 [])) (by simp)) (hn _ (by simp)) (hn _ (by simp)) hmh hk hes hi
        (fun f hf=>hn f (qar _ (qal _ hf))) (fun f hf=>hn f (qar _ (qar _ hf))) hE _
      ·cases ht
     ·cases ht
    ·cases ht
   ·split at ht
    ·split at ht
     ·rename_i r q m e1
      simp only [qbs] at ht
      obtain ⟨sr,hsr,es,hes,i,hi,ht⟩:=ht
      simp only [qsj,qpj] at ht
      obtain ⟨rfl,rfl⟩:=ht
      exact split_sound (fun j hj=>hfr j (by simpa [Pr.np] using hj)) H (hn (.sl _ (.ip r q m [])) (by simp)) (hn _ (by simp)) hes hi
       (fun f hf=>hn f (qar _ (qal _ hf))) (fun f hf=>hn f (qar _ (qar _ hf))) hE _
     ·cases ht
    ·cases ht
end
end Go.Cat
