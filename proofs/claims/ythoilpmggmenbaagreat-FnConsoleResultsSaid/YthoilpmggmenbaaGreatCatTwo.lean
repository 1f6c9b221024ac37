/-
 The store.
-/
import Derived.Test.YthoilpmggmenbaaGreatCatOne
import Derived.Laws.BytesString
import Derived.Laws.Slices
import Derived.Laws.Rows
import Derived.Laws.Pointers
import Derived.MapKept
import Derived.ChangeMaps3
set_option linter.unusedSimpArgs false
set_option linter.unusedVariables false
namespace Go.Cat
theorem AV.PY{c:Cx}{o:Oper}{sm:Sm}{F:Fact->Prop}{E:Nat->D}{a:Act}{w w':World}(i:(execOp a.eval o).run c.P w=.ok .skip w')
  (hd:o.dst=none) (f:E5 c (next F none sm) E a w'):AV c o sm F E a w:=by intro N Q H;simp only[Oper.wp,i,Oper.upon,hd];rw[hd]at H;exact H _ _ f
def Ho:Loc->Option (Nat×List PE×Gd)
 |.ad r p _ g=>some (r,p,g)
 |.aw r p g=>some (r,p,g)
 |_=>none
def E2(st:List Fact)(k r:Nat):List PE->List (Nat×Loc×PE)
 |[_]=>if k=1 then st.filterMap λf=>match f with
   |.sl t l=>(match Ho l with
    |some (R,[e],[])=>if R=r then some (t,l,e)else none
    |_=>none)
   |.en _ _=>none
  else []
 |_=>[]
theorem AdJ{st:List Fact}{k r:Nat}{p:List PE}{t:Nat}{l:Loc}{e:PE}(h:(t,l,e)∈E2 st k r p):(∃i,p=[i])/\Ho l=some (r,[e],[]):=by
 unfold E2 at h;split at h;rename_i i;refine⟨⟨i,rfl⟩,?_⟩;split at h;simp only[List.mem_filterMap]at h;obtain⟨f,_,H⟩:=h;split at H;split at H;rename_i j;split at H;rename_i q;simp only[AL,AJ]at H;obtain⟨rfl,rfl,rfl⟩:=H;rw[j,q]
 cases H
 cases H
 cases H;simp at h;simp at h
theorem ADD{h:Array Obj}{E:Nat->D}{vs:Nat->Value}{O i:Nat->Prop}{tm:Array Value}{t:Nat}{l:Loc}{r:Nat}{p:List PE}{g:Gd}(f:Ho l=some (r,p,g))(H:GU h E vs O i tm t l):
  Am E g->i r->∃is b o d x,EB E p=some is/\Ai is (E r)=some d/\Wk h is (vs r) b o x/\tm[t]?=some (.pointer (some ⟨b,o,none⟩)):=by
 cases l with
 |ad R J m G=>
  simp only[Ho,AL,AJ]at f
  obtain⟨rfl,rfl,rfl⟩:=f
  intro q j
  obtain⟨is,b,o,d,s,B,C,I⟩:=H q j
  exact⟨is,b,o,d,_,s,B,C,I⟩
 |aw R J G=>
  simp only[Ho,AL,AJ]at f
  obtain⟨rfl,rfl,rfl⟩:=f
  exact H
 |_=>simp[Ho]at f
theorem AXR{i I:Nat}{d q x y:D}(h:An [i] d x=some q)(j:Ai [I] d=some y):∃s,Ai [I] q=some s:=by
 cases d with
 |l xs=>
  simp only[An,Ae,AS,AL]at h
  obtain⟨_,⟨_,_,rfl⟩,rfl⟩:=h
  simp only[Ai]at j|-
  cases f:xs[I]? with
  |none=>rw[f]at j;simp at j
  |some Z=>
   have H:I<xs.length:=(List.getElem?_eq_some_iff.1 f).1
   exact⟨(xs.set i x)[I]'(by simpa using H),by simp[H]⟩
 |g xs=>
  simp only[An,Ae,AS,AL]at h
  obtain⟨_,⟨_,_,rfl⟩,rfl⟩:=h
  simp only[Ai]at j|-
  cases f:xs[I]? with
  |none=>rw[f]at j;simp at j
  |some Z=>
   have H:I<xs.length:=(List.getElem?_eq_some_iff.1 f).1
   exact⟨(xs.set i x)[I]'(by simpa using H),by simp[H]⟩
 |_=>simp[Ai]at j
def E6(st:List Fact)(k r:Nat):List (Nat×Gd):=if k<2 then slotsOf st r else(slotsOf st r).filter λx=>x.1==k-2
section
variable(cf:CF)(st:List Fact)(AA:Nat)(o:Oper)(g:Gd)
def Rg(k:Nat)(t:TypeId)(x v:Operand):Option (Pr×Sm):=
 match x with
 |.tmp s=>if g=[]/\o.dst=none/\F8 cf.P t=true then match Bm st s with
  |some l=>match Ho l with
   |some (r,p,[])=>
    (CB st r).bind λf=>match f.under p.length with
     |some es=>(Lz cf st g es v).bind λa=>
       if r∉a.2.1 then some (.up r p a.1,⟨[.sl s l,.en r f]++(a.2.2++((E6 st k r).map λx=>.sl x.1 (.is r x.2))++(E2 st k r p).map λx=>.sl x.1 x.2.1),r::a.2.1,
        .en AA f::((E6 st k r).map λx=>.sl x.1 (.is AA x.2))++(E2 st k r p).map λx=>.sl x.1 (.aw AA [x.2.2] [])⟩)
       else none
     |none=>none
   |_=>none
  |none=>none
  else none
 |_=>none
end
section
variable{cf:CF}{c:Cx}{F:Fact->Prop}{E:Nat->D}{a:Act}{w:World}{vs:Nat->Value}{Bs:Nat->List Nat}{AA:Nat}{g:Gd}{sm:Sm}{st:List Fact}{o:Oper}{p:Pr}
 {K:Nat->List D->List D->Prop}
theorem R4{fid:Nat->Nat}{h:Array Obj}{O X:Nat->Prop}:∀(is:List Nat)(s:Sh){es:Sh}(d J:D)(v:Value)(B:List Nat){V go:Nat}{y:Value}{cs:Array Value}{e:TypeId}{R:Nat×Nat},
  AE fid h O X s d v B->Ai is d=some J->s.under is.length=some es->Wk h is v V go y->h[V]?=some (.cells cs e R)->R=(0,0)
 |[],_,_,_,_,_,_,_,_,_,_,_,_=>λ_ _ _ k=>by simp[Wk]at k
 |i::is,s,es,d,J,v,B,V,go,y,cs,e,R=>λr x G j L=>by
  cases s with
  |v=>simp[Sh.under]at G
  |y=>simp[Sh.under]at G
  |a s=>simp[Sh.under]at G
  |m=>simp[Sh.under]at G
  |b s=>
   simp only[AO,Sh.under]at G
   simp only[AE]at r
   obtain⟨xs,b1,M,e1,T,B',rfl,rfl,rfl,H,Z,hl,he⟩:=r
   simp only[Ai]at x
   cases hx:xs[i]? with
   |none=>simp[hx]at x
   |some Q=>
    simp only[hx,Option.bind_some]at x
    simp only[Wk]at j
    obtain⟨b2,o2,N,e2,U,z',hv,f,hz,j⟩:=j
    obtain⟨q1,q2⟩:=hv.box
    subst q1 q2
    rw[H]at f
    injection f with f
    injection f with q5 q6 q7
    subst q5 q6 q7
    rcases j with⟨_,rfl,_,_⟩|⟨W,j⟩
    .rw[L]at H
     injection H with H
     injection H with _ _ q
     rw[q];exact Z
    .obtain⟨u,B1,C,_,Y⟩:=AM.get he hx
     rw[Array.getElem?_toList,hz]at C
     injection C with C
     subst C
     exact R4 is s Q J _ B1 Y x G j L
  |o s=>
   simp only[AO,Sh.under]at G
   cases d with
   |g xs=>
    simp only[AE]at r
    rcases r with⟨q|q,_⟩|⟨ys,I,r⟩
    .cases q
    .simp[D.flat]at q
    .cases I
   |l xs=>
    simp only[Ai]at x
    cases hx:xs[i]? with
    |none=>simp[hx]at x
    |some Q=>
     simp only[hx,Option.bind_some]at x
     simp only[AE]at r
     rcases r with⟨q|q,_⟩|⟨ys,I,r⟩
     .cases q
     .simp[D.flat]at q
     injection I with I;subst I
     rcases r with⟨_,rfl,_⟩|⟨b,off,cap,M,e1,T,B',rfl,rfl,H,Z,h1,h2,h3,he⟩
     .simp at hx
     simp only[Wk]at j
     obtain⟨b2,o2,N,e2,U,z',hv,f,hz,j⟩:=j
     obtain⟨q1,hil,q2⟩:=hv.slice
     subst q1 q2
     rw[H]at f
     injection f with f
     injection f with q5 q6 q7
     subst q5 q6 q7
     rcases j with⟨_,rfl,_,_⟩|⟨W,j⟩
     .rw[L]at H
      injection H with H
      injection H with _ _ q
      rw[q];exact Z
     .obtain⟨u,B1,C,_,Y⟩:=AM.get he hx
      rw[Ed,hz]at C
      injection C with C
      subst C
      exact R4 is s Q J _ B1 Y x G j L
   |_=>simp[Ai]at x
theorem Uf{k:Nat}{t:TypeId}{s:Nat}{v:Operand}{l:Loc}{r:Nat}{q:List PE}{j es:Sh}{α:A}{ks:List Nat}{ns:List Fact}(ho:o.op=.store t (.tmp s) v)(hg0:g=[])(hdst:o.dst=none)(hpl:F8 cf.P t=true)
  (had:Ho l=some (r,q,[])) (hes:j.under q.length=some es) (hrk:r∉ks)
  (h:At cf c F E a w vs Bs AA g p ⟨[.sl s l,.en r j]++(ns++((E6 st k r).map λx=>Fact.sl x.1 (.is r x.2))++(E2 st k r q).map λx=>Fact.sl x.1 x.2.1),r::ks,
   .en AA j::((E6 st k r).map λx=>Fact.sl x.1 (.is AA x.2))++(E2 st k r q).map λx=>Fact.sl x.1 (.aw AA [x.2.2] [])⟩) (hp:0<p.np) (hone:(ev E α).one=true)
  (hE':(q.mapM (PE.ev E)).bind (λis=>An is (E r) (ev E α))=some (E AA)) (hal:∀n∈ks,alive F n)
  (hput:∀O':Nat->Prop,(∀b,b<w.heap.size->O' b->OB F Bs b)->(es=.v->∀n∈ks,∀b∈Bs n,¬O' b)->
   ∃B,AE c.fid w.heap O' c.Xb es (ev E α) (a.eval v) B/\B.Nodup/\∀b∈B,∃n∈ks,b∈Bs n/\es≠.v):
  AV c o ⟨[.sl s l,.en r j]++(ns++((E6 st k r).map λx=>Fact.sl x.1 (.is r x.2))++(E2 st k r q).map λx=>Fact.sl x.1 x.2.1),r::ks,
   .en AA j::((E6 st k r).map λx=>Fact.sl x.1 (.is AA x.2))++(E2 st k r q).map λx=>Fact.sl x.1 (.aw AA [x.2.2] [])⟩ F E a w:=by
 have hP:c.P=cf.P:=h.fits.P;have Q:F (.en r j):=h.needs _ (by simp);have M:=h.H.own r j Q;obtain⟨is,J,go,d0,x0,k1,k2,k3,k4⟩:=ADD had (h.H.loc s l (h.needs _ (by simp))) (by intro x hx;simp at hx) ⟨j,Q⟩;have hev:a.eval (.tmp s)=.pointer (some ⟨J,go,none⟩):=by simp[Act.eval,CX,k4]
 have hne:is≠[]:=by rintro rfl;simp[Wk]at k3
 have hsu:j.under is.length=some es:=by rw[JV k1];exact hes
 obtain⟨b2,o2,x2,B2,w1,w2,w3,C⟩:=Wk.Iu is j es (E r) d0 (vs r) (Bs r) hne M k2 hsu;obtain⟨rfl,rfl,_⟩:=Wk.KA is k3 w1;have hq:q.mapM (PE.ev E)=some is:=k1;rw[hq,Option.bind_some]at hE';have hlt:∀n s,F (.en n s)->∀b∈Bs n,b<w.heap.size:=λn s hs=>AE.F2 s _ _ _ (h.H.own n s hs);have hO:=Rl h.H (ks:=r::ks) (es:=es) (N:=λb=>b∈Bs r) (λb f q=>⟨r,j,Q,q⟩);obtain⟨Bx,x1,hBxn,hBx0⟩:=hput _ hO (λq=>by subst q;refine QQ h.H (λn U=>BL _ U) hal (λn U b f hbr=>?_);obtain⟨rn,R⟩:=hal n U;exact h.H.apart n rn r j R Q (λe=>hrk (e▸U)) b f hbr);have hBx:∀b∈Bx,∃n∈ks,alive F n/\b∈Bs n/\es≠.v:=by intro b f;obtain⟨n,h1,h2,h3⟩:=hBx0 b f;exact⟨n,h1,hal n h1,h2,h3⟩
 have W:∀b∈Bx,b∉Bs r:=by intro b f hbr;obtain⟨n,U,⟨rn,R⟩,L,_⟩:=hBx b f;exact h.H.apart n rn r j R Q (λe=>hrk (e▸U)) b L hbr
 obtain⟨I,ge,gfz,T,c2⟩:=k3.cell;have hfz:gfz=(0,0):=R4 is j (E r) d0 (vs r) (Bs r) M k2 hsu k3 T;subst hfz;have hv1:=x1.one hone;have hrun:(execOp a.eval o).run c.P w=.ok .skip (w.setRow J (I.setIfInBounds go (a.eval v))):=by simp only[execOp,ho];rw[Sem.run_bind,hev,AGN (by rw[hP];exact hpl) T c2 hv1];rfl
 have G:=setRow_heap w J I (I.setIfInBounds go (a.eval v)) ge (0,0) T;have Y:Ao (λb=>b=J) w.heap (w.setRow J (I.setIfInBounds go (a.eval v))).heap:=⟨by simp,λb _ f=>setRow_other w J b _ f⟩
 have x1':AE c.fid (w.setRow J (I.setIfInBounds go (a.eval v))).heap (Nb F Bs (r::ks) es λb=>b∈Bs r) c.Xb es (ev E α) (a.eval v) Bx:=
  AE.ext Y (λb _ f=>.inr (.inr (by rw[f];exact C))) (λ_ _ q=>q) _ _ _ _ (λb f e=>W b f (by rw[e];exact C)) x1
 obtain⟨B',s1,s2,s3,_⟩:=AE.set (O:=OB F Bs) (λb f=>setRow_other w J b _ f) (by simp) T G ⟨r,j,Q,C⟩ hO x1' is j (E r) (E AA) (vs r) _ (Bs r) hne M (h.H.nodup r j Q) (λk hk hkx=>W k hkx hk) hBxn hsu hE' k3;have hfr:Bh F AA:=by simpa using h.fresh 0 hp
 have hrc:r≠AA:=by rintro rfl;exact hfr.1 _ Q
 have H1:=h.H.put (m:=AA) (s:=j) (v:=vs r) (B:=B') (dst:=none) (ns:=[]) hfr (by simp[BW]) (r::ks) (Y.mono λb _ f=>⟨r,j,Q,by simp,by rw[f];exact C⟩) rfl rfl rfl
  (AE.ext (Ao.refl (λ_=>False) _) (λ_ _ q=>q.elim) (λb _ f=>by
   rcases f with f|f
   .exact .inl f
   .rcases s2 b f with f|f
    .exact .inr (.inr f)
    .obtain⟨n,U,ha,L,hesv⟩:=hBx b f
     exact .inr (.inl ⟨hesv,n,BL _ U,ha,L⟩)) _ _ _ _ (λ_ _ q=>q) s1) s3
  (λb f=>by
   rcases s2 b f with f|f
   .exact .inl ⟨r,j,Q,by simp,f⟩
   .obtain⟨n,U,⟨rn,R⟩,L,_⟩:=hBx b f
    exact .inl ⟨n,rn,R,BL _ U,L⟩) h.g
 refine AV.PY hrun hdst ⟨AQ vs AA (vs r),AQ Bs AA B',?_⟩;refine H1.FT ?_ ?_
 .intro n s';simp only[next,one,List.cons_append,AY,Ac,List.mem_map,Cy,or_false];constructor
  .rintro(q|q|⟨_,_,q⟩|⟨_,_,q⟩)
   .exact .inl q
   .exact .inr q
   .cases q
   .cases q
  .rintro(q|q)
   .exact .inl q
   .exact .inr (.inl q)
 .intro t' l' hf;rcases hf with⟨q1,_⟩|q
  .exact .inl (.inl ⟨q1,by simp⟩)
  .simp only[List.cons_append,AY,Ac,List.mem_map]at q;rcases q with q|⟨⟨u,gu⟩,hu,q⟩|⟨⟨u,lu,e2⟩,hu,q⟩
   .cases q
   .injection q with q1 q2;subst q1 q2;have hf0:F (.sl u (.is r gu)):=h.needs _ (by simp only[Ac,List.mem_map];exact .inr (.inl (.inr ⟨(u,gu),hu,rfl⟩)));have:=H1.loc u (.is r gu) (.inl ⟨hf0,by simp⟩);right;refine⟨λhg=>?_,this.2⟩;have h1:=this.1 hg;rw[BX vs _ hrc]at h1;rw[BD];exact h1
   .injection q with q1 q2;subst q1 q2;right;intro hg _;obtain⟨⟨e0,hq0⟩,had2⟩:=AdJ hu;subst hq0;have hf0:F (.sl u lu):=h.needs _ (by simp only[Ac,List.mem_map];exact .inr (.inr ⟨(u,lu,e2),hu,rfl⟩));obtain⟨is2,b2,o2,d2,y2,j1,j2,j3,j4⟩:=ADD had2 (h.H.loc u lu hf0) hg ⟨j,Q⟩;have l1:is.length=1:=JV k1;have l2:is2.length=1:=JV j1;match is,l1,is2,l2 with
    |[i],_,[i2],_=>
     obtain⟨zz,hz⟩:=AXR hE' j2
     simp only[Wk]at j3
     obtain⟨b',o3,cs,e,fz,y,e1,e3,e4,⟨_,rfl,rfl,rfl⟩|⟨q,_⟩⟩:=j3
     .have hcell:∃V y',(w.setRow J (I.setIfInBounds go (a.eval v))).heap[b2]?=some (.cells V e fz)/\V[o2]?=some y':=by
       by_cases hbb:b2=J
       subst hbb
       rw[e3]at T
       injection T with T
       injection T with T c1' c1''
       subst T c1' c1''
       have Z:o2<cs.size:=(Array.getElem?_eq_some_iff.1 e4).1
       exact⟨_,(cs.setIfInBounds go (a.eval v))[o2]'(by simpa using Z),G,Array.getElem?_eq_getElem (by simpa using Z)⟩
       exact⟨cs,_,(setRow_other w J b2 _ hbb).trans e3,e4⟩
      obtain⟨V,y',m1,m2⟩:=hcell
      refine⟨[i2],b2,o2,zz,y',j1,hz,?_,by rw[Du (by simp)];exact j4⟩
      simp only[Wk]
      exact⟨b2,o2,V,e,fz,y',by rw[BD];exact e1,m1,m2,.inl ⟨trivial,rfl,rfl,rfl⟩⟩
     .exact(q rfl).elim
theorem AMJ{k:Nat}{t:TypeId}{x v:Operand}(ho:o.op=.store t x v)(i:Rg cf st AA o g k t x v=some (p,sm))(h:At cf c F E a w vs Bs AA g p sm)(Z:Aw K E AA p):AV c o sm F E a w:=by
 unfold Rg at i;split at i;rename_i s;split at i;rename_i hc;obtain⟨R,I,T⟩:=hc;split at i;rename_i l hl;split at i;rename_i r q M;simp only[AS]at i;obtain⟨sr,hsr,i⟩:=i;split at i;rename_i es N;simp only[AS]at i;obtain⟨⟨α,ks,ns⟩,B,i⟩:=i;simp only at i;split at i;rename_i U;simp only[AL,AJ]at i;obtain⟨rfl,rfl⟩:=i;have C:(if(ev E α).one=true then(q.mapM (PE.ev E)).bind λis=>An is (E r) (ev E α)else none)=some (E AA):=Z;split at C;rename_i J;have j:∀f∈ns,f∈([.sl s l,.en r sr]++(ns++((E6 st k r).map λx=>Fact.sl x.1 (.is r x.2))++(E2 st k r q).map λx=>Fact.sl x.1 x.2.1)):=λf hf=>by simp[hf]
 have G:∀n∈ks,alive F n:=by obtain⟨_,_,_,k⟩:=Ic (O':=λ_=>False) B h j (λ_ _ q=>q.elim) (λ_ _ _ _ _ q=>q);exact k
 refine Uf ho R I T M N U h (by simp[Pr.np]) J C G λO' hO Q=>?_;obtain⟨Y,x1,L,_⟩:=Ic B h j hO Q;refine⟨Y,x1,?_,λb W=>?_⟩;rcases L with⟨_,rfl⟩|⟨n,rfl,rfl,q⟩;simp;obtain⟨rn,V⟩:=G n (by simp);exact h.H.nodup n rn V;rcases L with⟨_,rfl⟩|⟨n,rfl,rfl,q⟩;simp at W;exact⟨n,by simp,W,q⟩
 cases C
 cases i
 cases i
 cases i
 cases i
 cases i
 cases i
end
end Go.Cat
namespace Go.Cat
section
variable(cf:CF)(st:List Fact)(AA:Nat)(o:Oper)(g:Gd)
def Mz:Option Operand->Option (Option A×List Fact)
 |none=>some (none,[])
 |some x=>(A5 cf st g x).map λa=>(some a.1,a.2.2)
def WB(t:TypeId)(x:Operand)(lo hi mx:Option Operand):Option (Pr×Sm):=
 if mx.isSome then none else
 (A5 cf st g x).bind λa=>(Mz cf st g lo).bind λl=>(Mz cf st g hi).bind λh=>
  if isStr cf.P t=true then FI cf AA o g (.ss a.1 l.1 h.1) .v (a.2.2++(l.2++h.2))
  else if(FX cf.P t).isSome=true then
   if a.2.1=.v then FI cf AA o g (.sb false a.1 l.1 h.1) .v (a.2.2++(l.2++h.2))
   else if a.2.1=.y then FI cf AA o g (.sb false a.1 l.1 h.1) .y (a.2.2++(l.2++h.2))
   else if a.2.1=.o .v/\g=[]/\BW o.dst cf.nt=true then match a.1 with
    |.e n=>some (.sb true a.1 l.1 h.1,⟨a.2.2++(l.2++h.2),[n],one AA (.o .v) o.dst (.is AA g)⟩)
    |.c _=>none
   else none
  else none
def P7(P:Program)(t:TypeId):Bool:=match FX P t with
 |some (e,_)=>match P.underlying e with
  |some (.int .u8)=>true
  |_=>false
 |none=>false
def Rw(s d:TypeId)(x:Operand):Option (Pr×Sm):=
 if P7 cf.P s=true/\isStr cf.P d=true then(A5 cf st g x).bind λa=>FI cf AA o g (.bs a.1) .v a.2.2
 else none
def WG(x:Operand):Option (Pr×Sm):=
 match x,o.dst with
 |.tmp t,some d=>if d<cf.nt then match Bm st t with
  |some (.tu ns G)=>if G.isPrefixOf g then some (.nop,⟨[.sl t (.tu ns G)],[],[.sl d (.tu ns g)]⟩)else none
  |_=>none
  else none
 |_,_=>none
end
section
variable{P:Program}{w:World}
theorem Zi{isS:Bool}{len cap:Nat}{lo hi:Option Value}{l h:Nat}(H:(lo=none/\l=0)\/∃k,lo=some (.int k (l:Int)))(i:(hi=none/\h=len)\/∃k,hi=some (.int k (h:Int)))
  (f:l<=h) (j:h<=cap):(Instr.sliceBounds isS len cap lo hi none).run P w=.ok (l,h,cap) w:=by
 rcases H with⟨rfl,rfl⟩|⟨q,rfl⟩<;>rcases i with⟨rfl,rfl⟩|⟨s,rfl⟩
 .simp[Instr.sliceBounds]
 .simp[Instr.sliceBounds,run_sliceBound,j]
 .simp[Instr.sliceBounds,run_sliceBound,f]
 .simp[Instr.sliceBounds,run_sliceBound,f,j]
theorem Ri{t e:TypeId}{T:TypeInfo}(H:FX P t=some (e,T)){a:Option Addr}{len cap:Nat}{lo hi:Option Value}{l h:Nat}
  (f:(lo=none/\l=0)\/∃k,lo=some (.int k (l:Int))) (i:(hi=none/\h=len)\/∃k,hi=some (.int k (h:Int))) (s:l<=h) (x:h<=cap):
  (Instr.sliceAt t (.slice a len cap) lo hi none).run P w=.ok (.slice (if cap=l then a else a.map (·.add l)) (h-l) (cap-l)) w:=by obtain⟨G,j,q⟩:=Lk H;have:=Zi (P:=P) (w:=w) (isS:=true) f i s x;simp[Instr.sliceAt,Instr.slice,run_underlying G,this,sizeOf,typeInfo,j,q]
theorem AOJ{t:TypeId}(q:P.underlying t=some .string){s:ByteArray}{lo hi:Option Value}{l h:Nat}
  (H:(lo=none/\l=0)\/∃k,lo=some (.int k (l:Int))) (i:(hi=none/\h=s.size)\/∃k,hi=some (.int k (h:Int))) (f:l<=h) (j:h<=s.size):
  (Instr.sliceAt t (.string s) lo hi none).run P w=.ok (.string (s.extract l h)) w:=by have:=Zi (P:=P) (w:=w) (isS:=false) H i f j;simp[Instr.sliceAt,Instr.slice,run_underlying q,this]
theorem AcN(x:List Nat)(l h:Nat):Value.string ((⟨(x.map λc=>UInt8.ofNat c).toArray⟩:ByteArray).extract l h)=BJ ((x.take h).drop l):=by unfold BJ;congr 1;apply ByteArray.ext;simp only[ByteArray.data_extract];apply Array.ext';simp[List.map_drop,List.map_take,List.drop_take]
end
theorem ARL{E:Nat->D}{j:Option A}{f n:Nat}(h:bound (j.map (ev E)) f=some n):(j=none/\n=f)\/∃α k,j=some α/\ev E α=.i k (n:Int):=by
 cases j with
 |none=>simp[bound]at h;exact .inl ⟨rfl,h.symm⟩
 |some α=>
  simp only[Option.map_some,bound]at h
  split at h
  .rename_i H;cases H
  .rename_i k z H
   split at h
   .rename_i l
    injection h with h
    injection H with H
    exact .inr ⟨α,k,rfl,by rw[H,<-h,Int.toNat_of_nonneg l]⟩
   .cases h
  .cases h
section
variable{cf:CF}{c:Cx}{F:Fact->Prop}{E:Nat->D}{a:Act}{w:World}{vs:Nat->Value}{Bs:Nat->List Nat}{AA:Nat}{g:Gd}{sm:Sm}{st:List Fact}{o:Oper}{p:Pr}
 {K:Nat->List D->List D->Prop}
theorem JT{x:Option Operand}{C:Option A}{ns:List Fact}(H:Mz cf st g x=some (C,ns))(h:At cf c F E a w vs Bs AA g p sm)(G:∀f∈ns,f∈sm.needs){i n:Nat}(j:bound (C.map (ev E)) i=some n):
  (x.map a.eval=none/\n=i)\/∃k,x.map a.eval=some (.int k (n:Int)):=by
 cases x with
 |none=>
  simp only[Mz,AL,AJ]at H
  obtain⟨rfl,rfl⟩:=H
  simp[bound]at j
  exact .inl ⟨rfl,j.symm⟩
 |some x=>
  simp only[Mz,Ae,AJ]at H
  obtain⟨⟨α,s,n1⟩,h1,rfl,rfl⟩:=H
  rcases ARL j with⟨q,_⟩|⟨α',k,q,he⟩
  .cases q
  .injection q with q;subst q
   obtain⟨B,l,_⟩:=h.A5 h1 G
   rw[he]at l
   exact .inr ⟨k,by simp[l.int]⟩
theorem AP.part{fid:Nat->Nat}{h:Array Obj}{Z:Nat->Prop}:∀(l:Nat){s:List D}{vs:List Value},AP fid h Z s vs->AP fid h Z (s.drop l) (vs.drop l)
 |0,s,vs,r=>by simpa using r
 |l+1,[],vs,_=>by simp[AP]
 |l+1,d::s,[],r=>by simp[AP]at r
 |l+1,d::s,v::vs,r=>by simp only[AP]at r;simpa using AP.part l r.2
theorem AP.head{fid:Nat->Nat}{h:Array Obj}{Z:Nat->Prop}:∀(l:Nat){s:List D}{vs:List Value},AP fid h Z s vs->AP fid h Z (s.take l) vs
 |0,s,vs,r=>by simp[AP]
 |l+1,[],vs,_=>by simp[AP]
 |l+1,d::s,[],r=>by simp[AP]at r
 |l+1,d::s,v::vs,r=>by simp only[AP,List.take_succ_cons]at r|-;exact⟨r.1,AP.head l r.2⟩
theorem S3{d f:D}{lo hi:Option D}(h:Ec d lo hi=some f):∃xs l r,d=.l xs/\bound lo 0=some l/\bound hi xs.length=some r/\l<=r/\r<=xs.length/\f=.l ((xs.take r).drop l):=by
 unfold Ec at h;split at h;rename_i xs;split at h;rename_i l r i j;split at h;rename_i H;injection h with h;exact⟨xs,l,r,rfl,i,j,H.1,H.2,h.symm⟩
 cases h
 cases h
 cases h
theorem AS6{d f:D}{lo hi:Option D}(h:Gj d lo hi=some f):∃xs l r,d=.s xs/\bound lo 0=some l/\bound hi xs.length=some r/\l<=r/\r<=xs.length/\f=.s ((xs.take r).drop l):=by
 unfold Gj at h;split at h;rename_i xs;split at h;rename_i l r i j;split at h;rename_i H;injection h with h;exact⟨xs,l,r,rfl,i,j,H.1,H.2,h.symm⟩
 cases h
 cases h
 cases h
theorem Rd.sub{fid:Nat->Nat}{h:Array Obj}{Z:Nat->Prop}{xs:List D}{v:Value}{l r:Nat}(s:Rd fid h Z (.l xs) v)(G:l<=r)(i:r<=xs.length):
  ∃ad cap,v=.slice ad xs.length cap/\r<=cap/\Rd fid h Z (.l ((xs.take r).drop l)) (.slice (if cap=l then ad else ad.map (·.add l)) (r-l) (cap-l)):=by
 simp only[Rd]at s;rcases s with⟨rfl,B,rfl⟩|⟨b,off,cap,cs,e,f,rfl,j,x,C,I⟩
 .simp at i;subst i;have:l=0:=by omega
  subst this;exact⟨B,0,rfl,by omega,by simp[Rd]⟩
 .refine⟨_,cap,rfl,by omega,?_⟩;simp only[Rd];have H:((xs.take r).drop l).length=r-l:=by simp;omega
  by_cases q:cap=l
  .have:r=l:=by omega
   subst this;refine .inr ⟨b,off,0,cs,e,f,by simp[q],j,x,?_,by simp⟩;have:(xs.take r).drop r=[]:=Dd (by rw[H];omega);rw[this];simp[AP]
  .refine .inr ⟨b,off+l,cap-l,cs,e,f,by simp[q,Addr.add_lit];omega,j,x,?_,by rw[H];omega⟩;have:=AP.part l (AP.head r C);rwa [List.drop_drop]at this
theorem Sw{P:Program}{t:TypeId}(h:isStr P t=true):P.underlying t=some .string:=by
 unfold isStr at h;split at h;assumption
 cases h
theorem OA{t:TypeId}{x:Operand}{lo hi:Option Operand}(H:o.op=.slice t x lo hi none){v:Value}(h:(Instr.sliceAt t (a.eval x) (lo.map a.eval) (hi.map a.eval) none).run c.P w=.ok v w):(execOp a.eval o).run c.P w=.ok (.value v) w:=by simp only[execOp,H];exact C9 h
theorem AYX{t:TypeId}{x:Operand}{lo hi mx:Option Operand}(ho:o.op=.slice t x lo hi mx)(j:WB cf st AA o g t x lo hi mx=some (p,sm))(h:At cf c F E a w vs Bs AA g p sm)(hE:Aw K E AA p):AV c o sm F E a w:=by
 unfold WB at j;split at j
 cases j;rename_i hmx;have hmx:mx=none:=by cases mx<;>simp_all
 subst hmx;simp only[AS]at j;obtain⟨⟨α,sx,n1⟩,h1,⟨l1,n2⟩,h2,⟨r1,n3⟩,h3,j⟩:=j;simp only at j;have hP:c.P=cf.P:=h.fits.P;split at j;rename_i hstr;obtain⟨rfl,L,rfl⟩:=Fj j;have G:Gj (ev E α) (l1.map (ev E)) (r1.map (ev E))=some (E AA):=hE;obtain⟨xs,l,r,V,W,Y,Q,R,T⟩:=AS6 G;obtain⟨B,C,_⟩:=h.A5 h1 (λf i=>BN _ i);rw[V]at C;obtain⟨k1,k2,k3⟩:=C.str;have b1:=JT h2 h (λf i=>BB _ (BN _ i)) W;have b2:=JT h3 h (λf i=>BB _ (BB _ i)) Y;refine Fk h L (CS w) (v:=BJ ((xs.take r).drop l)) (OA ho ?_) (AE.Jb λZ=>?_);rw[k1,<-AcN];exact AOJ (by rw[hP];exact Sw hstr) b1 (by rw[Pd];exact b2) Q (by rw[Pd];exact R);rw[T];simp only[Rd];refine⟨trivial,λc hc=>k2 c (List.mem_of_mem_take (List.mem_of_mem_drop hc)),?_⟩;simp;omega;split at j;rename_i J;obtain⟨⟨e,ti⟩,J⟩:=Option.isSome_iff_exists.1 J;split at j;rename_i I;subst I;obtain⟨rfl,L,rfl⟩:=Fj j;have G:Ec (ev E α) (l1.map (ev E)) (r1.map (ev E))=some (E AA):=hE;obtain⟨xs,l,r,V,W,Y,Q,R,T⟩:=S3 G;obtain⟨B,C,_⟩:=h.A5 h1 (λf i=>BN _ i);rw[V]at C;have b1:=JT h2 h (λf i=>BB _ (BN _ i)) W;have b2:=JT h3 h (λf i=>BB _ (BB _ i)) Y;simp only[AE]at C;obtain⟨ad,cap,hv,hrc,hr⟩:=C.2.sub Q R;refine Fk h L (CS w) (OA ho (by rw[hv];exact Ri (by rw[hP];exact J) b1 b2 Q hrc)) ?_;rw[T];simp only[AE];exact⟨trivial,hr⟩;split at j;rename_i I;subst I;obtain⟨rfl,L,rfl⟩:=Fj j;have G:Ec (ev E α) (l1.map (ev E)) (r1.map (ev E))=some (E AA):=hE;obtain⟨xs,l,r,V,W,Y,Q,R,T⟩:=S3 G;obtain⟨B,C,_⟩:=h.A5 h1 (λf i=>BN _ i);rw[V]at C;have b1:=JT h2 h (λf i=>BB _ (BN _ i)) W;have b2:=JT h3 h (λf i=>BB _ (BB _ i)) Y;simp only[AE]at C;obtain⟨ad,cap,hv,hrc,hr⟩:=C.2.sub Q R;refine Fk h L (CS w) (OA ho (by rw[hv];exact Ri (by rw[hP];exact J) b1 b2 Q hrc)) ?_;rw[T];simp only[AE];exact⟨trivial,hr⟩;split at j;rename_i I;obtain⟨I,hg0,hin⟩:=I;subst I;split at j;rename_i n;simp only[AL,AJ]at j;obtain⟨rfl,rfl⟩:=j;have G:Ec (ev E (.e n)) (l1.map (ev E)) (r1.map (ev E))=some (E AA):=hE;obtain⟨xs,l,r,V,W,Y,Q,R,T⟩:=S3 G;obtain⟨B,C,hn'⟩:=h.A5 h1 (λf i=>BN _ i)
 obtain⟨k1,k2,k3⟩:=hn' n rfl;rw[V]at C;have b1:=JT h2 h (λf i=>BB _ (BN _ i)) W;have b2:=JT h3 h (λf i=>BB _ (BB _ i)) Y;have M:((xs.take r).drop l).length=r-l:=by simp;omega
 have hfr:Bh F AA:=by simpa using h.fresh 0 (by simp[Pr.np])
 have U:BW o.dst c.nt=true:=by rw[h.fits.nt];exact hin
 have hOk:∀b,b<w.heap.size->(EE F Bs (λk=>k∈[n]) b\/b∈B)->OB F Bs b:=by rintro b _ (⟨m,s,q1,_,q3⟩|q);exact⟨m,s,q1,q3⟩;exact⟨n,_,k1,k3▸q⟩
 have hB':=C;simp only[AE]at C;rcases C with⟨q|q,_⟩|⟨ys,hy,C⟩
 cases q;simp[D.flat]at q;injection hy with hy;subst hy;rcases C with⟨hv,rfl,rfl⟩|⟨b,off,cap,cs,e',fz,B',rfl,hv,hb,htw,q1,q2,q3,he⟩;simp at R;subst R;have:l=0:=by omega
 subst this;have N:=OA (c:=c) (w:=w) (a:=a) ho (by rw[hv];exact Ri (by rw[hP];exact J) b1 b2 Q (Nat.le_refl 0));refine AV.B6 N ⟨AQ vs AA _,AQ Bs AA [],h.H.put hfr U [n] (Ao.refl _ _) rfl rfl rfl ?_ (by simp) (by simp) h.g⟩;rw[T];simpa using AE.nil;have N:=OA (c:=c) (w:=w) (a:=a) ho (by rw[hv];exact Ri (by rw[hP];exact J) b1 b2 Q (show r<=cap by omega));refine AV.B6 N ⟨AQ vs AA _,AQ Bs AA (b::B'),h.H.put hfr U [n] (Ao.refl _ _) rfl rfl rfl ?_ (by rw[k3];exact h.H.nodup n _ k1) (λk hk=>.inl ⟨n,_,k1,by simp,k3▸hk⟩) h.g⟩;rw[T];obtain⟨rfl,hrd⟩:=Fc.1 he
 have hrd':AP c.fid w.heap (λk=>(EE F Bs (λk=>k∈[n]) k\/k∈[b])\/c.Xb k) xs (cs.toList.drop off):=
  AP.mono hrd λk hk q=>q.imp (hOk k hk) id
 simp only[AE];refine .inr ⟨_,rfl,.inr ?_⟩;by_cases hc:cap=l;have:r=l:=by omega
 subst this;have h0:(xs.take r).drop r=[]:=Dd (by rw[M];omega);rw[h0];refine⟨b,off,0,cs,e',fz,[],rfl,by simp[hc],hb,htw,by simp,by omega,by simp,by simp[AM]⟩;refine⟨b,off+l,cap-l,cs,e',fz,[],rfl,by rw[M];simp[hc,Addr.add_lit],hb,htw,by rw[M];omega,by omega,by omega,Fc.2 ⟨rfl,?_⟩⟩;have:=AP.part l (AP.head r hrd');rwa [List.drop_drop]at this
 cases j
 cases j
 cases j
end
end Go.Cat
namespace Go.Cat
theorem Yr:∀{xs:List D}{ns:List Nat},bytesOf xs=some ns->xs=ns.map (λ(n:Nat)=>D.i .u8 (n:Int))/\∀n∈ns,n<256
 |[],ns,h=>by simp[bytesOf]at h;subst h;simp
 |d::xs,ns,h=>by
  unfold bytesOf at h;split at h;simp_all;rename_i n s q
  cases q;split at h;rename_i l;simp only[Ae]at h;obtain⟨ms,f,rfl⟩:=h;obtain⟨rfl,j⟩:=Yr f;refine⟨?_,?_⟩;simp[Int.toNat_of_nonneg l.1];intro m H;rcases AY.1 H with rfl|H;omega;exact j m H
  cases h
  cases h
theorem AP.bytes{fid:Nat->Nat}{h:Array Obj}{Z:Nat->Prop}:∀{ns:List Nat}{vs:List Value},vs.length=ns.length->AP fid h Z (ns.map (λ(n:Nat)=>D.i .u8 (n:Int))) vs->vs=(ns.map (λ(n:Nat)=>(n:Int))).map (Value.int .u8)
 |[],[],_,_=>rfl
 |[],_::_,l,_=>by simp at l
 |n::ns,[],l,_=>by simp at l
 |n::ns,v::vs,l,r=>by simp only[List.map_cons,AP,Rd]at r;rw[r.1,AP.bytes (by simpa using l) r.2];simp
theorem AG5:∀(ns:List Nat)(s:ByteArray),(ns.map (λ(n:Nat)=>(n:Int))).foldl (λr n=>r.push (UInt8.ofNat n.toNat)) s=⟨s.data++(ns.map λc=>UInt8.ofNat c).toArray⟩
 |[],s=>by simp
 |n::ns,s=>by simp only[List.map_cons,List.foldl_cons,BM];rw[AG5 ns];apply ByteArray.ext;simp
section
variable{cf:CF}{c:Cx}{F:Fact->Prop}{E:Nat->D}{a:Act}{w:World}{vs:Nat->Value}{Bs:Nat->List Nat}{AA:Nat}{g:Gd}{sm:Sm}{st:List Fact}{o:Oper}{p:Pr}
 {K:Nat->List D->List D->Prop}
theorem AE.news{fid:Nat->Nat}{h:Array Obj}{O X:Nat->Prop}{s:Sh}{Y:List D}{v:Value}{B:List Nat}(I:s=.v\/s=.y\/s=.o .v)(r:AE fid h O X s (.l Y) v B):
  ∃(news:List Value)(Z:Nat->Prop),(((∃a,v=.slice a 0 0)/\news=[])\/∃b off cap cs e f,v=.slice (some ⟨b,off,none⟩) news.length cap/\h[b]?=some (.cells cs e f)/\∀(j:Nat)(u:Value),news[j]?=some u->cs[off+j]?=some u)/\
   news.length=Y.length/\AP fid h Z Y news:=by
 rcases I with rfl|rfl|rfl
 .simp only[AE]at r;obtain⟨news,H,i,x⟩:=r.2.news;refine⟨news,_,?_,i,x⟩;rcases H with H|⟨b,off,cap,cs,e,f,q,Q,G,C⟩
  .exact .inl H
  .exact .inr ⟨b,off,cap,cs,e,f,q,G,C⟩
 .simp only[AE]at r;obtain⟨news,H,i,x⟩:=r.2.news;refine⟨news,_,?_,i,x⟩;rcases H with H|⟨b,off,cap,cs,e,f,q,Q,G,C⟩
  .exact .inl H
  .exact .inr ⟨b,off,cap,cs,e,f,q,G,C⟩
 .obtain⟨news,H,i,x⟩:=r.Az;refine⟨news,_,?_,i,x⟩;rcases H with⟨q,Q,_⟩|⟨b,off,cap,cs,e,_,q,Q,_,_,C⟩
  .exact .inl ⟨⟨_,q⟩,Q⟩
  .exact .inr ⟨b,off,cap,cs,e,_,q,Q,C⟩
theorem AVI{P:Program}{t:TypeId}(h:P7 P t=true):∃e,P.underlying t=some (.slice e)/\P.underlying e=some (.int .u8):=by
 unfold P7 at h;split at h;rename_i e i l;split at h;rename_i he;exact⟨e,(Lk l).1,he⟩
 cases h
 cases h
def Lt:Sh->Bool
 |.v=>true
 |.y=>true
 |.o .v=>true
 |_=>false
theorem AaV{s d:TypeId}{x:Operand}(ho:o.op=.convert s d x)(l:Rw cf st AA o g s d x=some (p,sm))(Q:∀α sh ns,A5 cf st g x=some (α,sh,ns)->Lt sh=true)(h:At cf c F E a w vs Bs AA g p sm)(hE:Aw K E AA p):AV c o sm F E a w:=by
 unfold Rw at l;split at l;rename_i hc;obtain⟨h1,h2⟩:=hc;simp only[AS]at l;obtain⟨⟨α,sh,ns⟩,hx,l⟩:=l;have i:=Q _ _ _ hx;obtain⟨rfl,M,rfl⟩:=Fj l;obtain⟨B,L,_⟩:=h.A5 hx (λf hf=>hf);have H:Iz (ev E α)=some (E AA):=hE;unfold Iz at H;split at H;rename_i xs T;simp only[Ae]at H;obtain⟨ms,hb,H⟩:=H;obtain⟨R,N⟩:=Yr hb;rw[T]at L;have C:=L.len;obtain⟨news,Z,k1,U,k3⟩:=L.news (by cases sh with|v=>simp|y=>simp|b s=>simp[Lt]at i|a s=>simp[Lt]at i|m=>simp[Lt]at i|o s=>cases s<;>simp_all[Lt]);subst R;have G:=AP.bytes (by simpa using U) k3;obtain⟨e,e1,e2⟩:=AVI h1;have q:c.P=cf.P:=h.fits.P;have I:(convert s d (a.eval x)).run c.P w=.ok (BJ ms) w:=by
  rcases k1 with⟨⟨Y,V⟩,W⟩|⟨b,off,cap,cs,e',fz,V,W,q3⟩;rw[V,run_convert_bytes_string w s d e Y 0 0 (by rw[q];exact e1) (by rw[q];exact e2) (by rw[q];exact Sw h2)]
  have:ms=[]:=Dd (by rw[W]at U;simpa using U.symm);subst this
  cases Y<;>simp[Conv.bytesToString,BJ,loadCells,loadCellsFrom]<;>rfl;rw[V,run_convert_bytes_string w s d e _ _ _ (by rw[q];exact e1) (by rw[q];exact e2) (by rw[q];exact Sw h2)];have J:=run_loadCells_list (P:=c.P) w ⟨b,off,none⟩ news (λj v hj=>by rw[Addr.add_lit];simp[World.cell?,W,q3 j v hj]);rw[G]at J;rw[run_bytesToString w ⟨b,off,none⟩ news.length cap (ms.map λ(n:Nat)=>(n:Int)) (by rw[<-J];congr 2;rw[G])];rw[AG5];unfold BJ;congr 2;apply ByteArray.ext;simp
 refine Fk h M (CS w) (v:=BJ ms) ?_ (AE.Jb λZ=>?_);simp only[execOp,ho];exact C9 I;rw[<-H];simp only[Rd];refine⟨trivial,N,?_⟩;obtain⟨_,_,_,J⟩:=C;simpa using J
 cases H
 cases l
theorem AXH{x:Operand}(s:(execOp a.eval o).run c.P w=.ok (.value (a.eval x)) w)(f:WG cf st o g x=some (p,sm))(h:At cf c F E a w vs Bs AA g p sm):AV c o sm F E a w:=by
 unfold WG at f;split at f;rename_i t d hd;split at f;rename_i q;split at f;rename_i ns G B;split at f;rename_i j;simp only[AL,AJ]at f;obtain⟨rfl,rfl⟩:=f;have l:a.tmps[t]?=some (.tuple (ns.map vs).toArray):=h.H.loc t (.tu ns G) (h.needs _ (by simp)) (JD j h.g);have i:a.eval (.tmp t)=.tuple (ns.map vs).toArray:=by simp[Act.eval,CX,l]
 refine AV.B6 s ⟨vs,Bs,?_⟩;rw[hd];refine h.H.slot (CS w) ?_;intro _;rw[i];exact FY (by rw[h.H.size,h.fits.nt];exact q)
 cases f
 cases f
 cases f
 cases f
end
end Go.Cat
namespace Go.Cat
def nested:Sh->Option Sh
 |.o (.o s)=>some (.o s)
 |_=>none
theorem AdE{s e:Sh}(h:nested s=some e):s=.o e:=by
 unfold nested at h;split at h
 cases h;rfl
 cases h
section
variable(cf:CF)(st:List Fact)(AA:Nat)(o:Oper)(g:Gd)
def UW(t:TypeId)(s x:Operand):Option (Pr×Sm):=
 match FX cf.P t with
 |some (_,i)=>if Oz i=true/\i.bytes<=128/\BW o.dst cf.nt=true/\g=[]then
   (A5 cf st g s).bind λr=>(A5 cf st g x).bind λb=>match r.1,b.1 with
    |.e n,.e m=>if r.2.1=b.2.1/\n≠m/\(nested r.2.1).isSome=true then
      some (.ap false (.e n) (.e m),⟨r.2.2++b.2.2,[n,m],one AA r.2.1 o.dst (.is AA g)⟩)else none
    |_,_=>none
  else none
 |none=>none
end
theorem AM.take{R:D->Value->List Nat->Prop}:∀{s:List D}{vs:List Value}{B:List Nat},AM R s vs B->AM R s (vs.take s.length) B/\(vs.take s.length).length=s.length
 |[],_,_,h=>by simp only[AM]at h;simp[AM,h]
 |d::s,[],_,r=>by simp[AM]at r
 |d::s,v::vs,B,r=>by simp only[AM]at r;obtain⟨B1,B2,rfl,H,f⟩:=r;have:=AM.take f;simp only[AO,List.take_succ_cons,AM];exact⟨⟨B1,B2,rfl,H,this.1⟩,by simpa using this.2⟩
theorem AM.append{R:D->Value->List Nat->Prop}:∀{s es:List D}{vs us:List Value}{B C:List Nat},vs.length=s.length->AM R s vs B->AM R es us C->AM R (s++es) (vs++us) (B++C)
 |[],es,[],us,B,C,_,r,q=>by simp only[AM]at r;subst r;simpa using q
 |[],es,_::_,us,_,_,l,_,_=>by simp at l
 |d::s,es,[],us,_,_,l,_,_=>by simp at l
 |d::s,es,v::vs,us,B,C,l,r,q=>by simp only[AM,List.cons_append]at r|-;obtain⟨B1,B2,rfl,H,f⟩:=r;exact⟨B1,B2++C,by simp,H,AM.append (by simpa using l) f q⟩
theorem AM.congr{R:D->Value->List Nat->Prop}:∀{s:List D}{vs us:List Value}{B:List Nat},(∀(j:Nat)(v:Value),vs[j]?=some v->us[j]?=some v)->AM R s vs B->AM R s us B
 |[],_,_,_,_,h=>by simpa[AM]using h
 |d::s,[],us,_,_,r=>by simp[AM]at r
 |d::s,v::vs,[],_,H,_=>by have:=H 0 v (by simp);simp at this
 |d::s,v::vs,u::us,B,H,r=>by simp only[AM]at r|-;have h0:=H 0 v (by simp);simp at h0;subst h0;obtain⟨B1,B2,rfl,f,i⟩:=r;exact⟨B1,B2,rfl,f,AM.congr (λj v l=>by simpa using H (j+1) v (by simpa using l)) i⟩
theorem AE.ARX{fid:Nat->Nat}{h:Array Obj}{O X:Nat->Prop}{s:Sh}{d:D}{v:Value}{B:List Nat}(r:AE fid h O X (.o s) d v B)(hd:d.one=true):v.oneCell'=true:=by simp only[AE]at r;rcases r with⟨q|q,_⟩|⟨xs,rfl,⟨rfl,_,_⟩|⟨b,off,cap,cs,e,i,f,_,rfl,_⟩⟩;subst q;simp[D.one]at hd;exact Rd.one hd q.2;rfl;rfl
theorem AM.AMX{fid:Nat->Nat}{h:Array Obj}{O X:Nat->Prop}{s:Sh}:∀{f:List D}{vs:List Value}{B:List Nat},f.all D.one=true->vs.length=f.length->AM (AE fid h O X (.o s)) f vs B->∀v∈vs,v.oneCell'=true
 |[],[],_,_,_,_=>by simp
 |[],_::_,_,_,l,_=>by simp at l
 |d::f,[],_,_,_,r=>by simp[AM]at r
 |d::f,v::vs,B,H,l,r=>by simp only[AM]at r;obtain⟨B1,B2,rfl,j,q⟩:=r;simp only[List.all_cons,AU]at H;intro u i;rcases AY.1 i with rfl|i;exact j.ARX H.1;exact AM.AMX H.2 (by simpa using l) q u i
theorem AE.rows{fid:Nat->Nat}{h:Array Obj}{O X:Nat->Prop}{s:Sh}{xs:List D}{sv:Value}{B:List Nat}(r:AE fid h O X (.o s) (.l xs) sv B):
  ∃(Az:List Value)(f:List Nat),((sv=.slice none 0 0/\Az=[]/\B=[]/\f=[])\/∃b off cap cs e,B=b::f/\sv=.slice (some ⟨b,off,none⟩) Az.length cap/\h[b]?=some (.cells cs e (0,0))/\Az.length<=cap/\(off+cap<=cs.size/\cap<=9223372036854775807)/\
   ∀(j:Nat)(v:Value),Az[j]?=some v->cs[off+j]?=some v)/\Az.length=xs.length/\AM (AE fid h O X s) xs Az f:=by
 simp only[AE]at r;rcases r with⟨q|q,_⟩|⟨Y,x,r⟩
 .cases q
 .simp[D.flat]at q
 injection x with x;subst x;rcases r with⟨rfl,rfl,rfl⟩|⟨b,off,cap,cs,e,G,f,rfl,rfl,M,N,I,J,L,he⟩
 .exact⟨[],[],.inl ⟨rfl,rfl,rfl,rfl⟩,rfl,by simp[AM]⟩
 .obtain⟨Q,C⟩:=AM.take he;have i:G=(0,0):=N;subst i;refine⟨_,f,.inr ⟨b,off,cap,cs,e,rfl,by rw[C],M,by rw[C];exact I,⟨J,L⟩,?_⟩,C,Q⟩;intro j u H;rw[List.getElem?_take]at H;split at H
  .rwa [Ed]at H
  .cases H
section
variable{cf:CF}{c:Cx}{F:Fact->Prop}{E:Nat->D}{a:Act}{w:World}{vs:Nat->Value}{Bs:Nat->List Nat}{AA:Nat}{g:Gd}{sm:Sm}{st:List Fact}{o:Oper}{p:Pr}
 {K:Nat->List D->List D->Prop}
theorem AaE{t:TypeId}{s x:Operand}(ho:o.op=.call { callee:=.builtin .append,args:=#[s,x],argTypes:=#[t,t] })(J:UW cf st AA o g t s x=some (p,sm))(h:At cf c F E a w vs Bs AA g p sm)(hE:Aw K E AA p):AV c o sm F E a w:=by
 unfold UW at J;split at J;rename_i e ti hel;split at J;rename_i hc;obtain⟨hz,hby,hin,hg⟩:=hc;simp only[AS]at J;obtain⟨⟨α,s1,n1⟩,h1,⟨β,s2,n2⟩,h2,J⟩:=J;simp only at J;split at J;rename_i n m;split at J;rename_i hc2;obtain⟨hss,hnm,hns⟩:=hc2;subst hss;obtain⟨es,hes⟩:=Option.isSome_iff_exists.1 hns;obtain rfl:=AdE hes;have hes2:∃s3,es=.o s3:=by
  unfold nested at hes;split at hes;rename_i s3 hh;injection hh with hh;exact⟨s3,hh⟩
  cases hes
 obtain⟨s3,rfl⟩:=hes2;simp only[AL,AJ]at J;obtain⟨rfl,rfl⟩:=J;have hE':Ev false (E n) (E m)=some (E AA):=hE;obtain⟨xs,ys,e1,e2,e3,e4,e5,_⟩:=AC7 hE';obtain⟨B,hB,hn1⟩:=h.A5 h1 (λf hf=>BN _ hf);obtain⟨B2,hB2,hn2⟩:=h.A5 h2 (λf hf=>BB _ hf);obtain⟨f1,f2,rfl⟩:=hn1 n rfl;obtain⟨g1,g2,rfl⟩:=hn2 m rfl;simp only[ev]at hB hB2;rw[e1]at hB;rw[e2]at hB2;obtain⟨Az,Y,U,hol,hro⟩:=hB.rows;obtain⟨news,Bn,hnv,hnl,hnr⟩:=hB2.rows;have L:=h.H.apart n _ m _ f1 g1 hnm;have R:=h.H.nodup n _ f1;have hnd2:=h.H.nodup m _ g1;have hlt:∀n s,F (.en n s)->∀b∈Bs n,b<w.heap.size:=λn s hs=>AE.F2 s _ _ _ (h.H.own n s hs);have hBo:∀b∈Y,b∈Bs n:=by rcases U with⟨_,_,_,rfl⟩|⟨b,off,cap,cs,e,i,_⟩;simp;rw[i];exact λb i=>BL _ i
 have Z:∀b∈Bn,b∈Bs m:=by rcases hnv with⟨_,_,_,rfl⟩|⟨b,off,cap,cs,e,i,_⟩;simp;rw[i];exact λb i=>BL _ i
 have hndo:Y.Nodup:=by rcases U with⟨_,_,_,rfl⟩|⟨b,off,cap,cs,e,i,_⟩;simp;rw[i]at R;exact(List.nodup_cons.1 R).2
 have hndn:Bn.Nodup:=by rcases hnv with⟨_,_,_,rfl⟩|⟨b,off,cap,cs,e,i,_⟩;simp;rw[i]at hnd2;exact(List.nodup_cons.1 hnd2).2
 have T:(Y++Bn).Nodup:=List.nodup_append.2 ⟨hndo,hndn,λb i b' hb' e=>by subst e;exact L b (hBo b i) (Z b hb')⟩;have hP:c.P=cf.P:=h.fits.P;unfold Oz at hz;split at hz;rename_i z hzz;have hev1:a.eval s=vs n:=f2;have hev2:a.eval x=vs m:=g2
 obtain⟨v',w',hr,w1,w2,w3,hres⟩:=Xa (P:=c.P) (w:=w) (ty:=o.type) (hP▸hel) hzz (QJ hz) hby (Az:=Az) (news:=news) (sv:=a.eval s) (xv:=a.eval x)
  (by
   rcases U with⟨Q,W,_⟩|⟨b,off,cap,cs,e,_,Q,W,q3,q4,q5⟩
   .exact .inl ⟨Q,W⟩
   .exact .inr ⟨b,off,cap,cs,e,Q,W,q3,q4.1,q5⟩)
  (by
   rcases hnv with⟨Q,W,_⟩|⟨b,off,cap,cs,e,_,Q,W,q3,q4,q5⟩
   .exact .inl ⟨⟨_,Q⟩,W⟩
   .exact .inr ⟨b,off,cap,Q,λj v hj=>by simp[World.cell?,W,q5 j v hj]⟩)
  (AM.AMX e5 hnl hnr) (by rw[hol,hnl];exact e4)
 have hrun:(execOp a.eval o).run c.P w=.ok (.value v') w':=by rw[LR ho];show(Bind.bind (Builtin.append_ #[t,t] o.type (#[s,x].map a.eval)) _).run c.P w=_;refine C9 ?_;simpa using hr
 have hall:=AM.append hol hro hnr;have M:(xs++ys).length=Az.length+news.length:=by simp[hol,hnl]
 have hin':BW o.dst c.nt=true:=by rw[h.fits.nt];exact hin
 have hfr:Bh F AA:=by simpa using h.fresh 0 (by simp[Pr.np])
 have I:∀b∈Y++Bn,∃k r,F (.en k r)/\k∈[n,m]/\b∈Bs k:=by intro b i;rcases Ac.1 i with i|i;exact⟨n,_,f1,by simp,hBo b i⟩;exact⟨m,_,g1,by simp,Z b i⟩
 have hOall:∀N:List Nat,(∀b∈N,b<w.heap.size->b∈Bs n\/b∈Bs m)->∀b,b<w.heap.size->(EE F Bs (λk=>k∈[n,m]) b\/b∈N)->OB F Bs b:=by rintro N hN b i (⟨k,s,Q,_,q3⟩|q);exact⟨k,s,Q,q3⟩;rcases hN b q i with q|q;exact⟨n,_,f1,q⟩;exact⟨m,_,g1,q⟩
 rcases hres with⟨rfl,Q,W,q3⟩|⟨gb,off,cap,cs,e',V,Q,W,rfl,q4,q5,q6,q7,q8,q9⟩|⟨cap,V,rfl,q4,⟨q5,q50⟩,q6,q9⟩;refine AV.B6 hrun ⟨AQ vs AA (.slice none 0 0),AQ Bs AA [],?_⟩;refine h.H.put hfr hin' [n,m] (by rw[q3];exact Ao.refl _ _) w1 w2 w3 ?_ (by simp) (by simp) h.g
 rw[e3];have hx0:xs=[]:=Dd (by rw[<-hol,Q];rfl);have hy0:ys=[]:=Dd (by rw[<-hnl,W];rfl);subst hx0 hy0;exact AE.nil;have l:Bs n=gb::Y/\off+cap<=cs.size/\cap<=9223372036854775807:=by rcases U with⟨r1,_,_⟩|⟨b,off2,cap2,cs2,e2',r0,r1,r2,r3,r4,r5⟩;rw[Q]at r1;cases r1;rw[Q]at r1;injection r1 with r1 _ r1c;injection r1 with r1;injection r1 with r1 r1o _;subst r1 r1c r1o;rw[W]at r2;injection r2 with r2;injection r2 with r2 _ _;subst r2;exact⟨r0,r4⟩
 obtain⟨l,hoc⟩:=l;have hgo:gb∉Y:=by rw[l]at R;exact(List.nodup_cons.1 R).1
 have hgn:gb∉Bn:=λq=>L gb (by rw[l];simp) (Z gb q);have C:Ao (λb=>b=gb) w.heap w'.heap:=⟨by rw[q8];exact Nat.le_refl _,λb _ i=>q7 b i⟩;refine AV.B6 hrun ⟨AQ vs AA (.slice (some ⟨gb,off,none⟩) (Az.length+news.length) cap),AQ Bs AA (gb::(Y++Bn)),?_⟩;refine h.H.put hfr hin' [n,m] (C.mono λb _ i=>⟨n,_,f1,by simp,by rw[i,l];simp⟩) w1 w2 w3 ?_ (List.nodup_cons.2 ⟨by simp[hgo,hgn],T⟩) (λb i=>.inl ?_) h.g;rw[e3];simp only[AE];refine .inr ⟨_,rfl,.inr ⟨gb,off,cap,V,e',(0,0),Y++Bn,rfl,by rw[M],q6,rfl,by rw[M];exact q4,by rw[q5];exact hoc.1,hoc.2,?_⟩⟩;have G:=AM.congr (us:=V.toList.drop off) (λj v hj=>by rw[Ed];exact q9 j v hj) hall;refine AM.imp (λd v B1 hb1=>?_) G;refine AE.ext C (λb _ i=>?_) (hOall _ λb i _=>?_) _ d v B1 (λb i e=>?_);rw[i];exact⟨n,_,f1,by rw[l];simp⟩;rcases AY.1 i with rfl|i;left;rw[l];simp;exact(Ac.1 i).imp (hBo b) (Z b);subst e;rcases Ac.1 (hb1 b i)with q|q;exact hgo q;exact hgn q;rcases AY.1 i with rfl|i;exact⟨n,_,f1,by simp,by rw[l];simp⟩;exact I b i;have C:Ao (λ_=>False) w.heap w'.heap:=by rw[q6];exact Ao.push _ _
 have hnewb:w'.heap[w.heap.size]?=some (.cells V e (0,0)):=by rw[q6];simp
 have hnotin:w.heap.size∉Y++Bn:=by intro q;obtain⟨k,r,Q,_,W⟩:=I _ q;have:=hlt k r Q _ W;omega
 refine AV.B6 hrun ⟨AQ vs AA (.slice (some ⟨w.heap.size,0,none⟩) (Az.length+news.length) cap),AQ Bs AA (w.heap.size::(Y++Bn)),?_⟩;refine h.H.put hfr hin' [n,m] (C.mono λ_ _ q=>q.elim) w1 w2 w3 ?_ (List.nodup_cons.2 ⟨hnotin,T⟩) (λb i=>?_) h.g;rw[e3];simp only[AE];refine .inr ⟨_,rfl,.inr ⟨w.heap.size,0,cap,V,e,(0,0),Y++Bn,rfl,by rw[M],hnewb,rfl,by rw[M];exact q4,by omega,q50,?_⟩⟩;have G:=AM.congr (us:=V.toList.drop 0) (λj v hj=>by rw[Ed,Nat.zero_add];exact q9 j v hj) hall;refine AM.imp (λd v B1 hb1=>?_) G;refine AE.ext C (λ_ _ q=>q.elim) (hOall _ λb i hlt2=>?_) _ d v B1 (λ_ _ q=>q);rcases AY.1 i with rfl|i;omega;exact(Ac.1 i).imp (hBo b) (Z b);rcases AY.1 i with rfl|i;exact .inr (Nat.le_refl _);exact .inl (I b i)
 cases hz
 cases J
 cases J
 cases J
 cases J
end
end Go.Cat
namespace Go.Cat
def Dj(P:Program)(t:TypeId):Option Nat:=
 match P.underlying t with
 |some (.struct f)=>match P.info? t with
  |some i=>if(i.size=f.size/\0<f.size)/\(f.toList.zipIdx.all λx=>x.1.offset==x.2&&(match P.info? x.1.type with|some j=>j.size==1|none=>false))=true then some f.size else none
  |none=>none
 |_=>none
theorem J6{P:Program}{t:TypeId}{n:Nat}(h:Dj P t=some n):∃s i,P.underlying t=some (.struct s)/\P.info? t=some i/\i.size=n/\(s.size=n/\0<n)/\
  ∀(f:Nat)(fl:Field),s[f]?=some fl->fl.offset=f/\∃j,P.info? fl.type=some j/\j.size=1:=by
 unfold Dj at h;split at h
 .rename_i s B;split at h
  .rename_i i hi;split at h
   .rename_i l;injection h with h;refine⟨s,i,B,hi,by omega,⟨h,by omega⟩,λf fl q=>?_⟩;have:=Aj.1 l.2 (fl,f) (by rw[List.mem_iff_getElem?];exact⟨f,by simp[List.getElem?_zipIdx,q]⟩);simp only[AU,beq_iff_eq]at this;refine⟨this.1,?_⟩;have H:=this.2;split at H
    .rename_i j x;exact⟨j,x,by simpa using H⟩
    .cases H
   .cases h
  .cases h
 .cases h
theorem XP{P:Program}{w:World}{t:TypeId}{n:Nat}(h:Dj P t=some n){b o f:Nat}(G:f<n):
  (Instr.fieldAt t (.pointer (some ⟨b,o,none⟩)) f).run P w=.ok (.pointer (some ⟨b,o+f,none⟩)) w:=by obtain⟨q,i,H,L,M,⟨x,B⟩,C⟩:=J6 h;have s:∃fl,q[f]?=some fl:=⟨q[f]'(by omega),by simp[x,G]⟩;obtain⟨fl,l⟩:=s;obtain⟨Q,j,I,J⟩:=C f fl l;simp[Instr.fieldAt,run_underlying H,l,Instr.sureAddr,fieldPlace,sizeOf,typeInfo,I,J,Q,Addr.add_lit]
theorem Vk{P:Program}{w:World}{t:TypeId}{v:Value}:(Instr.box t v).run P w=.ok (.pointer (some ⟨w.heap.size,0,none⟩)) (w.alloc (.cells v.cells t)):=by simp[Instr.box,newVar,newRow]
theorem Z8{P:Program}{w:World}{t:TypeId}{i:TypeInfo}{z:Value}(hi:P.info? t=some i)(H:i.zero=some z):
  (Instr.alloc t true (.tuple #[])).run P w=.ok (.pointer (some ⟨w.heap.size,0,none⟩)) (w.alloc (.cells z.cells t)):=by simp[Instr.alloc,zeroValue,typeInfo,hi,H,newVar,newRow]
theorem UK{P:Program}{w:World}{t:TypeId}{n:Nat}(h:Dj P t=some n){b:Nat}{cs:Array Value}{e:TypeId}{f:Nat×Nat}(x:w.heap[b]?=some (.cells cs e f))(B:cs.size=n):
  (Instr.loadAt t (.pointer (some ⟨b,0,none⟩))).run P w=.ok (.agg cs) w:=by obtain⟨s,i,H,j,l,⟨C,q⟩,G⟩:=J6 h;simp only[Instr.loadAt,Instr.sureAddr,Sem.run_bind,Sem.run_pure,Result.andThen_ok];exact run_loadVar_row w b e t cs f (.struct s) x H rfl (by simp[j,l,B])
theorem API{P:Program}{w:World}{t:TypeId}{n:Nat}(h:Dj P t=some n){b o:Nat}{cs:Array Value}{e:TypeId}{l:Nat×Nat}(C:w.heap[b]?=some (.cells cs e l))(M:o+n<=cs.size):
  (Instr.loadAt t (.pointer (some ⟨b,o,none⟩))).run P w=.ok (.agg ((cs.toList.drop o).take n).toArray) w:=by
 obtain⟨I,i,q,s,x,⟨J,B⟩,L⟩:=J6 h;simp only[Instr.loadAt,Instr.sureAddr,Sem.run_bind,Sem.run_pure,Result.andThen_ok];have G:((cs.toList.drop o).take n).length=n:=by simp;omega
 have:=run_loadCells_list (P:=P) w ⟨b,o,none⟩ ((cs.toList.drop o).take n) (λj v f=>by
  rw[Addr.add_lit,cell_of_row w b (o+j) cs e l C];rw[List.getElem?_take]at f;split at f
  .rwa [Ed]at f
  .cases f)
 rw[G]at this;have H:(isAgg t).run P w=.ok true w:=by unfold isAgg;rw[Sem.run_bind,run_underlying q w];rfl
 simp[loadVar,Sem.run_bind,H,sizeOf,typeInfo,s,x,this]
theorem AZQ{P:Program}{w:World}{t:TypeId}{n:Nat}(h:Dj P t=some n){b:Nat}{f cs:Array Value}{e:TypeId}(j:w.heap[b]?=some (.cells f e (0,0)))(G:f.size=n)(l:cs.size=n)(H:∀v∈cs.toList,v.oneCell'=true):
  (Instr.storeAt t (.pointer (some ⟨b,0,none⟩)) (.agg cs)).run P w=.ok () (w.setRow b cs):=by obtain⟨C,i,I,s,x,⟨J,B⟩,L⟩:=J6 h;simp only[Instr.storeAt,Instr.sureAddr,Sem.run_bind,Sem.run_pure,Result.andThen_ok];refine run_storeVar_row w b e t f cs j (by simp[s,x,l]) (by omega) ?_;rw[Array.all_eq_true_iff_forall_mem];intro v q;exact H v (by simpa using q)
def Qo(P:Program)(t:TypeId):Option (List D):=
 match P.info? t with
 |some i=>match i.zero with
  |some (.agg s)=>s.toList.mapM Dp
  |_=>none
 |none=>none
theorem AC1{α β:Type}{f:α->Option β}:∀{xs:List α}{s:List β},xs.mapM f=some s->s.length=xs.length/\∀(i:Nat)(y:β),s[i]?=some y->∃x,xs[i]?=some x/\f x=some y
 |[],s,h=>by simp at h;subst h;simp
 |x::xs,s,h=>by
  simp only[List.mapM_cons,Option.bind_eq_bind,AS,Option.pure_def,AL]at h;obtain⟨y,j,Z,l,rfl⟩:=h;obtain⟨q,B⟩:=AC1 l;refine⟨by simp[q],λi z H=>?_⟩
  cases i with
  |zero=>simp at H;subst H;exact⟨x,by simp,j⟩
  |succ i=>simpa using B i z (by simpa using H)
def CU{α:Type}(s:List α)(ps:List (Nat×α)):List α:=ps.foldl (λcs p=>cs.set p.1 p.2) s
theorem AGR{α β:Type}(f:α->β):∀(ps:List (Nat×α))(s:List α),(CU s ps).map f=CU (s.map f) (ps.map λp=>(p.1,f p.2))
 |[],s=>rfl
 |p::ps,s=>by simp only[CU,List.foldl_cons,List.map_cons];have:=AGR f ps (s.set p.1 p.2);simp only[CU,List.map_set]at this;exact this
theorem Uz{α:Type}:∀(ps:List (Nat×α))(s:List α),(CU s ps).length=s.length
 |[],s=>rfl
 |p::ps,s=>by simp only[CU,List.foldl_cons];have:=Uz ps (s.set p.1 p.2);simpa[CU]using this
theorem AM0{α:Type}:∀(ps:List (Nat×α))(s:List α)(i:Nat),(∀p∈ps,p.1≠i)->(CU s ps)[i]?=s[i]?
 |[],s,i,_=>rfl
 |p::ps,s,i,h=>by simp only[CU,List.foldl_cons];have:=AM0 ps (s.set p.1 p.2) i λq H=>h q (BL _ H);simp only[CU]at this;rw[this,List.getElem?_set_ne (h p (List.mem_cons_self ..))]
theorem VA{α:Type}:∀(ps:List (Nat×α))(s:List α),(ps.map (·.1)).Nodup->∀p∈ps,p.1<s.length->(CU s ps)[p.1]?=some p.2
 |[],s,_,p,H,_=>by simp at H
 |q::ps,s,f,p,H,l=>by simp only[List.map_cons,List.nodup_cons]at f;simp only[CU,List.foldl_cons];rcases AY.1 H with rfl|H;have:=AM0 ps (s.set p.1 p.2) p.1 λr i e=>f.1 (List.mem_map.2 ⟨r,i,e⟩);simp only[CU]at this;rw[this,List.getElem?_set_self l];have:=VA ps (s.set q.1 q.2) f.2 p H (by simpa using l);simpa[CU]using this
theorem ANE{n:Nat}{pl:Nat->Option (Nat×Nat)}(l:∀i,i<n->pl i=some (i,1)):∀(ps:List (Nat×Value))(cells:Array Value),cells.size=n->(∀p∈ps,p.1<n/\p.2.oneCell'=true)->
  Instr.fill pl cells ps=some (CU cells.toList ps).toArray
 |[],cells,_,_=>by simp[Instr.fill,CU]
 |(i,v)::ps,cells,H,h=>by
  obtain⟨q,s⟩:=h (i,v) (List.mem_cons_self ..)
  have C:v.cells=#[v]:=QJ s
  simp only[Instr.fill]
  rw[l i q]
  simp only[C]
  rw[if_neg (by simp only[H];simp;omega)]
  have:=ANE l ps (cells.setIfInBounds i v) (by simp[H]) λp B=>h p (BL _ B)
  have e:((#[v]:Array Value).zipIdx.foldl (λcs (x:Value×Nat)=>cs.setIfInBounds (i+x.2) x.1) cells)=cells.setIfInBounds i v:=by
   simp[Array.zipIdx]
  have f:((#[v]:Array Value).zipIdx.foldl (λcs x=>match x with|(c,j)=>cs.setIfInBounds (i+j) c) cells)=cells.setIfInBounds i v:=e
  rw[f,this]
  simp[CU]
theorem AP1{P:Program}{w:World}{t:TypeId}{n:Nat}(h:Dj P t=some n){i:TypeInfo}{s:Array Value}(hi:P.info? t=some i)(N:i.zero=some (.agg s))(q:s.size=n)
  {ps:Array (Nat×Value)} (M:∀p∈ps.toList,p.1<n/\p.2.oneCell'=true):
  (Instr.build t ps).run P w=.ok (.agg (CU s.toList ps.toList).toArray) w:=by
 obtain⟨x,Y,C,V,W,⟨G,I⟩,J⟩:=J6 h;refine run_build w t ps _ ?_;have L:x.toList.mapM (λf=>(P.info? f.type).map λi=>(f.offset,i.size))=some ((List.range n).map λj=>(j,1)):=by
  have key:∀(l:List Field)(k:Nat),(∀j fl,l[j]?=some fl->fl.offset=k+j/\∃i,P.info? fl.type=some i/\i.size=1)->
    l.mapM (λf=>(P.info? f.type).map λi=>(f.offset,i.size))=some ((List.range' k l.length).map λj=>(j,1)):=by
   intro l
   induction l with
   |nil=>intro k _;simp
   |cons f l R=>
    intro k B
    obtain⟨Q,i,T,U⟩:=B 0 f (by simp)
    have:=R (k+1) λj fl H=>by
     have:=B (j+1) fl (by simpa using H)
     refine⟨by omega,this.2⟩
    simp only[List.mapM_cons,T,Option.map_some,this,AO,List.range'_succ,List.map_cons,U]
    simp at Q
    simp[Q]
  have:=key x.toList 0 λj fl H=>by have:=J j fl (by simpa using H);simpa using this
  rw[this];simp[G,List.range_eq_range']
 simp only[Program.built,hi,C,N,L];rw[ANE (n:=n) (λj H=>by simp[H]) ps.toList (Value.agg s).cells (by simpa[Value.cells]using q) M];rfl
end Go.Cat
namespace Go.Cat
def ow:Nat->Sh
 |0=>.v
 |k+1=>.o (ow k)
def Ez:Sh->Option Nat
 |.v=>some 0
 |.o s=>(Ez s).map (·+1)
 |_=>none
theorem LN:∀{s:Sh}{k:Nat},Ez s=some k->s=ow k
 |.v,k,h=>by simp[Ez]at h;subst h;rfl
 |.o s,k,h=>by simp only[Ez,Ae]at h;obtain⟨j,H,rfl⟩:=h;rw[LN H];rfl
 |.y,k,h=>by simp[Ez]at h
 |.a s,k,h=>by simp[Ez]at h
 |.b s,k,h=>by simp[Ez]at h
 |.m,k,h=>by simp[Ez]at h
section
variable{fid:Nat->Nat}{h:Array Obj}{O X:Nat->Prop}
theorem AE.VS{s:Sh}{d:D}{v:Value}{B:List Nat}(hd:d.flat=true)(r:AE fid h O X s d v B):B=[]:=by
 cases s with
 |v=>simp only[AE]at r;exact r.1
 |y=>simp only[AE]at r;exact r.1
 |o s=>
  simp only[AE]at r
  rcases r with⟨_,q⟩|⟨xs,rfl,_⟩
  .exact q
  .simp[D.flat]at hd
 |a s=>simp only[AE]at r;obtain⟨xs,cs,rfl,_⟩:=r;simp[D.flat]at hd
 |b s=>simp only[AE]at r;obtain⟨xs,b,cs,e,i,f,rfl,_⟩:=r;simp[D.flat]at hd
 |m=>simp only[AE]at r;obtain⟨xs,b,es,ck,rfl,_⟩:=r;simp[D.flat]at hd
theorem AE.of_flat{k:Nat}{d:D}{v:Value}{Z:Nat->Prop}(hd:d.flat=true)(r:Rd fid h Z d v):AE fid h O X (ow k) d v []:=by
 cases k with
 |zero=>simp only[ow,AE];exact⟨trivial,r.flat hd⟩
 |succ k=>simp only[ow,AE];exact .inl ⟨.inr ⟨hd,r.flat hd⟩,trivial⟩
theorem AM.Wf{R i:D->Value->List Nat->Prop}:∀{s:List D}{vs:List Value}{B:List Nat},(∀d∈s,∀v B1,R d v B1->i d v B1)->AM R s vs B->AM i s vs B
 |[],_,_=>λ_ h=>by simpa[AM]using h
 |d::s,v::vs,B=>λf h=>by simp only[AM]at h|-;obtain⟨B1,B2,rfl,H,j⟩:=h;exact⟨B1,B2,rfl,f d (List.mem_cons_self ..) v B1 H,AM.Wf (λd hd v B=>f d (BL _ hd) v B) j⟩
 |_::_,[],_=>λ_ h=>h
theorem AE.lift:∀(i j:Nat)(d:D)(v:Value)(B:List Nat),AE fid h O X (ow i) d v B->C3 (min i j) d=true->AE fid h O X (ow j) d v B
 |0,j,d,v,B=>λr hd=>by simp only[Nat.zero_min,C3]at hd;have H:=r.VS hd;subst H;exact AE.of_flat hd (r.ID hd)
 |i+1,0,d,v,B=>λr hd=>by simp only[Nat.min_zero,C3]at hd;have H:=r.VS hd;subst H;exact AE.of_flat (k:=0) hd (r.ID hd)
 |i+1,j+1,d,v,B=>λr hd=>by
  by_cases f:d.flat=true;have H:=r.VS f;subst H;exact AE.of_flat (k:=j+1) f (r.ID f);rw[Nat.succ_min_succ]at hd;simp only[C3,f,Bool.false_or]at hd
  cases d with
  |l xs=>
   simp only[Aj]at hd
   simp only[ow,AE]at r|-
   rcases r with⟨q|q,_⟩|⟨Y,x,r⟩
   .cases q
   .simp[D.flat]at q
   .injection x with x;subst x
    refine .inr ⟨_,rfl,?_⟩
    rcases r with r|⟨b,off,cap,cs,e,G,C,H,Q,M,N,I,J,L,he⟩
    .exact .inl r
    .exact .inr ⟨b,off,cap,cs,e,G,C,H,Q,M,N,I,J,L,AM.Wf (λd s v B1 q=>AE.lift i j d v B1 q (hd d s)) he⟩
  |_=>simp at hd
theorem AE.AMO{k:Nat}{d:D}{v:Value}(hd:Dp v=some d)(H:k=0\/d.flat=true\/H9 d=true):AE fid h O X (ow k) d v []:=by
 rcases H with rfl|H|H;simp only[ow,AE];exact⟨trivial,Ls hd⟩;exact AE.of_flat (Z:=λ_=>False) H (Ls hd);unfold H9 at H;split at H
 .have f:v=.slice none 0 0:=by
   unfold Dp at hd
   split at hd<;>try(injection hd with hd;cases hd)
   .split at hd
    .injection hd with hd;cases hd
    .cases hd
   .rfl
   .cases hd
  rw[f]
  cases k with
  |zero=>exact AE.nil
  |succ k=>exact AE.nil
 cases H
theorem AM.Wm{R:D->Value->List Nat->Prop}{bf:Nat->List Nat}:∀{s:List D}{vs:List Value},s.length=vs.length->(∀j d v,s[j]?=some d->vs[j]?=some v->R d v (bf j))->AM R s vs ((List.range s.length).flatMap bf):=by
 intro s;induction s generalizing bf with
 |nil=>intro vs _ _;simp[AM]
 |cons d s I=>
  intro vs l H
  cases vs with
  |nil=>simp at l
  |cons v vs=>
   have:=I (bf:=λj=>bf (j+1)) (vs:=vs) (by simpa using l) λj f V i q=>H (j+1) f V (by simpa using i) (by simpa using q)
   simp only[AM,AO,List.range_succ_eq_map,List.flatMap_cons,List.flatMap_map]
   exact⟨bf 0,_,rfl,H 0 d v (by simp) (by simp),this⟩
end
theorem AcF{bf:Nat->List Nat}(q:∀j,(bf j).Nodup)(s:∀i j,i≠j->∀b∈bf i,b∉bf j)(n:Nat):((List.range n).flatMap bf).Nodup:=by
 have:∀l:List Nat,l.Nodup->(l.flatMap bf).Nodup:=by
  intro l;induction l with
  |nil=>intro _;simp
  |cons x l I=>
   intro C
   obtain⟨N,J⟩:=List.nodup_cons.1 C
   simp only[List.flatMap_cons]
   refine List.nodup_append.2 ⟨q x,I J,λb B L H e=>?_⟩
   subst e
   obtain⟨y,G,f⟩:=List.mem_flatMap.1 H
   exact s x y (λe=>N (e▸G)) b B f
 exact this _ List.nodup_range
section
variable(cf:CF)(st:List Fact)(AA:Nat)(o:Oper)(g:Gd)
def Jd(k:Nat)(x:Operand):Option ((A×Nat)×List Nat×List Fact):=
 if k=0 then(Lz cf st g .v x).map λr=>((r.1,0),r.2.1,r.2.2)
 else(A5 cf st g x).bind λa=>match a.1 with
  |.c (.l [])=>some ((a.1,1),[],a.2.2)
  |.c _=>some ((a.1,0),[],a.2.2)
  |.e n=>match Ez a.2.1 with
   |some (i+1)=>if g=[]then some ((a.1,i+1),[n],a.2.2)else none
   |_=>some ((a.1,0),[],a.2.2)
def G7(k:Nat):List (Nat×Operand)->Option (List (Nat×A×Nat)×List Nat×List Fact)
 |[]=>some ([],[],[])
 |(i,x)::ps=>(Jd cf st g k x).bind λa=>(G7 k ps).map λr=>((i,a.1)::r.1,a.2.1++r.2.1,a.2.2++r.2.2)
def Km(d:D):A×Nat:=(.c d,if H9 d then 1 else 0)
def ANF(k:Nat):Sh:=if k=0 then .v else .a (ow k)
def Th(k:Nat)(t:TypeId)(ps:Array (Nat×Operand)):Option (Pr×Sm):=
 (Dj cf.P t).bind λn=>(Qo cf.P t).bind λs=>(G7 cf st g k ps.toList).bind λr=>
  if BW o.dst cf.nt=true/\s.length=n/\r.2.1.Nodup/\(ps.toList.map (·.1)).Nodup/\(ps.toList.all λp=>decide (p.1<n))=true/\(s.all λd=>d.one&&(k==0||d.flat||H9 d))=true then
   some (.bg k (CU (s.map Km) r.1),⟨r.2.2,r.2.1,one AA (ANF k) o.dst (.is AA g)⟩)
  else none
def Tx(k:Nat)(t:TypeId):Option (Pr×Sm):=
 (Dj cf.P t).bind λn=>(Qo cf.P t).bind λs=>
  if BW o.dst cf.nt=true/\s.length=n/\g=[]/\(s.all λd=>k==0||d.flat||H9 d)=true then
   some (.cs (.b (ow k)) (.g s),⟨[],[],one AA (.b (ow k)) o.dst (.is AA g)⟩)
  else none
def Sj(k:Nat)(t:TypeId)(x:Operand):Option (Pr×Sm):=
 (Dj cf.P t).bind λn=>(A5 cf st g x).bind λa=>
  if BW o.dst cf.nt=true/\g=[]then match a.2.1 with
   |.v=>if k=0 then some (.bp a.1,⟨a.2.2,[],one AA .v o.dst (.is AA g)⟩)else some (.wl n a.1,⟨a.2.2,[],one AA (.b .v) o.dst (.is AA g)⟩)
   |.y=>some (.bp a.1,⟨a.2.2,[],one AA .y o.dst (.is AA g)⟩)
   |.a s=>match a.1 with
    |.e m=>some (.wl n a.1,⟨a.2.2,[m],one AA (.b s) o.dst (.is AA g)⟩)
    |.c _=>none
   |_=>none
  else none
end
section
variable{cf:CF}{c:Cx}{F:Fact->Prop}{E:Nat->D}{a:Act}{w:World}{vs:Nat->Value}{Bs:Nat->List Nat}{AA:Nat}{g:Gd}{sm:Sm}{st:List Fact}{o:Oper}{p:Pr}
 {K:Nat->List D->List D->Prop}
theorem Ug{k:Nat}{x:D×Nat}(h:CI k x=true):x.1.one=true:=by unfold CI at h;simp only[AU]at h;exact h.1
theorem TL{k:Nat}{x:Operand}{α:A×Nat}{ks:List Nat}{ns:List Fact}(H:Jd cf st g k x=some (α,ks,ns))(h:At cf c F E a w vs Bs AA g p sm)(G:∀f∈ns,f∈sm.needs)
  {O':Nat->Prop} (M:∀b,b<w.heap.size->O' b->OB F Bs b) (I:k=0->∀n∈ks,∀b∈Bs n,¬O' b) (L:CI k (ev E α.1,α.2)=true):
  ∃B,AE c.fid w.heap O' c.Xb (ow k) (ev E α.1) (a.eval x) B/\(B=[]\/∃n,n∈ks/\B=Bs n/\k≠0):=by
 unfold Jd at H;split at H
 .rename_i j;subst j;simp only[Ae,AJ]at H;obtain⟨⟨α1,R,n1⟩,l,rfl,rfl,rfl⟩:=H;obtain⟨B,N,Q,_⟩:=Ic l h G M (λ_=>I rfl);refine⟨B,N,?_⟩;rcases Q with⟨_,rfl⟩|⟨_,_,_,q⟩
  .exact .inl rfl
  .exact(q rfl).elim
 .rename_i j;simp only[AS]at H;obtain⟨⟨α1,s1,n1⟩,l,H⟩:=H;simp only at H;have hd:α.2=k\/C3 (min α.2 k) (ev E α.1)=true:=by unfold CI at L;simp only[AU,Bool.or_eq_true,beq_iff_eq,j,false_or]at L;exact L.2
  split at H
  .simp only[AL,AJ]at H;obtain⟨rfl,rfl,rfl⟩:=H;refine⟨[],?_,.inl rfl⟩;rw[ALJ l]
   cases k with
   |zero=>exact(j rfl).elim
   |succ k=>exact AE.nil
  .rename_i d _;simp only[AL,AJ]at H;obtain⟨rfl,rfl,rfl⟩:=H;have hd:=hd.resolve_left (λq=>j q.symm);simp only[Nat.zero_min,C3]at hd;obtain⟨B,s,_⟩:=h.A5 l G;exact⟨[],AE.of_flat hd (s.ID hd),.inl rfl⟩
  .rename_i n;split at H
   .rename_i i hi;split at H
    .simp only[AL,AJ]at H;obtain⟨rfl,rfl,rfl⟩:=H;obtain⟨B,s,J⟩:=h.A5 l G;obtain⟨R,U,T⟩:=J n rfl;refine⟨Bs n,?_,.inr ⟨n,by simp,rfl,j⟩⟩;rw[LN hi,T]at s;have C:=AE.ext (Ao.refl (λ_=>False) _) (λ_ _ q=>q.elim) M _ _ _ _ (λ_ _ q=>q) s;rcases hd with hd|hd
     .have hd:i+1=k:=hd;rw[<-hd];exact C
     .exact AE.lift (i+1) k _ _ _ C hd
    .cases H
   .simp only[AL,AJ]at H;obtain⟨rfl,rfl,rfl⟩:=H;have hd:=hd.resolve_left (λq=>j q.symm);simp only[Nat.zero_min,C3]at hd;obtain⟨B,s,_⟩:=h.A5 l G;exact⟨[],AE.of_flat hd (s.ID hd),.inl rfl⟩
theorem Qp{k:Nat}{x:Operand}{α:A×Nat}{ks:List Nat}{ns:List Fact}(H:Jd cf st g k x=some (α,ks,ns))(h:At cf c F E a w vs Bs AA g p sm)(s:∀f∈ns,f∈sm.needs):∀n∈ks,alive F n:=by
 unfold Jd at H;split at H;simp only[Ae,AJ]at H;obtain⟨⟨α1,k1,n1⟩,i,rfl,rfl,rfl⟩:=H;obtain⟨_,_,_,k⟩:=Ic (O':=λ_=>False) i h s (λ_ _ q=>q.elim) (λ_ _ _ _ _ q=>q);exact k;simp only[AS]at H;obtain⟨⟨α1,s1,n1⟩,i,H⟩:=H;simp only at H;split at H;simp only[AL,AJ]at H;obtain⟨_,rfl,_⟩:=H;simp;simp only[AL,AJ]at H;obtain⟨_,rfl,_⟩:=H;simp;rename_i n;split at H;split at H;simp only[AL,AJ]at H;obtain⟨rfl,rfl,rfl⟩:=H;obtain⟨B,C,j⟩:=h.A5 i s;intro m l;simp at l;subst l;exact⟨_,(j m rfl).1⟩
 cases H;simp only[AL,AJ]at H;obtain⟨_,rfl,_⟩:=H;simp
theorem AGD{k:Nat}(h:At cf c F E a w vs Bs AA g p sm):∀{l:List (Nat×Operand)}{αs:List (Nat×A×Nat)}{ks:List Nat}{ns:List Fact},G7 cf st g k l=some (αs,ks,ns)->(∀f∈ns,f∈sm.needs)->∀n∈ks,alive F n
 |[],αs,ks,ns,j,_=>by simp only[G7,AL,AJ]at j;obtain⟨rfl,rfl,rfl⟩:=j;simp
 |(i,x)::l,αs,ks,ns,j,s=>by simp only[G7,AS,Ae,AJ]at j;obtain⟨⟨α,k1,n1⟩,h1,⟨αs',k2,n2⟩,h2,rfl,rfl,rfl⟩:=j;intro n H;rcases Ac.1 H with H|H;exact Qp h1 h (λf q=>s f (BN _ q)) n H;exact AGD h h2 (λf q=>s f (BB _ q)) n H
structure MQ(c:Cx)(F:Fact->Prop)(w:World)(Bs:Nat->List Nat)(O':Nat->Prop)(k:Nat)(ds:List D)(us:List Value)(bf:Nat->List Nat)(used:List Nat):Prop where
 own:∀j d v,ds[j]?=some d->us[j]?=some v->AE c.fid w.heap O' c.Xb (ow k) d v (bf j)
 nodup:∀j,(bf j).Nodup
 apart:∀i j,i≠j->∀b∈bf i,b∉bf j
 from_:∀j,∀b∈bf j,∃n∈used,alive F n/\b∈Bs n
 none:k=0->∀j,bf j=[]
theorem AIY{k:Nat}(h:At cf c F E a w vs Bs AA g p sm){O':Nat->Prop}(hO:∀b,b<w.heap.size->O' b->OB F Bs b):
  ∀{l:List (Nat×Operand)}{αs:List (Nat×A×Nat)}{ks:List Nat}{ns:List Fact}{W:List D}{us:List Value}{bf:Nat->List Nat}{used:List Nat},G7 cf st g k l=some (αs,ks,ns)->(∀f∈ns,f∈sm.needs)->
  (k=0->∀n∈ks,∀b∈Bs n,¬O' b)->ks.Nodup->(∀n∈ks,n∉used)->(∀q∈αs,CI k (ev E q.2.1,q.2.2)=true)->MQ c F w Bs O' k W us bf used->
  αs.map (·.1)=l.map (·.1)/\∃R,MQ c F w Bs O' k (CU W (αs.map λq=>(q.1,ev E q.2.1))) (CU us (l.map λq=>(q.1,a.eval q.2))) R (used++ks)
 |[],αs,ks,ns,W,us,bf,used,ht,_,_,_,_,_,L=>by
  simp only[G7,AL,AJ]at ht
  obtain⟨rfl,rfl,rfl⟩:=ht
  exact⟨rfl,bf,by simpa[CU]using L⟩
 |(i,x)::l,αs,ks,ns,W,us,bf,used,ht,hn,hfr,hnd,hus,hpb,L=>by
  simp only[G7,AS,Ae,AJ]at ht
  obtain⟨⟨α,k1,n1⟩,h1,⟨αs',k2,n2⟩,h2,rfl,rfl,rfl⟩:=ht
  obtain⟨hnd1,hnd2,hnd3⟩:=List.nodup_append.1 hnd
  have Z:=Qp h1 h (λf L=>hn f (BN _ L))
  obtain⟨B,e1,e2⟩:=TL h1 h (λf L=>hn f (BN _ L)) hO (λq n M=>hfr q n (BN _ M)) (hpb (i,α) (List.mem_cons_self ..))
  have Y:∀b∈B,∃n∈k1,alive F n/\b∈Bs n:=by
   intro b Q
   rcases e2 with rfl|⟨n,J,rfl,_⟩
   simp at Q
   exact⟨n,J,Z n J,Q⟩
  have N:∀b∈B,∀j,b∉bf j:=by
   intro b Q j hbj
   obtain⟨n,J,⟨s1,hs1⟩,I⟩:=Y b Q
   obtain⟨m,hm,⟨s2,hs2⟩,G⟩:=L.from_ j b hbj
   exact h.H.apart n s1 m s2 hs1 hs2 (λe=>hus n (BN _ J) (e▸hm)) b I G
  have hf2:MQ c F w Bs O' k (W.set i (ev E α.1)) (us.set i (a.eval x)) (AQ bf i B) (used++k1):=by
   constructor
   intro j d v hd T
   by_cases C:i=j
   subst C
   rw[BD]
   have hd':d=ev E α.1:=by
    rw[List.getElem?_set]at hd
    simp only[if_true]at hd
    split at hd
    exact(Option.some.inj hd).symm
    cases hd
   have hv':v=a.eval x:=by
    rw[List.getElem?_set]at T
    simp only[if_true]at T
    split at T
    exact(Option.some.inj T).symm
    cases T
   rw[hd',hv'];exact e1
   rw[List.getElem?_set_ne C]at hd T
   rw[BX bf B (Ne.symm C)]
   exact L.own j d v hd T
   intro j
   by_cases C:j=i
   subst C;rw[BD]
   rcases e2 with rfl|⟨n,J,rfl,_⟩
   simp
   obtain⟨s,hs⟩:=Z n J;exact h.H.nodup n s hs
   rw[BX bf B C];exact L.nodup j
   intro j1 j2 hne b I G
   by_cases U:j1=i
   subst U
   rw[BD]at I
   rw[BX bf B (Ne.symm hne)]at G
   exact N b I j2 G
   rw[BX bf B U]at I
   by_cases V:j2=i
   subst V
   rw[BD]at G
   exact N b G j1 I
   rw[BX bf B V]at G
   exact L.apart j1 j2 hne b I G
   intro j b Q
   by_cases C:j=i
   subst C;rw[BD]at Q
   obtain⟨n,U,V,q3⟩:=Y b Q
   exact⟨n,BB _ U,V,q3⟩
   rw[BX bf B C]at Q
   obtain⟨n,U,V,q3⟩:=L.from_ j b Q
   exact⟨n,BN _ U,V,q3⟩
   intro hk j
   by_cases C:j=i
   subst C;rw[BD]
   rcases e2 with rfl|⟨n,J,rfl,q⟩
   rfl
   exact(q hk).elim
   rw[BX bf B C];exact L.none hk j
  obtain⟨r1,R,r2⟩:=AIY h hO h2 (λf L=>hn f (BB _ L)) (λq n M=>hfr q n (BB _ M)) hnd2
   (λn M q=>by
    rcases Ac.1 q with q|q
    .exact hus n (BB _ M) q
    .exact hnd3 n q n M rfl) (λq hq=>hpb q (BL _ hq)) hf2
  refine⟨by simp[r1],R,?_⟩
  simpa[CU]using r2
theorem ADU{P:Program}{t:TypeId}{f:List D}(h:Qo P t=some f):∃i s,P.info? t=some i/\i.zero=some (.agg s)/\s.size=f.length/\∀(j:Nat) d,f[j]?=some d->∃v,s[j]?=some v/\Dp v=some d:=by
 unfold Qo at h;split at h;rename_i i hi;split at h;rename_i s H;obtain⟨l,q⟩:=AC1 h;refine⟨i,s,hi,H,by simpa using l.symm,λj d hd=>?_⟩;obtain⟨v,Q,x⟩:=q j d hd;exact⟨v,by simpa using Q,x⟩
 cases h
 cases h
theorem AFL{P:Program}{t:TypeId}{s:List D}{Z:Array Value}{fid:Nat->Nat}{h:Array Obj}{O X:Nat->Prop}{k:Nat}(i:∀(j:Nat) d,s[j]?=some d->∃v,Z[j]?=some v/\Dp v=some d)
  (hd:(s.all λd=>k==0||d.flat||H9 d)=true):∀(j:Nat)(d:D)(v:Value),s[j]?=some d->Z.toList[j]?=some v->AE fid h O X (ow k) d v []:=by
 intro j d v f H;obtain⟨u,Q,l⟩:=i j d f;rw[Array.getElem?_toList,Q]at H;injection H with H;subst H;refine AE.AMO l ?_;have:=Aj.1 hd d (List.mem_of_getElem? f);simp only[Bool.or_eq_true,beq_iff_eq]at this;rcases this with(q|q)|q
 .exact .inl q
 .exact .inr (.inl q)
 .exact .inr (.inr q)
theorem AR9{k:Nat}{t:TypeId}(M:o.op=.alloc t)(f:Tx cf AA o g k t=some (p,sm))(h:At cf c F E a w vs Bs AA g p sm)(G:Aw K E AA p):AV c o sm F E a w:=by
 unfold Tx at f;simp only[AS]at f;obtain⟨n,V,s,N,f⟩:=f;split at f;rename_i J;obtain⟨x,Q,L,l⟩:=J;simp only[AL,AJ]at f;obtain⟨rfl,rfl⟩:=f;obtain⟨i,Z,R,T,C,U⟩:=ADU N;have I:c.P=cf.P:=h.fits.P;have j:(execOp a.eval o).run c.P w=.ok (.value (.pointer (some ⟨w.heap.size,0,none⟩))) (w.alloc (.cells Z t)):=by simp only[execOp,M];refine C9 ?_;have:=Z8 (P:=c.P) (w:=w) (t:=t) (i:=i) (z:=.agg Z) (by rw[I];exact R) T;simpa[Value.cells]using this
 have q:D.g s=E AA:=by have:some (D.g s)=some (E AA):=G;injection this
 refine AV.B6 j ⟨AQ vs AA (.pointer (some ⟨w.heap.size,0,none⟩)),AQ Bs AA [w.heap.size],?_⟩;refine h.H.put (by simpa using h.fresh 0 (by simp[Pr.np])) (by rw[h.fits.nt];exact x) [] (Dh _ _ _) rfl rfl rfl ?_ (by simp) (by simp) h.g;rw[<-q];simp only[AE];refine⟨s,w.heap.size,Z,t,(0,0),[],rfl,rfl,rfl,heap_alloc_new w _,rfl,C,?_⟩;have B:((List.range s.length).flatMap λ_=>([]:List Nat))=[]:=by simp
 rw[<-B];exact AM.Wm (bf:=λ_=>[]) (by simpa using C.symm) (AFL (P:=cf.P) (t:=t) U l)
 cases f
end
end Go.Cat
namespace Go.Cat
section
variable(cf:CF)(st:List Fact)(AA:Nat)(o:Oper)(g:Gd)
def Ac6(P:Program)(t:TypeId)(f:Nat):Bool:=match P.underlying t with
 |some (.struct s)=>match s[f]? with
  |some fl=>match P.underlying fl.type with
   |some (.int _)=>true
   |some .bool=>true
   |some .string=>true
   |_=>false
  |none=>false
 |_=>false
def UL(t:TypeId)(x:Operand)(f:Nat):Option (Pr×Sm):=
 match o.dst with
 |none=>none
 |some d=>(Dj cf.P t).bind λn=>if d<cf.nt/\f<n then
   (rootOf st g x).bind λr=>if r.2.1=[]then match r.2.2.1 with
    |.b s=>some (.gt (.e r.1) [.k f],⟨r.2.2.2,[],if s=.v then one AA .v (some d) (.ad r.1 [.k f] AA g)else [.sl d (.ad r.1 [.k f] AA g)]⟩)
    |.v=>some (.fp false (.e r.1) f,⟨r.2.2.2,[],one AA .v (some d) (.vc AA g)⟩)
    |.y=>if Ac6 cf.P t f=true then some (.fp true (.e r.1) f,⟨r.2.2.2,[],one AA .v (some d) (.vc AA g)⟩)
     else some (.fp false (.e r.1) f,⟨r.2.2.2,[],one AA .y (some d) (.vc AA g)⟩)
    |_=>none
    else none
  else none
def WH(k:Nat)(t:TypeId)(x:Operand):Option (Pr×Sm):=
 match o.dst with
 |none=>none
 |some d=>(Dj cf.P t).bind λn=>if d<cf.nt then
   (rootOf st g x).bind λr=>if r.2.1=[]then match r.2.2.1 with
    |.b .v=>some (.wl n (.e r.1),⟨r.2.2.2,[],one AA .v (some d) (.is AA g)⟩)
    |.b s=>if k=1/\g=[]then some (.wl n (.e r.1),⟨r.2.2.2,[r.1],one AA (.a s) (some d) (.is AA g)⟩)
     else some (.wl n (.e r.1),⟨r.2.2.2,[],[.sl d (.ia r.1 AA g)]⟩)
    |.v=>some (.gp (.e r.1) n,⟨r.2.2.2,[],one AA .v (some d) (.is AA g)⟩)
    |.y=>some (.gp (.e r.1) n,⟨r.2.2.2,[],one AA .y (some d) (.is AA g)⟩)
    |_=>none
    else none
  else none
def S0(k:Nat)(t:TypeId)(x v:Operand):Option (Pr×Sm):=
 match x with
 |.tmp u=>if g=[]/\o.dst=none then(Dj cf.P t).bind λn=>match Bm st u with
  |some (.is r [])=>match CB st r with
   |some (.b s)=>(A5 cf st g v).bind λa=>match a.1 with
    |.e m=>if m≠r/\(a.2.1=.a s\/a.2.1=.v/\s=.v)then
      some (.ws r n a.1,⟨[.sl u (.is r []),.en r (.b s)]++(a.2.2++(E6 st k r).map λx=>.sl x.1 (.is r x.2)),r::(if a.2.1=.v then []else [m]),
       .en AA (.b s)::(E6 st k r).map λx=>.sl x.1 (.is AA x.2)⟩)
     else none
    |.c _=>none
   |_=>none
  |_=>none
  else none
 |_=>none
def SJ(x:Operand):Option (Pr×Sm):=
 match x,o.dst with
 |.tmp t,some d=>if d<cf.nt then match Bm st t with
  |some (.is n G)=>if G.isPrefixOf g then match CB st n with
   |some (.b s)=>some (.nop,⟨[.sl t (.is n G),.en n (.b s)],[],[.sl d (.is n g)]⟩)
   |some .v=>some (.nn (.e n),⟨[.sl t (.is n G),.en n .v],[],one AA .v (some d) (.is AA g)⟩)
   |some .y=>some (.nn (.e n),⟨[.sl t (.is n G),.en n .y],[],one AA .y (some d) (.is AA g)⟩)
   |_=>none
   else none
  |_=>none
  else none
 |_,_=>none
def QC(P:Program)(t:TypeId):Bool:=match P.underlying t with
 |some (.pointer _)=>true
 |_=>false
def Oq(want:Bool)(x:Operand):Option (Pr×Sm):=
 (A5 cf st g x).bind λa=>if a.2.1=.v\/a.2.1=.y then FI cf AA o g (.nz want a.1) .v a.2.2 else none
end
section
variable{cf:CF}{c:Cx}{F:Fact->Prop}{E:Nat->D}{a:Act}{w:World}{vs:Nat->Value}{Bs:Nat->List Nat}{AA:Nat}{g:Gd}{sm:Sm}{st:List Fact}{o:Oper}{p:Pr}
 {K:Nat->List D->List D->Prop}
theorem MQ.each{O':Nat->Prop}{k:Nat}{s:List D}{us:List Value}{bf:Nat->List Nat}{used:List Nat}(h:MQ c F w Bs O' k s us bf used)(l:s.length=us.length):
  ∃B,AM (AE c.fid w.heap O' c.Xb (ow k)) s us B/\B.Nodup/\(∀b∈B,∃n∈used,alive F n/\b∈Bs n)/\(k=0->B=[]):=by
 refine⟨_,AM.Wm l h.own,AcF h.nodup h.apart _,λb H=>?_,λf=>?_⟩
 .obtain⟨j,_,H⟩:=List.mem_flatMap.1 H;exact h.from_ j b H
 .simp[h.none f]
theorem AXA{k:Nat}{t:TypeId}{ps:Array (Nat×Operand)}(ho:o.op=.build t ps)(M:Th cf st AA o g k t ps=some (p,sm))(h:At cf c F E a w vs Bs AA g p sm)(hE:Aw K E AA p):AV c o sm F E a w:=by
 unfold Th at M;simp only[AS]at M;obtain⟨n,hn,Z,hz,⟨αs,ks,ns⟩,h1,M⟩:=M;split at M;rename_i hc;obtain⟨hin,hzl,hnd,hpn,hpl,J⟩:=hc;simp only[AL,AJ]at M;obtain⟨rfl,rfl⟩:=M;simp only at hnd;have hP:c.P=cf.P:=h.fits.P;obtain⟨i,R,z1,z2,z3,z4⟩:=ADU hz;have C:(if((CU (Z.map Km) αs).map λx=>(ev E x.1,x.2)).all (CI k)=true then some (D.g ((CU (Z.map Km) αs).map λx=>ev E x.1))else none)=some (E AA):=hE;split at C;rename_i G;injection C with C;have hlt:∀n s,F (.en n s)->∀b∈Bs n,b<w.heap.size:=λn s hs=>AE.F2 s _ _ _ (h.H.own n s hs);have hO:=Rl h.H (ks:=ks) (es:=ow k) (N:=λ_=>False) (λb hb q=>q.elim);have U:=AGD h h1 (λf hf=>hf);have L:αs.map (·.1)=ps.toList.map (·.1):=by
  clear C G h U hO;have:∀(l:List (Nat×Operand))(αs:List (Nat×A×Nat)) ks ns,G7 cf st g k l=some (αs,ks,ns)->αs.map (·.1)=l.map (·.1):=by
   intro l;induction l with
   |nil=>intro αs ks ns h;simp only[G7,AL,AJ]at h;obtain⟨rfl,_⟩:=h;rfl
   |cons x l ih=>
    intro αs ks ns h
    simp only[G7,AS,Ae,AJ]at h
    obtain⟨_,_,⟨αs',k2,n2⟩,h2,rfl,_⟩:=h
    simp[ih _ _ _ h2]
  exact this _ _ _ _ h1
 have Y:∀q∈αs,q.1<n:=by
  intro q Q;have:q.1∈ps.toList.map (·.1):=by rw[<-L];exact List.mem_map.2 ⟨q,Q,rfl⟩
  obtain⟨r,hr,e⟩:=List.mem_map.1 this;have:=Aj.1 hpl r hr;simp only[Ad]at this;omega
 have hpb:∀q∈αs,CI k (ev E q.2.1,q.2.2)=true:=by intro q Q;have hg:=VA αs (Z.map Km) (by rw[L];exact hpn) q Q (by simp[hzl,Y q Q]);have:=Aj.1 G (ev E q.2.1,q.2.2) (by refine List.mem_map.2 ⟨q.2,List.mem_of_getElem? hg,rfl⟩);exact this
 have hz0:MQ c F w Bs (Nb F Bs ks (ow k) λ_=>False) k Z R.toList (λ_=>[]) []:=
  ⟨AFL (P:=cf.P) (t:=t) z4 (by
   rw[Aj]at J|-
   intro d hd
   have:=J d hd
   simp only[AU]at this
   exact this.2),by simp,by simp,by simp,λ_ _=>rfl⟩
 obtain⟨_,bf,W⟩:=AIY h hO h1 (λf hf=>hf) (λq=>by subst q;exact QQ h.H (λn hn=>hn) U (λn hn b hb e=>e)) hnd (by simp) hpb hz0;have V:(CU (Z.map Km) αs).map (λx=>ev E x.1)=CU Z (αs.map λq=>(q.1,ev E q.2.1)):=by
  rw[AGR];congr 1;rw[List.map_map];apply List.ext_getElem?;intro j;simp only[List.getElem?_map]
  cases Z[j]?<;>simp[Km,ev]
 rw[V]at C;have I:(CU Z (αs.map λq=>(q.1,ev E q.2.1))).length=(CU R.toList (ps.toList.map λq=>(q.1,a.eval q.2))).length:=by rw[Uz,Uz];simpa using z3.symm
 obtain⟨B,f1,f2,f3,f4⟩:=W.each I;simp only[List.nil_append]at f3;have hone:(CU Z (αs.map λq=>(q.1,ev E q.2.1))).all D.one=true:=by rw[<-V,Aj];intro d hd;obtain⟨x,hx,rfl⟩:=List.mem_map.1 hd;exact Ug (Aj.1 G _ (List.mem_map.2 ⟨x,hx,rfl⟩))
 have hv1:=AM.one hone I.symm f1;have hpv:∀q∈(ps.map λ(i,x)=>(i,a.eval x)).toList,q.1<n/\q.2.oneCell'=true:=by intro q Q;rw[Array.toList_map]at Q;obtain⟨r,hr,rfl⟩:=List.mem_map.1 Q;have h3:=Aj.1 hpl r hr;simp only[Ad]at h3;refine⟨h3,hv1 _ ?_⟩;have:=VA (ps.toList.map λq=>(q.1,a.eval q.2)) R.toList (by rw[List.map_map];exact hpn) (r.1,a.eval r.2) (List.mem_map.2 ⟨r,hr,rfl⟩) (by simp;omega);exact List.mem_of_getElem? this
 have hrun:(execOp a.eval o).run c.P w=.ok (.value (.agg (CU R.toList (ps.toList.map λq=>(q.1,a.eval q.2))).toArray)) w:=by simp only[execOp,ho];refine C9 ?_;have:=AP1 (P:=c.P) (w:=w) (t:=t) (n:=n) (by rw[hP];exact hn) (by rw[hP];exact z1) z2 (by omega) hpv;rw[this,Array.toList_map]
 refine AV.B6 hrun ⟨AQ vs AA (.agg (CU R.toList (ps.toList.map λq=>(q.1,a.eval q.2))).toArray),AQ Bs AA B,?_⟩;refine h.H.put (by simpa using h.fresh 0 (by simp[Pr.np])) (by rw[h.fits.nt];exact hin) ks (Ao.refl _ _) rfl rfl rfl ?_ f2 (λb hb=>?_) h.g;rw[<-C];have hO2:∀b,b<w.heap.size->(EE F Bs (λn=>n∈ks) b\/b∈B)->Nb F Bs ks (ow k) (λ_=>False) b:=by
  rintro b hb (q|q);exact .inl q;by_cases hk:k=0;rw[f4 hk]at q;simp at q;refine .inr (.inl ⟨?_,f3 b q⟩)
  cases k with
  |zero=>exact(hk rfl).elim
  |succ k=>simp[ow]
 have T:AM (AE c.fid w.heap (λb=>EE F Bs (λn=>n∈ks) b\/b∈B) c.Xb (ow k)) (CU Z (αs.map λq=>(q.1,ev E q.2.1))) (CU R.toList (ps.toList.map λq=>(q.1,a.eval q.2))) B:=
  AM.imp (λd v B1 hB1 r=>AE.ext (Ao.refl (λ_=>False) _) (λ_ _ q=>q.elim) hO2 _ _ _ _ (λ_ _ q=>q) r) f1
 unfold ANF;split;rename_i hk;subst hk;have hB0:=f4 rfl;subst hB0;have hv:=Fc.1 T;simp only[AE,Rd];exact⟨trivial,_,rfl,by simpa using I.symm,by simpa using hv.2⟩;simp only[AE];exact⟨_,_,rfl,rfl,by simpa using I.symm,by simpa using T⟩;obtain⟨n,q1,⟨s,hs⟩,q3⟩:=f3 b hb;exact .inl ⟨n,s,hs,q1,q3⟩
 cases C
 cases M
theorem YG{d f:D}(h:KF d=some f):∃xs,d=.g xs/\f=.p xs:=by
 unfold KF at h;split at h;rename_i xs;injection h with h;exact⟨xs,rfl,h.symm⟩
 cases h
theorem K5{k:Nat}{d f:D}(h:FR k d=some f):∃xs,d=.g xs/\f=.g xs/\xs.length=k/\xs.all D.one=true:=by
 unfold FR at h;split at h;rename_i xs;split at h;rename_i H;injection h with h;exact⟨xs,rfl,h.symm,H.1,H.2⟩
 cases h
 cases h
theorem ARP{k:Nat}{d f:D}(h:KT k d=some f):∃xs,d=.p xs/\f=.g xs/\xs.length=k:=by
 unfold KT at h;split at h;rename_i xs;split at h;rename_i H;injection h with h;exact⟨xs,rfl,h.symm,H⟩
 cases h
 cases h
theorem Ab8(h:At cf c F E a w vs Bs AA g p sm):¬c.Xb w.heap.size:=λq=>by
 have:=(c.hX _ q).1
 have:=h.H.agr.size
 omega
theorem AHI(h:At cf c F E a w vs Bs AA g p sm){kill:Nat->Prop}:¬EE F Bs kill w.heap.size:=by rintro⟨n,s,f,_,i⟩;have:=AE.F2 s _ _ _ (h.H.own n s f) _ i;omega
theorem AZL{k:Nat}{t:TypeId}{x:Operand}(ho:o.op=.box t x)(i:Sj cf st AA o g k t x=some (p,sm))(h:At cf c F E a w vs Bs AA g p sm)(U:Aw K E AA p):AV c o sm F E a w:=by
 unfold Sj at i;simp only[AS]at i;obtain⟨n,hn,⟨α,s1,ns⟩,T,i⟩:=i;simp only at i;split at i;rename_i hc;obtain⟨hin,hg0⟩:=hc;have l:BW o.dst c.nt=true:=by rw[h.fits.nt];exact hin
 have C:∀cs:Array Value,a.eval x=.agg cs->(execOp a.eval o).run c.P w=.ok (.value (.pointer (some ⟨w.heap.size,0,none⟩))) (w.alloc (.cells cs t)):=by intro cs hcs;simp only[execOp,ho];refine C9 ?_;rw[hcs,Vk];rfl
 have L:∀b,b<w.heap.size->(EE F Bs (λk=>k∈([]:List Nat)) b\/b∈([]:List Nat))->OB F Bs b:=by rintro b _ (⟨n,s,q1,_,q3⟩|q);exact⟨n,s,q1,q3⟩;simp at q
 split at i;split at i;simp only[AL,AJ]at i;obtain⟨rfl,rfl⟩:=i;obtain⟨xs,I,J⟩:=YG (d:=ev E α) (show KF (ev E α)=some (E AA)from U);obtain⟨B,j,_⟩:=h.A5 T (λf M=>M);rw[I]at j;simp only[AE,Rd]at j;obtain⟨_,cs,N,Q,R⟩:=j;refine AV.B6 (C cs N) ⟨AQ vs AA _,AQ Bs AA [],h.H.put (by simpa using h.fresh 0 (by simp[Pr.np])) l [] (Dh _ _ _) rfl rfl rfl ?_ (by simp) (by simp) h.g⟩;rw[J];simp only[AE,Rd];refine⟨trivial,w.heap.size,0,cs,t,(0,0),rfl,heap_alloc_new w _,?_,?_⟩;rintro((q|q)|q);exact AHI h q;simp at q;exact Ab8 h q;simp only[List.drop_zero];refine AP.ext (S:=λ_=>False) (Dh _ _ _) (λ_ _ q=>q.elim) (λb G q=>q.imp (L b G) id) _ _ R;simp only[AL,AJ]at i;obtain⟨rfl,rfl⟩:=i;obtain⟨xs,I,J,e3,e4⟩:=K5 (d:=ev E α) (show FR n (ev E α)=some (E AA)from U);obtain⟨B,j,_⟩:=h.A5 T (λf M=>M);rw[I]at j;simp only[AE,Rd]at j;obtain⟨_,cs,N,Q,R⟩:=j;refine AV.B6 (C cs N) ⟨AQ vs AA _,AQ Bs AA [w.heap.size],h.H.put (by simpa using h.fresh 0 (by simp[Pr.np])) l [] (Dh _ _ _) rfl rfl rfl ?_ (by simp) (by simp) h.g⟩;rw[J];simp only[AE];refine⟨xs,w.heap.size,cs,t,(0,0),[],rfl,rfl,rfl,heap_alloc_new w _,rfl,Q,Fc.2 ⟨rfl,?_⟩⟩;refine AP.ext (S:=λ_=>False) (Z:=λb=>(OB F Bs b\/c.Xb b)\/b=w.heap.size) (Dh _ _ _) (λ_ _ q=>q.elim) (λb G q=>?_) _ _ (AP.mono R λb G q=>q.elim id (λq=>by omega));rcases q with(q|q)|q;exact .inl (.inl (L b G (.inl q)));exact .inr (by simpa using q);exact .inl (.inr q);simp only[AL,AJ]at i;obtain⟨rfl,rfl⟩:=i;obtain⟨xs,I,J⟩:=YG (d:=ev E α) (show KF (ev E α)=some (E AA)from U);obtain⟨B,j,_⟩:=h.A5 T (λf M=>M);rw[I]at j;simp only[AE,Rd]at j;obtain⟨_,cs,N,Q,R⟩:=j;refine AV.B6 (C cs N) ⟨AQ vs AA _,AQ Bs AA [],h.H.put (by simpa using h.fresh 0 (by simp[Pr.np])) l [] (Dh _ _ _) rfl rfl rfl ?_ (by simp) (by simp) h.g⟩;rw[J];simp only[AE,Rd];refine⟨trivial,w.heap.size,0,cs,t,(0,0),rfl,heap_alloc_new w _,?_,?_⟩;rintro(q|q);exact AHI h q;simp at q;simp only[List.drop_zero];refine AP.ext (S:=λ_=>False) (Dh _ _ _) (λ_ _ q=>q.elim) L _ _ R;rename_i s
 split at i;rename_i m;simp only[AL,AJ]at i;obtain⟨rfl,rfl⟩:=i;obtain⟨xs,I,J,e3,e4⟩:=K5 (d:=ev E (.e m)) (show FR n (ev E (.e m))=some (E AA)from U);obtain⟨B,j,Y⟩:=h.A5 T (λf M=>M);obtain⟨V,k2,W⟩:=Y m rfl;rw[I]at j;simp only[AE]at j;obtain⟨ys,cs,hy,N,Q,he⟩:=j;injection hy with hy;subst hy;have hlt:∀b∈B,b<w.heap.size:=λb G=>AE.F2 _ _ _ _ (h.H.own m _ V) b (W▸G);refine AV.B6 (C cs N) ⟨AQ vs AA _,AQ Bs AA (w.heap.size::B),h.H.put (by simpa using h.fresh 0 (by simp[Pr.np])) l [m] (Dh _ _ _) rfl rfl rfl ?_ ?_ ?_ h.g⟩;rw[J];simp only[AE];refine⟨xs,w.heap.size,cs,t,(0,0),B,rfl,rfl,rfl,heap_alloc_new w _,rfl,Q,?_⟩;refine AM.imp (λd v B1 hB1 r=>?_) he;refine AE.ext (S:=λ_=>False) (Dh _ _ _) (λ_ _ q=>q.elim) ?_ _ _ _ _ (λ_ _ q=>q) r;rintro b G (⟨n,s,q1,_,q3⟩|q);exact⟨n,s,q1,q3⟩;rcases AY.1 q with q|q;omega;exact⟨m,_,V,W▸q⟩;refine List.nodup_cons.2 ⟨λq=>?_,by rw[W];exact h.H.nodup m _ V⟩;have:=hlt _ q;omega;intro b G;rcases AY.1 G with rfl|G;exact .inr (Nat.le_refl _);exact .inl ⟨m,_,V,by simp,W▸G⟩
 cases i
 cases i
 cases i
end
end Go.Cat
namespace Go.Cat
section
variable{cf:CF}{c:Cx}{F:Fact->Prop}{E:Nat->D}{a:Act}{w:World}{vs:Nat->Value}{Bs:Nat->List Nat}{AA:Nat}{g:Gd}{sm:Sm}{st:List Fact}{o:Oper}{p:Pr}
 {K:Nat->List D->List D->Prop}
theorem APJ{d f:D}(h:known d=some f):f=d:=by
 unfold known at h;split at h
 cases h;injection h with h;exact h.symm
theorem AW5{k:Nat}{d f:D}(h:Lj k d=some f):∃xs,d=.p xs/\xs[k]?=some f:=by
 unfold Lj at h;split at h;rename_i xs;obtain⟨y,H,i⟩:=AS.1 h;rw[APJ i];exact⟨xs,rfl,H⟩
 cases h
theorem AMB{t:TypeId}{x:Operand}{f:Nat}(H:o.op=.fieldAddr t x f){v:Value}(h:(Instr.fieldAt t (a.eval x) f).run c.P w=.ok v w):(execOp a.eval o).run c.P w=.ok (.value v) w:=by simp only[execOp,H];exact C9 h
theorem ME{x:Operand}{n:Nat}{s:Sh}{ns:List Fact}(j:rootOf st g x=some (n,[],s,ns))(h:At cf c F E a w vs Bs AA g p sm)(i:∀f∈ns,f∈sm.needs):
  F (.en n s)/\a.eval x=vs n:=by
 obtain⟨H,is,d,l,C,G,B⟩:=Rf (s':=s) j h i (by simp[Sh.under]);refine⟨H,?_⟩;rcases B with⟨_,q,_⟩|⟨q,_⟩
 .exact q
 .have:=JV l;simp at this;exact(q this).elim
theorem AdL{t:TypeId}{x:Operand}{f:Nat}(ho:o.op=.fieldAddr t x f)(j:UL cf st AA o g t x f=some (p,sm))(h:At cf c F E a w vs Bs AA g p sm)(hE:Aw K E AA p):AV c o sm F E a w:=by
 unfold UL at j;split at j
 cases j;rename_i d hd;simp only[AS]at j;obtain⟨n,hn,j⟩:=j;split at j;rename_i hc;obtain⟨T,V⟩:=hc;simp only[AS]at j;obtain⟨⟨r,q,s,ns⟩,I,j⟩:=j;simp only at j;split at j;rename_i hq;subst hq;have hP:c.P=cf.P:=h.fits.P;have W:BW (some d) c.nt=true:=by rw[h.fits.nt];simpa[BW]using T
 have Q:∀(fl:Bool)(s':Sh),p=.fp fl (.e r) f->sm=⟨ns,[],one AA s' (some d) (.vc AA g)⟩->(s=.v/\s'=.v\/s=.y/\s'=.y\/s=.y/\fl=true/\s'=.v)->AV c o sm F E a w:=by
  intro fl s' hp hsm hss;subst hp hsm;obtain⟨hF,M⟩:=ME I h (λf U=>U);have i:=h.H.own r s hF;have hE0:((Lj f (E r)).bind λd=>if fl=true then GD d else some d)=some (E AA):=hE;obtain⟨y,y1,Y⟩:=AS.1 hE0;obtain⟨xs,e1,e2⟩:=AW5 y1;have hy:y=E AA/\(fl=true->(E AA).flat=true):=by
   split at Y;unfold GD at Y;split at Y;rename_i q;injection Y with Y;subst Y;exact⟨rfl,λ_=>q⟩
   cases Y;rename_i q;injection Y with Y;exact⟨Y,λq'=>(q q').elim⟩
  obtain⟨rfl,hfl⟩:=hy;rw[e1]at i;obtain⟨Z,hZ,hr,R⟩:∃Z:Nat->Prop,(∀b,OB F Bs b->Z b)/\Rd c.fid w.heap Z (.p xs) (vs r)/\(∀u,Rd c.fid w.heap Z (E AA) u->AE c.fid w.heap (OB F Bs) c.Xb s' (E AA) u []):=by
   rcases hss with⟨rfl,rfl⟩|⟨rfl,rfl⟩|⟨rfl,U,rfl⟩;simp only[AE]at i;exact⟨_,λb q=>.inl q,i.2,λu hu=>by simp only[AE];exact⟨trivial,hu⟩⟩
   simp only[AE]at i;exact⟨_,λb q=>q,i.2,λu hu=>by simp only[AE];exact⟨trivial,hu⟩⟩;simp only[AE]at i;exact⟨_,λb q=>q,i.2,λu hu=>by simp only[AE];exact⟨trivial,Rd.flat (hfl U) hu⟩⟩
  simp only[Rd]at hr;obtain⟨b,off,cs,e',fz,hv,hb,hz,hl⟩:=hr;obtain⟨u,hu1,hu2⟩:=AP.get hl e2;rw[Ed]at hu1;have C:(execOp a.eval o).run c.P w=.ok (.value (.pointer (some ⟨b,off+f,none⟩))) w:=by refine AMB ho ?_;rw[M,hv];exact XP (by rw[hP];exact hn) V
  refine AV.B6 C ⟨AQ vs AA u,AQ Bs AA [],?_⟩;rw[hd];refine h.H.leaf (s:=s') (v:=u) (by simpa using h.fresh 0 (by simp[Pr.np])) W (CS w) (R u hu2) [] ?_;intro tm B t' l hg;injection l with l;subst l;refine⟨b,off+f,cs,e',fz,B d rfl,hb,?_,λq=>hz (hZ b q)⟩;rw[BD];exact hu1
 split at j;rename_i es;simp only[AL,AJ]at j;obtain⟨rfl,rfl⟩:=j;obtain⟨hF,M⟩:=ME I h (λf U=>U);have i:=h.H.own r _ hF;have y1:EM E [.k f] (E r)=some (E AA):=hE;have y1':Ai [f] (E r)=some (E AA):=by simpa[EM,PE.ev]using y1
 obtain⟨b,o',u,B',w1,w2,w3,_⟩:=Wk.Iu [f] (.b es) es _ _ _ _ (by simp) i y1' (by simp[Sh.under]);have G:=w1;simp only[Wk]at G;obtain⟨b',o1,cs,e',fz,y',hst,hb,hy,hh⟩:=G;rcases hh with⟨_,rfl,rfl,rfl⟩|⟨hne,_⟩;obtain⟨hv,rfl⟩:vs r=.pointer (some ⟨b,0,none⟩)/\o'=f:=by
  rcases hst with⟨off,len,cap,q,_⟩|q;rw[q]at i;simp only[AE]at i;obtain⟨xs,b2,cs2,e2,fz2,B2,_,_,q2,_⟩:=i
  cases q2;exact q
 have C:(execOp a.eval o).run c.P w=.ok (.value (.pointer (some ⟨b,o',none⟩))) w:=by refine AMB ho ?_;rw[M,hv];have:=XP (P:=c.P) (w:=w) (b:=b) (o:=0) (by rw[hP];exact hn) V;simpa using this
 have N:Bh F AA:=by simpa using h.fresh 0 (by simp[Pr.np])
 have hnc:r≠AA:=by rintro rfl;exact N.1 _ hF
 have J:∀(tm:Array Value)(al:Nat->Prop),tm[d]?=some (.pointer (some ⟨b,o',none⟩))->GU w.heap E (AQ vs AA u) (OB F Bs) al tm d (.ad r [.k o'] AA g):=by intro tm al B _ _;refine⟨[o'],b,o',E AA,by simp[EB,PE.ev],y1',?_,B⟩;rw[BD,BX vs u hnc];exact w1
 split;rename_i L;subst L;rw[if_pos rfl]at h;simp only[AE]at w2;refine AV.B6 C ⟨AQ vs AA u,AQ Bs AA [],?_⟩;rw[hd];refine h.H.leaf (s:=.v) (v:=u) N W (CS w) (by simp only[AE];exact⟨trivial,w2.2⟩) [] ?_;intro tm B t' l;injection l with l;subst l;exact J tm _ (B d rfl);rename_i L;rw[if_neg L]at h;refine AV.B6 C ⟨AQ vs AA u,AQ Bs AA [],?_⟩;rw[hd];exact h.H.Nk N (by rw[h.fits.nt];exact T) (CS w) λtm B=>J tm _ B;exact(hne rfl).elim;simp only[AL,AJ]at j;exact Q false .v j.1.symm j.2.symm (.inl ⟨rfl,rfl⟩);split at j;simp only[AL,AJ]at j;exact Q true .v j.1.symm j.2.symm (.inr (.inr ⟨rfl,rfl,rfl⟩));simp only[AL,AJ]at j;exact Q false .y j.1.symm j.2.symm (.inr (.inl ⟨rfl,rfl⟩))
 cases j
 cases j
 cases j
theorem AYQ{k:Nat}{t:TypeId}{x:Operand}(ho:o.op=.load t x)(l:WH cf st AA o g k t x=some (p,sm))(h:At cf c F E a w vs Bs AA g p sm)(hE:Aw K E AA p):AV c o sm F E a w:=by
 unfold WH at l;split at l
 cases l;rename_i d hd;simp only[AS]at l;obtain⟨n,hn,l⟩:=l;split at l;rename_i U;simp only[AS]at l;obtain⟨⟨r,q,s,ns⟩,C,l⟩:=l;simp only at l;split at l;rename_i hq;subst hq;have hP:c.P=cf.P:=h.fits.P;have L:Dj c.P t=some n:=by rw[hP];exact hn
 have W:BW (some d) c.nt=true:=by rw[h.fits.nt];simpa[BW]using U
 have hput:∀v:Value,(a.put (some d) v).tmps[d]?=some v:=λv=>FY (by rw[h.H.size,h.fits.nt];exact U);have Q:∀(s':Sh),p=.gp (.e r) n->sm=⟨ns,[],one AA s' (some d) (.is AA g)⟩->(s=.v/\s'=.v\/s=.y/\s'=.y)->AV c o sm F E a w:=by
  intro s' hp hsm hss;subst hp hsm;obtain⟨I,G⟩:=ME C h (λf V=>V);have j:=h.H.own r s I;obtain⟨xs,M,T,Y⟩:=ARP (d:=E r) (show KT n (E r)=some (E AA)from hE);rw[M]at j;obtain⟨Z,hr,hOwn⟩:∃Z:Nat->Prop,Rd c.fid w.heap Z (.p xs) (vs r)/\(∀u,Rd c.fid w.heap Z (E AA) u->AE c.fid w.heap (OB F Bs) c.Xb s' (E AA) u []):=by
   rcases hss with⟨rfl,rfl⟩|⟨rfl,rfl⟩;simp only[AE]at j;exact⟨_,j.2,λu hu=>by simp only[AE];exact⟨trivial,hu⟩⟩
   simp only[AE]at j;exact⟨_,j.2,λu hu=>by simp only[AE];exact⟨trivial,hu⟩⟩
  simp only[Rd]at hr;obtain⟨b,off,cs,e',fz,R,N,hz,hl⟩:=hr;obtain⟨t1,t2⟩:=AP.take hl;have hoff:off+n<=cs.size:=by
   have hle:(List.take xs.length (List.drop off cs.toList)).length<=cs.size-off:=by simp[List.length_take];omega
   rw[t2,Y]at hle;obtain⟨fs,i,_,_,_,⟨_,h0⟩,_⟩:=J6 hn;omega
  have B:(execOp a.eval o).run c.P w=.ok (.value (.agg ((cs.toList.drop off).take n).toArray)) w:=by refine Iy ho ?_;rw[G,R];exact API L N hoff
  rw[Y]at t1 t2;have hcs:Rd c.fid w.heap Z (E AA) (.agg ((cs.toList.drop off).take n).toArray):=by rw[T];simp only[Rd];exact⟨_,rfl,by simpa[Y]using t2,by simpa using t1⟩
  refine AV.B6 B ?_;rw[hd];exact h.H.Lx (s:=s') (by simpa using h.fresh 0 (by simp[Pr.np])) W (CS w) (hOwn _ hcs) [] h.g
 split at l;simp only[AL,AJ]at l;obtain⟨rfl,rfl⟩:=l;obtain⟨I,G⟩:=ME C h (λf V=>V);have j:=h.H.own r _ I;obtain⟨xs,M,T,Y,e4⟩:=K5 (d:=E r) (show FR n (E r)=some (E AA)from hE);rw[M]at j;simp only[AE]at j;obtain⟨ys,b,cs,e,fz,B',J,hB,R,N,hth,hl,he⟩:=j;injection J with J;subst J;have B:(execOp a.eval o).run c.P w=.ok (.value (.agg cs)) w:=by refine Iy ho ?_;rw[G,R];exact UK L N (by omega)
 refine AV.B6 B ?_;rw[hd];refine h.H.Lx (s:=.v) (by simpa using h.fresh 0 (by simp[Pr.np])) W (CS w) ?_ [] h.g;rw[T];simp only[AE,Rd];exact⟨trivial,cs,rfl,hl,(Fc.1 he).2⟩;rename_i es hes;split at l;rename_i hk;simp only[AL,AJ]at l;obtain⟨rfl,rfl⟩:=l;obtain⟨I,G⟩:=ME C h (λf V=>V);have j:=h.H.own r _ I;obtain⟨xs,M,T,Y,e4⟩:=K5 (d:=E r) (show FR n (E r)=some (E AA)from hE);rw[M]at j;simp only[AE]at j;obtain⟨ys,b,cs,e,fz,B',J,hB,R,N,hth,hl,he⟩:=j;injection J with J;subst J;have B:(execOp a.eval o).run c.P w=.ok (.value (.agg cs)) w:=by refine Iy ho ?_;rw[G,R];exact UK L N (by omega)
 have hnd:=h.H.nodup r _ I;rw[hB]at hnd;refine AV.B6 B ⟨AQ vs AA (.agg cs),AQ Bs AA B',?_⟩;rw[hd];refine h.H.put (by simpa using h.fresh 0 (by simp[Pr.np])) W [r] (Ao.refl _ _) rfl rfl rfl ?_ (List.nodup_cons.1 hnd).2 (λb' hb'=>.inl ⟨r,_,I,by simp,by rw[hB];exact BL _ hb'⟩) h.g;rw[T];simp only[AE];refine⟨xs,cs,rfl,rfl,hl,AM.imp (λd v B1 hB1 r'=>?_) he⟩;refine AE.ext (Ao.refl (λ_=>False) _) (λ_ _ q=>q.elim) ?_ _ _ _ _ (λ_ _ q=>q) r';rintro b' _ (⟨n,s,q1,_,q3⟩|q);exact⟨n,s,q1,q3⟩;exact⟨r,_,I,by rw[hB];exact BL _ q⟩;simp only[AL,AJ]at l;obtain⟨rfl,rfl⟩:=l;obtain⟨I,G⟩:=ME C h (λf V=>V);have j:=h.H.own r _ I;obtain⟨xs,M,T,Y,e4⟩:=K5 (d:=E r) (show FR n (E r)=some (E AA)from hE);rw[M]at j;simp only[AE]at j;obtain⟨ys,b,cs,e,fz,B',J,hB,R,N,hth,hl,he⟩:=j;injection J with J;subst J;have B:(execOp a.eval o).run c.P w=.ok (.value (.agg cs)) w:=by refine Iy ho ?_;rw[G,R];exact UK L N (by omega)
 have hfr:Bh F AA:=by simpa using h.fresh 0 (by simp[Pr.np])
 have hnc:r≠AA:=by rintro rfl;exact hfr.1 _ I
 refine AV.B6 B ⟨AQ vs AA (.agg cs),AQ Bs AA [],?_⟩;rw[hd];refine h.H.Nk hfr (by rw[h.fits.nt];exact U) (CS w) λtm htm=>?_;intro _ _;exact⟨xs,b,cs,e,fz,M,T,by rw[BX vs _ hnc];exact R,N,by rw[BD],by rw[BD];exact htm⟩;simp only[AL,AJ]at l;exact Q .v l.1.symm l.2.symm (.inl ⟨rfl,rfl⟩);simp only[AL,AJ]at l;exact Q .y l.1.symm l.2.symm (.inr ⟨rfl,rfl⟩)
 cases l
 cases l
 cases l
theorem AZX{x:Operand}(Z:o.op=.nilCheck x)(i:SJ cf st AA o g x=some (p,sm))(h:At cf c F E a w vs Bs AA g p sm)(W:Aw K E AA p):AV c o sm F E a w:=by
 unfold SJ at i;split at i
 .rename_i t d hd;split at i
  .rename_i I;have Q:BW (some d) c.nt=true:=by rw[h.fits.nt];simpa[BW]using I
   split at i
   .rename_i n T hl;split at i
    .rename_i N;have J:∀_s:Sh,Fact.sl t (.is n T)∈sm.needs->a.eval (.tmp t)=vs n:=by intro _ Y;have M:=(h.H.loc t _ (h.needs _ Y)).1 (JD N h.g);simp[Act.eval,CX,M]
     have G:∀ad,a.eval (.tmp t)=.pointer (some ad)->(execOp a.eval o).run c.P w=.ok (.value (.pointer (some ad))) w:=by intro ad M;simp only[execOp,Z,M];rfl
     have C:∀(s':Sh),(s'=.v\/s'=.y)->p=.nn (.e n)->sm=⟨[.sl t (.is n T),.en n s'],[],one AA s' (some d) (.is AA g)⟩->AV c o sm F E a w:=by
      intro s' L hp R;subst hp R;have l:=J s' (by simp);have f:=h.H.own n s' (h.needs _ (by simp));have j:Ma (E n)=some (E AA):=W;unfold Ma at j;split at j
      .rename_i xs U;injection j with j;have B:∃ad,vs n=.pointer (some ad):=by
        rw[U]at f;rcases L with rfl|rfl
        all_goals
         simp only[AE,Rd]at f
         obtain⟨_,b,off,cs,e,V,B,_⟩:=f
         exact⟨_,B⟩
       obtain⟨ad,B⟩:=B;refine AV.B6 (G ad (l.trans B)) ?_;rw[hd];refine h.H.Lx (s:=s') (by simpa using h.fresh 0 (by simp[Pr.np])) Q (CS w) ?_ [] h.g;rw[<-j,<-U,<-B];rcases L with rfl|rfl;simp only[AE]at f|-;exact⟨trivial,f.2⟩;simp only[AE]at f|-;exact⟨trivial,f.2⟩
      cases j
     split at i;rename_i s hs;simp only[AL,AJ]at i;obtain⟨rfl,rfl⟩:=i;have l:=J (.b s) (by simp);have f:=h.H.own n (.b s) (h.needs _ (by simp));simp only[AE]at f;obtain⟨ys,b,cs,e,V,B',hy,hB,B,_⟩:=f;refine AV.B6 (G _ (l.trans B)) ⟨vs,Bs,?_⟩;rw[hd];refine h.H.slot (CS w) ⟨λ_=>?_,λq=>(q h.g).elim⟩;rw[FY (by rw[h.H.size,h.fits.nt];exact I),B];simp only[AL,AJ]at i;exact C .v (.inl rfl) i.1.symm i.2.symm;simp only[AL,AJ]at i;exact C .y (.inr rfl) i.1.symm i.2.symm
     cases i
    cases i
   cases i
  cases i
 cases i
theorem Ad5{P:Program}{t:TypeId}(h:QC P t=true):P.underlying t=some (.pointer (P.pointee t)):=by
 unfold QC at h;split at h;rename_i e he;simp[Program.pointee,he]
 cases h
theorem AJC{want:Bool}{L:BinOp}{t ty:TypeId}{x:Operand}(W:o.op=.binOp L t x (.const (.pointer none)) ty)(G:L=.eql/\want=true\/L=.neq/\want=false)(Y:QC cf.P t=true)
  (j:Oq cf st AA o g want x=some (p,sm)) (h:At cf c F E a w vs Bs AA g p sm) (U:Aw K E AA p):AV c o sm F E a w:=by
 unfold Oq at j;simp only[AS]at j;obtain⟨⟨α,s,ns⟩,T,j⟩:=j;simp only at j;split at j
 .rename_i R;obtain⟨rfl,hi,rfl⟩:=Fj j;obtain⟨B,i,_⟩:=h.A5 T (λf V=>V);have l:(Jy (ev E α)).map (λx=>D.b (x==want))=some (E AA):=U;simp only[Ae]at l;obtain⟨z,H,M⟩:=l;have I:∃ad:Option Addr,a.eval x=.pointer ad/\ad.isNone=z:=by
   unfold Jy at H;split at H;rename_i q;injection H with H;rw[q]at i;refine⟨none,?_,by simp[<-H]⟩;rcases R with rfl|rfl;simp only[AE,Rd]at i;exact i.2;simp only[AE,Rd]at i;exact i.2
   .rename_i xs q;injection H with H;rw[q]at i;rcases R with rfl|rfl
    all_goals
     simp only[AE,Rd]at i
     obtain⟨_,b,off,cs,e,fz,I,_⟩:=i
     exact⟨_,I,by simp[<-H]⟩
   cases H
  obtain⟨ad,I,J⟩:=I;have he:=Ad5 Y;have Q:c.P=cf.P:=h.fits.P;refine Fk h hi (CS w) (v:=.bool (z==want)) ?_ (AE.Jb λZ=>by rw[<-M];simp[Rd]);simp only[execOp,W];refine C9 ?_;have C:a.eval (.const (.pointer none))=.pointer none:=rfl;rw[I,C,Sem.run_bind];have N:(eqGuard L t x (.const (.pointer none)) (.pointer ad) (.pointer none)).run c.P w=.ok () w:=by rcases G with⟨rfl,_⟩|⟨rfl,_⟩<;>simp[eqGuard]
  rw[N];show(binOp L t (.pointer ad) (.pointer none)).run c.P w=_;rcases G with⟨rfl,rfl⟩|⟨rfl,rfl⟩
  .rw[run_eql_pointer_nil w t ad (by rw[Q];exact he)];simp[J]
  .rw[run_neq_pointer_nil w t ad (by rw[Q];exact he)];simp[J]
 .cases j
end
end Go.Cat
namespace Go.Cat
section
variable(cf:CF)(st:List Fact)(AA:Nat)(o:Oper)(g:Gd)
def TO(k:Nat)(t:TypeId)(x v:Operand):Option (Pr×Sm):=
 match x with
 |.tmp s=>if g=[]/\o.dst=none/\F8 cf.P t=true then match Bm st s with
  |some l=>match Ho l with
   |some (r,p,[])=>
    (CB st r).bind λi=>(i.under p.length).bind λes=>(Ez es).bind λf=>(Jd cf st g f v).bind λa=>
     if r∉a.2.1/\f≠0 then some (.uq r p a.1.1 a.1.2 f,⟨[.sl s l,.en r i]++(a.2.2++((E6 st k r).map λx=>.sl x.1 (.is r x.2))++(E2 st k r p).map λx=>.sl x.1 x.2.1),r::a.2.1,
      .en AA i::((E6 st k r).map λx=>.sl x.1 (.is AA x.2))++(E2 st k r p).map λx=>.sl x.1 (.aw AA [x.2.2] [])⟩)
     else none
   |_=>none
  |none=>none
  else none
 |_=>none
def W3(x:Operand):Option (Pr×Sm):=
 match x,o.dst with
 |.tmp t,some d=>if g=[]/\d<cf.nt then match Bm st t with
  |some (.is n [])=>(CB st n).map λs=>(.cy (.e n),⟨[.sl t (.is n []),.en n s]++((slotsOf st n).filter λy=>y.1 != d).map (λy=>.sl y.1 (.is n y.2)),[n],
    .en AA s::.sl d (.is AA [])::((slotsOf st n).filter λy=>y.1 != d).map λy=>.sl y.1 (.is AA y.2)⟩)
  |_=>none
  else none
 |_,_=>none
end
section
variable{cf:CF}{c:Cx}{F:Fact->Prop}{E:Nat->D}{a:Act}{w:World}{vs:Nat->Value}{Bs:Nat->List Nat}{AA:Nat}{g:Gd}{sm:Sm}{st:List Fact}{o:Oper}{p:Pr}
 {K:Nat->List D->List D->Prop}
theorem AaX{k:Nat}{t:TypeId}{x v:Operand}(ho:o.op=.store t x v)(i:S0 cf st AA o g k t x v=some (p,sm))(h:At cf c F E a w vs Bs AA g p sm)(hE:Aw K E AA p):AV c o sm F E a w:=by
 unfold S0 at i;split at i;rename_i u;split at i;rename_i hc;obtain⟨hg0,hdst⟩:=hc;simp only[AS]at i;obtain⟨n,hn,i⟩:=i;split at i;rename_i r hl;split at i;rename_i s hs;simp only[AS]at i;obtain⟨⟨α,sv,ns⟩,h1,i⟩:=i;simp only at i;split at i;rename_i m;split at i;rename_i hcm;obtain⟨hmr,hsv⟩:=hcm;simp only[AL,AJ]at i;obtain⟨rfl,rfl⟩:=i;have hP:c.P=cf.P:=h.fits.P;have Y:F (.en r (.b s)):=h.needs _ (by simp);have T:=h.H.own r _ Y;simp only[AE]at T;obtain⟨ys,b,old,e,fz,B',hy,hB,hv,hb,hth,hol,_⟩:=T;have hfz:fz=(0,0):=hth;subst hfz;have hloc:a.tmps[u]?=some (vs r):=(h.H.loc u _ (h.needs (.sl u (.is r [])) (by simp))).1 (by simp[Am]);have hev:a.eval (.tmp u)=.pointer (some ⟨b,0,none⟩):=by rw[<-hv];simp[Act.eval,CX,hloc]
 obtain⟨B,l,hB2⟩:=h.A5 h1 (λf hf=>by simp[hf]);obtain⟨k1,k2,k3⟩:=hB2 m rfl;have I:(if Iw n (E r)=true then FR n (ev E (.e m))else none)=some (E AA):=hE;have hon:old.size=n:=by
  split at I;rename_i q;rw[hy]at q;simp only[Iw,beq_iff_eq]at q;omega
  cases I
 rw[if_pos (by rw[hy];simp[Iw];omega)]at I;obtain⟨xs,e1,e2,e3,e4⟩:=K5 I;rw[e1]at l;obtain⟨cs,hcs,hcl,M,V,U,hone⟩:∃cs,a.eval v=.agg cs/\cs.size=xs.length/\∃M,M=(if sv=.v then []else Bs m)/\AM (AE c.fid w.heap (OB F Bs) c.Xb s) xs cs.toList M/\∀v∈cs.toList,v.oneCell'=true:=by
  rcases hsv with rfl|⟨rfl,rfl⟩;simp only[AE]at l;obtain⟨zs,cs,hz,Z,G,he⟩:=l;injection hz with hz;subst hz;refine⟨cs,Z,G,B,by simp[k3],he,AM.one e4 (by simpa using G) he⟩
  simp only[AE,Rd]at l;obtain⟨_,cs,Z,G,he⟩:=l;exact⟨cs,Z,G,[],by simp,Fc.2 ⟨rfl,he⟩,AP.one e4 (by simpa using G) he⟩
 have hlt:∀n s,F (.en n s)->∀b∈Bs n,b<w.heap.size:=λn s hs=>AE.F2 s _ _ _ (h.H.own n s hs);have N:∀b'∈M,b'∈Bs m:=by intro b' J;rw[V]at J;split at J;simp at J;exact J
 have C:b∈Bs r:=by rw[hB];simp
 have R:b∉M:=λq=>h.H.apart m sv r _ k1 Y hmr b (N b q) C;have hrun:(execOp a.eval o).run c.P w=.ok .skip (w.setRow b cs):=by simp only[execOp,ho];rw[Sem.run_bind,hev,hcs,AZQ (by rw[hP];exact hn) hb hon (by omega) hone];rfl
 have L:=setRow_heap w b old cs e (0,0) hb;have Q:Ao (λx=>x=b) w.heap (w.setRow b cs).heap:=⟨by simp,λx _ j=>setRow_other w b x _ j⟩;have hfr:Bh F AA:=by simpa using h.fresh 0 (by simp[Pr.np])
 have hrc:r≠AA:=by rintro rfl;exact hfr.1 _ Y
 have W:F (.en m sv):=k1
 have H1:=h.H.put (m:=AA) (s:=.b s) (v:=vs r) (B:=b::M) (dst:=none) (ns:=[]) hfr (by simp[BW]) (r::(if sv=.v then []else [m])) (Q.mono λx _ j=>⟨r,_,Y,by simp,by rw[j];exact C⟩) rfl rfl rfl
  (by
   rw[e2]
   simp only[AE]
   refine⟨xs,b,cs,e,(0,0),M,rfl,rfl,hv,L,rfl,hcl,AM.imp (λd v B1 hB1 q=>?_) U⟩
   refine AE.ext Q (λx _ j=>⟨r,_,Y,by rw[j];exact C⟩) ?_ _ _ _ _ (λx j q=>R (by rw[<-q];exact hB1 x j)) q
   rintro x _ (⟨n1,s1,q1,_,q3⟩|q)
   .exact⟨n1,s1,q1,q3⟩
   .rcases AY.1 q with rfl|q
    .exact⟨r,_,Y,C⟩
    .exact⟨m,_,W,N x q⟩)
  (by
   refine List.nodup_cons.2 ⟨R,?_⟩
   rw[V]
   split
   .simp
   .exact h.H.nodup m _ W)
  (λx j=>by
   rcases AY.1 j with rfl|j
   .exact .inl ⟨r,_,Y,by simp,C⟩
   .rw[V]at j
    split at j
    .simp at j
    .rename_i q
     exact .inl ⟨m,_,W,by simp[q],j⟩) h.g
 refine AV.PY hrun hdst ⟨AQ vs AA (vs r),AQ Bs AA (b::M),?_⟩;refine H1.FT ?_ ?_;intro n' s';simp only[next,one,AY,List.mem_map,Cy,or_false];constructor;rintro(q|q|⟨_,_,q⟩);exact .inl q;exact .inr q
 cases q;rintro(q|q);exact .inl q;exact .inr (.inl q);intro t' l' hf;rcases hf with⟨q1,_⟩|q;exact .inl (.inl ⟨q1,by simp⟩);simp only[AY,List.mem_map]at q;rcases q with q|⟨⟨u',gu⟩,hu,q⟩
 cases q;injection q with q1 q2;subst q1 q2;have hf0:F (.sl u' (.is r gu)):=h.needs _ (by simp only[Ac,List.mem_map];exact .inr (.inr ⟨(u',gu),hu,rfl⟩));have:=H1.loc u' (.is r gu) (.inl ⟨hf0,by simp⟩);right;refine⟨λhg=>?_,this.2⟩;have h1:=this.1 hg;rw[BX vs _ hrc]at h1;rw[BD];exact h1
 cases i
 cases i
 cases i
 cases i
 cases i
 cases i
theorem AaG{k:Nat}{t:TypeId}{x v:Operand}(ho:o.op=.store t x v)(i:TO cf st AA o g k t x v=some (p,sm))(h:At cf c F E a w vs Bs AA g p sm)(hE:Aw K E AA p):AV c o sm F E a w:=by
 unfold TO at i;split at i;rename_i s;split at i;rename_i hc;obtain⟨T,I,Y⟩:=hc;split at i;rename_i l hl;split at i;rename_i r q N;simp only[AS]at i;obtain⟨sr,hsr,es,R,kk,V,⟨α,ks,ns⟩,B,i⟩:=i;simp only at i;split at i;rename_i Q;obtain⟨Z,U⟩:=Q;simp only[AL,AJ]at i;obtain⟨rfl,rfl⟩:=i;have C:(if CI kk (ev E α.1,α.2)=true then(q.mapM (PE.ev E)).bind λis=>An is (E r) (ev E α.1)else none)=some (E AA):=hE;split at C;rename_i L;have j:∀f∈ns,f∈([.sl s l,.en r sr]++(ns++((E6 st k r).map λx=>Fact.sl x.1 (.is r x.2))++(E2 st k r q).map λx=>Fact.sl x.1 x.2.1)):=λf hf=>by simp[hf]
 have G:=Qp B h j;have J:=LN V;subst J;refine Uf ho T I Y N R Z h (by simp[Pr.np]) (Ug L) C G λO' hO hfr=>?_;obtain⟨Bx,x1,M⟩:=TL B h j hO (λq=>(U q).elim) L;refine⟨Bx,x1,?_,λb hb=>?_⟩;rcases M with rfl|⟨n,W,rfl,q⟩;simp;obtain⟨rn,hrn⟩:=G n W;exact h.H.nodup n rn hrn;rcases M with rfl|⟨n,W,rfl,q⟩;simp at hb;refine⟨n,W,hb,?_⟩
 cases kk with
 |zero=>exact(q rfl).elim
 |succ kk=>simp[ow]
 cases C
 cases i
 cases i
 cases i
 cases i
 cases i
theorem ATD{x:Operand}(Z:(execOp a.eval o).run c.P w=.ok (.value (a.eval x)) w)(f:W3 cf st AA o g x=some (p,sm))(h:At cf c F E a w vs Bs AA g p sm)(hE:Aw K E AA p):AV c o sm F E a w:=by
 unfold W3 at f;split at f;rename_i t d hd;split at f;rename_i hc;obtain⟨M,I⟩:=hc;split at f;rename_i n hl;simp only[Ae,AJ]at f;obtain⟨s,hs,rfl,rfl⟩:=f;have l:F (.en n s):=h.needs _ (by simp);have j:=(h.H.loc t _ (h.needs (.sl t (.is n [])) (by simp))).1 (by simp[Am]);have J:a.eval (.tmp t)=vs n:=by simp[Act.eval,CX,j]
 have C:E n=E AA:=by have:some (E n)=some (E AA):=hE;injection this
 have i:Bh F AA:=by simpa using h.fresh 0 (by simp[Pr.np])
 have R:n≠AA:=by rintro rfl;exact i.1 _ l
 have N:BW (some d) c.nt=true:=by rw[h.fits.nt];simpa[BW]using I
 rw[J]at Z
 have V:=h.H.put (m:=AA) (s:=s) (v:=vs n) (B:=Bs n) (dst:=some d) (ns:=[]) (w':=w) i N [n] (Ao.refl _ _) rfl rfl rfl
  (by
   rw[<-C]
   refine AE.ext (Ao.refl (λ_=>False) _) (λ_ _ q=>q.elim) ?_ _ _ _ _ (λ_ _ q=>q) (h.H.own n s l)
   rintro b _ (⟨n1,s1,Q,_,q3⟩|q)
   .exact⟨n1,s1,Q,q3⟩
   .exact⟨n,s,l,q⟩) (h.H.nodup n s l) (λb hb=>.inl ⟨n,s,l,by simp,hb⟩) h.g
 refine AV.B6 Z ⟨AQ vs AA (vs n),AQ Bs AA (Bs n),?_⟩;rw[hd];subst M;refine V.FT ?_ ?_;intro n' s';simp only[next,one,AY,List.mem_map,Cy,or_false];constructor;rintro(q|q|q|⟨_,_,q⟩);exact .inl q;exact .inr (.inl q)
 cases q
 cases q;rintro(q|q|q);exact .inl q;exact .inr (.inl q)
 cases q;intro t' l' hf;rcases hf with⟨Q,U⟩|q;exact .inl (.inl ⟨Q,U⟩);simp only[AY,List.mem_map]at q;rcases q with q|q|⟨⟨u,G⟩,Y,q⟩
 cases q;exact .inl (.inr (by simp[one,q]));injection q with Q U;subst Q U;have T:u≠d:=by have:=(List.mem_filter.1 Y).2;simpa using this
 have L:F (.sl u (.is n G)):=h.needs _ (by simp only[Ac,List.mem_map];exact .inr ⟨(u,G),Y,rfl⟩);have:=V.loc u (.is n G) (.inl ⟨L,by simpa using T⟩);right;refine⟨λhg=>?_,this.2⟩;have W:=this.1 hg;rw[BX vs _ R]at W;rw[BD];exact W
 cases f
 cases f
 cases f
end
end Go.Cat
namespace Go.Cat
def TH(P:Program)(t:TypeId):Option D:=match P.info? t with
 |some i=>match i.zero with
  |some z=>match Dp z with
   |some d=>some d
   |none=>match z with
    |.nilFunc=>some .u
    |_=>none
  |none=>none
 |none=>none
def Tf(st:List Fact)(t:Nat):Option Nat:=match Bm st t with
 |some (.is n [])=>some n
 |_=>none
def Vp:List Fact->Nat->Option (Nat×List Nat)
 |[],_=>none
 |.sl t (.fb f ns [])::r,u=>if t=u then some (f,ns)else Vp r u
 |_::r,u=>Vp r u
def U4:List Fact->Nat->List Nat->Option Nat
 |[],_,_=>none
 |.sl t (.fb f ns [])::r,i,N=>if f=i/\ns=N then some t else U4 r i N
 |_::r,i,N=>U4 r i N
def AaZ(st:List Fact)(n:Nat):Option Nat:=((slotsOf st n).find? λx=>x.2==[]&&Tf st x.1==some n).map (·.1)
section
variable(cf:CF)(sg:Nat->Option Sg)(st:List Fact)(AA:Nat)(o:Oper)(g:Gd)
def UM(k:Nat)(t:TypeId):Option (Pr×Sm):=
 (TH cf.P t).bind λd=>if BW o.dst cf.nt=true/\g=[]/\(k==0||d.flat||H9 d)=true then
  some (.cs (.b (ow k)) (.g [d]),⟨[],[],one AA (.b (ow k)) o.dst (.is AA g)⟩)else none
def WA(k:Nat)(t:TypeId)(x:Operand):Option (Pr×Sm):=
 (Jd cf st g k x).bind λa=>if BW o.dst cf.nt=true/\g=[]then
  some (.bg k [a.1],⟨a.2.2,a.2.1,one AA (.b (ow k)) o.dst (.is AA g)⟩)else none
def V9(k:Nat)(t:TypeId)(x:Operand):Option (Pr×Sm):=
 match x,o.dst with
 |.tmp s,some d=>if d<cf.nt/\F8 cf.P t=true then match Bm st s with
  |some (.is r G)=>if G.isPrefixOf g then match CB st r with
   |some (.b es)=>
    if es=.v then some (.gt (.e r) [.k 0],⟨[.sl s (.is r G),.en r (.b es)],[],one AA .v (some d) (.is AA g)⟩)
    else if k=1 then
     if g=[]/\es.FJ=true then some (.tk r,⟨[.sl s (.is r G),.en r (.b es)]++((slotsOf st r).filter λy=>y.1 != d).map (λy=>.sl y.1 (.is r y.2)),[r],
      .en AA es::.en (AA+1) (.b es)::.sl d (.is AA [])::((slotsOf st r).filter λy=>y.1 != d).map λy=>.sl y.1 (.is (AA+1) y.2)⟩)
     else none
    else some (.gt (.e r) [.k 0],⟨[.sl s (.is r G),.en r (.b es)],[],[.sl d (.ip r [.k 0] AA g)]⟩)
   |_=>none
   else none
  |_=>none
  else none
 |_,_=>none
def SH(t:TypeId)(x v:Operand):Option (Pr×Sm):=
 match x with
 |.tmp s=>if g=[]/\o.dst=none/\F8 cf.P t=true then match Bm st s with
  |some (.is r [])=>match CB st r with
   |some (.b es)=>(Lz cf st g es v).bind λa=>
     if r∉a.2.1 then some (.up r [.k 0] a.1,⟨[.sl s (.is r []),.en r (.b es)]++(a.2.2++((E6 st 0 r).map λx=>.sl x.1 (.is r x.2))++(E2 st 0 r [.k 0]).map λx=>.sl x.1 x.2.1),r::a.2.1,
      .en AA (.b es)::((E6 st 0 r).map λx=>.sl x.1 (.is AA x.2))++(E2 st 0 r [.k 0]).map λx=>.sl x.1 (.aw AA [x.2.2] [])⟩)
     else none
   |_=>none
  |_=>none
  else none
 |_=>none
def T8(t:TypeId)(x v:Operand):Option (Pr×Sm):=
 match x,v with
 |.tmp s,.tmp u=>if g=[]/\o.dst=none/\F8 cf.P t=true then match Bm st s,Bm st u with
  |some (.is r []),some (.fv f ns [])=>if CB st r=some (.b .v)then
    some (.cb r,⟨[.sl s (.is r []),.sl u (.fv f ns []),.en r (.b .v)]++(slotsOf st r).map (λy=>.sl y.1 (.is r y.2)),[r],
     .en AA .v::.sl s (.fb f (ns.map λn=>if n=r then AA else n) [])::(slotsOf st r).map λy=>.sl y.1 (.is AA y.2)⟩)
   else none
  |_,_=>none
  else none
 |_,_=>none
def Rn(t:TypeId)(x:Operand):Option (Pr×Sm):=
 match x,o.dst with
 |.tmp s,some d=>if d<cf.nt/\F8 cf.P t=true/\g=[]/\d≠s then
   match(match cf.cl with
    |some (m,k,cs)=>if m=s then(cs.mapM (Tf st)).map λns=>(k,cs,ns)else none
    |none=>none)with
   |some (k,cs,ns)=>if cs.all (λx=>x != d)=true then some (.nop,⟨(cs.zip ns).map λx=>.sl x.1 (.is x.2 []),[],[.sl d (.fv (cf.fid k) ns []),.sl s (.fb (cf.fid k) ns [])]⟩)else none
   |none=>(Vp st s).map λr=>(.nop,⟨[.sl s (.fb r.1 r.2 [])],[],[.sl d (.fv r.1 r.2 [])]⟩)
  else none
 |_,_=>none
def AGM:Operand->Option Nat
 |.tmp t=>some t
 |_=>none
def Ry(fn:Fn)(first captured:List Operand):Option (Pr×Sm):=
 match fn,first,o.dst with
 |.func f,[],some d=>if d<cf.nt/\g=[]then(captured.mapM λx=>(AGM x).bind λt=>(Tf st t).map λn=>(t,n)).map λl=>
   (.nop,⟨l.map λx=>.sl x.1 (.is x.2 []),[],[.sl d (.fv f (l.map (·.2)) [])]⟩)
  else none
 |_,_,_=>none
def SW(x:Operand)(k:Nat)(xs:List Operand):Option (Pr×Sm):=
 match x with
 |.tmp t=>match Bm st t with
  |some (.fv f ns [])=>if cf.fid k=f then(ns.mapM (AaZ st)).bind λus=>(U4 st f ns).bind λU=>(ns.findIdx? λn=>st.contains (.sl U (.is n []))).bind λj=>
    match ns[j]?,Kp cf sg st AA o g k (xs++us.map .tmp) (some (xs.length+j,k,(List.range ns.length).map (xs.length+·)))with
    |some N,some (p,sm)=>some (p,{ sm with needs:=([.sl t (.fv f ns []),.sl U (.fb f ns []),.sl U (.is N [])]++(us.zip ns).map λx=>.sl x.1 (.is x.2 []))++sm.needs })
    |_,_=>none
   else none
  |_=>none
 |_=>none
end
theorem AWD{P:Program}{t:TypeId}{d:D}(h:TH P t=some d):∃i z,P.info? t=some i/\i.zero=some z/\z.cells=#[z]/\(Dp z=some d\/d=.u):=by
 unfold TH at h;split at h;rename_i i hi;split at h;rename_i z H;split at h;rename_i f hd;injection h with h;subst h;refine⟨i,z,hi,H,?_,.inl hd⟩
 cases z<;>simp_all[Dp,Value.cells];split at h;injection h with h;subst h;exact⟨i,_,hi,H,rfl,.inr rfl⟩
 cases h
 cases h
 cases h
theorem mapM_mem{α β:Type}{f:α->Option β}:∀{l:List α}{r:List β},l.mapM f=some r->l.length=r.length/\∀(j:Nat)(x:α),l[j]?=some x->∃y,r[j]?=some y/\f x=some y
 |[],r,h=>by simp at h;subst h;simp
 |a::l,r,h=>by
  simp only[List.mapM_cons,Option.bind_eq_bind,AS,Option.pure_def,AL]at h;obtain⟨b,i,bs,q,rfl⟩:=h;obtain⟨Q,s⟩:=mapM_mem q;refine⟨by simp[Q],λj x H=>?_⟩
  cases j with
  |zero=>simp at H;subst H;exact⟨b,by simp,i⟩
  |succ j=>simpa using s j x (by simpa using H)
theorem AD7{α β:Type}{l:List α}{r:List β}{j:Nat}{x:α}{y:β}(H:l[j]?=some x)(f:r[j]?=some y):(x,y)∈l.zip r:=by rw[List.mem_iff_getElem?];exact⟨j,by simp[List.getElem?_zip_eq_some,H,f]⟩
section
variable{cf:CF}{sg:Nat->Option Sg}{c:Cx}{F:Fact->Prop}{E:Nat->D}{a:Act}{w:World}{vs:Nat->Value}{Bs:Nat->List Nat}{AA:Nat}{g:Gd}{sm:Sm}{st:List Fact}{o:Oper}{p:Pr}
 {K:Nat->List D->List D->Prop}
theorem AOS{k:Nat}{t:TypeId}(L:o.op=.alloc t)(f:UM cf AA o g k t=some (p,sm))(h:At cf c F E a w vs Bs AA g p sm)(B:Aw K E AA p):AV c o sm F E a w:=by
 unfold UM at f;simp only[AS]at f;obtain⟨d,hd,f⟩:=f;split at f;rename_i G;obtain⟨x,I,l⟩:=G;simp only[AL,AJ]at f;obtain⟨rfl,rfl⟩:=f;obtain⟨i,z,Z,M,N,Q⟩:=AWD hd;have C:c.P=cf.P:=h.fits.P;have j:(execOp a.eval o).run c.P w=.ok (.value (.pointer (some ⟨w.heap.size,0,none⟩))) (w.alloc (.cells #[z] t)):=by simp only[execOp,L];refine C9 ?_;have:=Z8 (P:=c.P) (w:=w) (t:=t) (i:=i) (z:=z) (by rw[C];exact Z) M;rw[N]at this;exact this
 have s:D.g [d]=E AA:=by have:some (D.g [d])=some (E AA):=B;injection this
 refine AV.B6 j ⟨AQ vs AA (.pointer (some ⟨w.heap.size,0,none⟩)),AQ Bs AA [w.heap.size],?_⟩;refine h.H.put (by simpa using h.fresh 0 (by simp[Pr.np])) (by rw[h.fits.nt];exact x) [] (Dh _ _ _) rfl rfl rfl ?_ (by simp) (by simp) h.g;rw[<-s];simp only[AE];refine⟨[d],w.heap.size,#[z],t,(0,0),[],rfl,rfl,rfl,heap_alloc_new w _,rfl,rfl,?_⟩;simp only[AM];refine⟨[],[],rfl,?_,rfl⟩;simp only[Bool.or_eq_true,beq_iff_eq]at l;rcases Q with q|rfl;refine AE.AMO q ?_;rcases l with(q|q)|q;exact .inl q;exact .inr (.inl q);exact .inr (.inr q);have J:k=0:=by rcases l with(q|q)|q;exact q;simp[D.flat]at q;simp[H9]at q
 subst J;simp only[ow,AE,Rd];exact⟨trivial,trivial⟩
 cases f
theorem AQ6{k:Nat}{t:TypeId}{x:Operand}(ho:o.op=.box t x)(I:WA cf st AA o g k t x=some (p,sm))(h:At cf c F E a w vs Bs AA g p sm)(hE:Aw K E AA p):AV c o sm F E a w:=by
 unfold WA at I;simp only[AS]at I;obtain⟨⟨α,ks,ns⟩,l,I⟩:=I;simp only at I;split at I;rename_i hc;obtain⟨Z,hg0⟩:=hc;simp only[AL,AJ]at I;obtain⟨rfl,rfl⟩:=I;have i:(if([α].map λx=>(ev E x.1,x.2)).all (CI k)=true then some (D.g ([α].map λx=>ev E x.1))else none)=some (E AA):=hE;split at i;rename_i V;injection i with i;have hp:CI k (ev E α.1,α.2)=true:=by simpa using V
 have T:∀f∈ns,f∈ns:=λ_ h=>h;have L:=Qp l h T;have hO:=Rl h.H (ks:=ks) (es:=ow k) (N:=λ_=>False) (λ_ _ q=>q.elim);obtain⟨B,x1,x2⟩:=TL l h T hO (λY=>by subst Y;exact QQ h.H (λn s=>s) L (λ_ _ _ _ q=>q)) hp;have U:=x1.one (Ug hp);have C:(a.eval x).cells=#[a.eval x]:=by
  generalize a.eval x=v at U
  cases v<;>simp_all[Value.cells,Value.oneCell']
 have W:(execOp a.eval o).run c.P w=.ok (.value (.pointer (some ⟨w.heap.size,0,none⟩))) (w.alloc (.cells #[a.eval x] t)):=by simp only[execOp,ho];refine C9 ?_;rw[Vk,C]
 have J:∀b∈B,∃n r,F (.en n r)/\n∈ks/\b∈Bs n/\ow k≠.v:=by
  intro b j;rcases x2 with rfl|⟨n,s,rfl,Y⟩;simp at j;obtain⟨r,G⟩:=L n s;refine⟨n,r,G,s,j,?_⟩
  cases k with
  |zero=>exact(Y rfl).elim
  |succ k=>simp[ow]
 have R:w.heap.size∉B:=by intro j;obtain⟨n,r,G,_,j,_⟩:=J _ j;have:=AE.F2 r _ _ _ (h.H.own n r G) _ j;omega
 have Q:B.Nodup:=by rcases x2 with rfl|⟨n,s,rfl,Y⟩;simp;obtain⟨r,G⟩:=L n s;exact h.H.nodup n r G
 refine AV.B6 W ⟨AQ vs AA (.pointer (some ⟨w.heap.size,0,none⟩)),AQ Bs AA (w.heap.size::B),?_⟩;refine h.H.put (by simpa using h.fresh 0 (by simp[Pr.np])) (by rw[h.fits.nt];exact Z) ks (Dh _ _ _) rfl rfl rfl ?_ (List.nodup_cons.2 ⟨R,Q⟩) (λb j=>?_) h.g;rw[<-i];simp only[List.map_cons,List.map_nil,AE];refine⟨[ev E α.1],w.heap.size,#[a.eval x],t,(0,0),B,rfl,rfl,rfl,heap_alloc_new w _,rfl,rfl,?_⟩;simp only[AM];refine⟨B,[],by simp,?_,rfl⟩;refine AE.ext (Dh w _ (λ_=>False)) (λ_ _ q=>q.elim) ?_ _ _ _ _ (λ_ _ q=>q) x1;rintro b j (q|q);exact .inl q;rcases AY.1 q with rfl|q;omega;obtain⟨n,r,G,s,M,hkv⟩:=J b q;exact .inr (.inl ⟨hkv,n,s,⟨r,G⟩,M⟩);rcases AY.1 j with rfl|j;exact .inr (Nat.le_refl _);obtain⟨n,r,G,s,M,_⟩:=J b j;exact .inl ⟨n,r,G,s,M⟩
 cases i
 cases I
theorem AE.VY{fid:Nat->Nat}{h:Array Obj}{O X:Nat->Prop}{s:Sh}(H:s.FJ=true)(v:Value):AE fid h O X s .u v []:=by cases s<;>simp[AE,Rd,Sh.FJ]at H|-
theorem AP0{k:Nat}{t:TypeId}{x:Operand}(ho:o.op=.load t x)(j:V9 cf st AA o g k t x=some (p,sm))(h:At cf c F E a w vs Bs AA g p sm)(hE:Aw K E AA p):AV c o sm F E a w:=by
 unfold V9 at j;split at j
 .rename_i s d hd;split at j
  .rename_i hc;obtain⟨hdn,hpl⟩:=hc;have hP:c.P=cf.P:=h.fits.P;have hin:BW (some d) c.nt=true:=by rw[h.fits.nt];simpa[BW]using hdn
   split at j
   .rename_i r g' hl;split at j
    .rename_i hg';split at j
     .rename_i es hes
      have core:Fact.sl s (.is r g')∈sm.needs->Fact.en r (.b es)∈sm.needs->∀y,Ai [0] (E r)=some y->F (.en r (.b es))/\∃b cs e u B',E r=.g (y::(match E r with|.g (_::ys)=>ys|_=>[]))/\vs r=.pointer (some ⟨b,0,none⟩)/\w.heap[b]?=some (.cells cs e (0,0))/\cs[0]?=some u/\Bs r=b::B'/\
        (∃B1,(∀b∈B1,b∈B')/\AE c.fid w.heap (OB F Bs) c.Xb es y u B1/\(E r=.g [y]->B1=B'))/\cs.size=(match E r with|.g ys=>ys.length|_=>0)/\(execOp a.eval o).run c.P w=.ok (.value u) w:=by
       intro hn1 hn2 y Y
       have T:=h.needs _ hn2
       have hown:=h.H.own r _ T
       simp only[AE]at hown
       obtain⟨xs,b,cs,e,fz,B',e1,e2,e3,e4,e5,e6,e7⟩:=hown
       have hfz:fz=(0,0):=e5
       subst hfz
       rw[e1]at Y|-
       cases xs with
       |nil=>simp[Ai]at Y
       |cons x0 xs=>
        simp[Ai]at Y
        subst Y
        have hloc:=(h.H.loc s _ (h.needs _ hn1)).1 (JD hg' h.g)
        have hev:a.eval (.tmp s)=.pointer (some ⟨b,0,none⟩):=by rw[<-e3];simp[Act.eval,CX,hloc]
        have h0:0<cs.size:=by rw[e6];simp
        obtain⟨csl,Z⟩:∃l,cs.toList=l:=⟨_,rfl⟩
        rw[Z]at e7
        cases csl with
        |nil=>simp[AM]at e7
        |cons u us=>
         have hu:cs[0]?=some u:=by rw[<-Array.getElem?_toList,Z];rfl
         simp only[AM]at e7
         obtain⟨B1,B2,rfl,Q,I⟩:=e7
         refine⟨T,b,cs,e,u,B1++B2,rfl,e3,e4,hu,e2,⟨B1,λb hb=>BN _ hb,Q,λhx=>?_⟩,e6,?_⟩
         .injection hx with hx
          injection hx with _ hx
          subst hx
          simp only[AM]at I
          subst I;simp
         .refine Iy ho ?_
          rw[hev]
          exact RV (by rw[hP];exact hpl) e4 hu
      have gtE:∀q:Pr,q=.gt (.e r) [.k 0]->p=q->∃y,Ai [0] (E r)=some y/\y=E AA:=by rintro q rfl rfl;have y1:EM E [.k 0] (E r)=some (E AA):=hE;exact⟨E AA,by simpa[EM,PE.ev]using y1,rfl⟩
      split at j;rename_i hv;simp only[AL,AJ]at j;obtain⟨rfl,rfl⟩:=j;obtain⟨y,Y,hyE⟩:=gtE _ rfl rfl;obtain⟨T,b,cs,e,u,B',_,_,_,_,_,⟨B1,_,Q,_⟩,_,C⟩:=core (by simp) (by simp) y Y;subst hv hyE;refine AV.B6 C ?_;rw[hd];refine h.H.Lx (s:=.v) (by simpa using h.fresh 0 (by simp[Pr.np])) hin (CS w) ?_ [] h.g;simp only[AE]at Q|-;exact⟨trivial,Q.2⟩;split at j
      .split at j
       .rename_i hv hk hgl;obtain⟨hg0,hlst⟩:=hgl;simp only[AL,AJ]at j;obtain⟨rfl,rfl⟩:=j;obtain⟨J,hE2⟩:Kb (E r)=some (E AA)/\E (AA+1)=.g [.u]:=hE;have hEr:E r=.g [E AA]:=by
         unfold Kb at J;split at J;rename_i y Y;injection J with J;rw[Y,J]
         cases J
        obtain⟨T,b,cs,e,u,B',_,hvr,hb,hu,hB,⟨B1,hB1,Q,I⟩,hsz,C⟩:=core (by simp) (by simp) (E AA) (by rw[hEr];simp[Ai]);obtain rfl:=I hEr;rw[hEr]at hsz;have hcs:cs.toList=[u]:=by
         have hl:cs.toList.length=1:=by simpa using hsz
         have R:cs.toList[0]?=some u:=by rw[Array.getElem?_toList];exact hu
         match hh:cs.toList,hl with
         |[x],_=>rw[hh]at R;simp at R;rw[R]
        have fr0:Bh F AA:=by simpa using h.fresh 0 (by simp[Pr.np])
        have fr1:Bh F (AA+1):=h.fresh 1 (by simp[Pr.np]);have hrc:r≠AA:=by rintro rfl;exact fr0.1 _ T
        have hrc1:r≠AA+1:=by rintro rfl;exact fr1.1 _ T
        have hnd:=h.H.nodup r _ T;rw[hB]at hnd;obtain⟨nd1,nd2⟩:=List.nodup_cons.1 hnd;subst hg0;let V:Nat->Value:=AQ (AQ vs AA u) (AA+1) (vs r);let W:Nat->List Nat:=AQ (AQ Bs AA B1) (AA+1) [b];have hV0:V AA=u:=by simp only[V];rw[BX _ _ (by omega),BD]
        have hV1:V (AA+1)=vs r:=by simp only[V];rw[BD]
        have L:W AA=B1:=by simp only[W];rw[BX _ _ (by omega),BD]
        have M:W (AA+1)=[b]:=by simp only[W];rw[BD]
        have G:∀f,f∈(Fact.en AA es::Fact.en (AA+1) (.b es)::[Fact.sl d (.is AA [])])->f=.en AA es\/f=.en (AA+1) (.b es)\/f=.sl d (.is AA []):=by intro f N;simpa using N
        have nx:∀n s',(n=AA\/n=AA+1)->next F (some d) ⟨[],[r],[.en AA es,.en (AA+1) (.b es),.sl d (.is AA [])]⟩ (.en n s')->(n=AA/\s'=es)\/(n=AA+1/\s'=.b es):=by
         rintro n s' B (⟨q,_⟩|q);rcases B with rfl|rfl;exact(fr0.1 _ q).elim;exact(fr1.1 _ q).elim;rcases G _ q with q|q|q;injection q with Q I;exact .inl ⟨Q,I⟩;injection q with Q I;exact .inr ⟨Q,I⟩
         cases q
        have H1:BF c (next F (some d) ⟨[],[r],[.en AA es,.en (AA+1) (.b es),.sl d (.is AA [])]⟩) E (a.put (some d) u) w V W:=by
         refine BF.step (λn=>n=AA\/n=AA+1) (λn=>n∈[r]) (λ_=>False) (some d) h.H (λn B=>by simp only[V];rw[BX _ _ (λe=>B (.inr e)),BX _ _ (λe=>B (.inl e))])
          (λn B=>by simp only[W];rw[BX _ _ (λe=>B (.inr e)),BX _ _ (λe=>B (.inl e))])
          (λt l hl n B q=>by
           rcases q with rfl|rfl
           .exact fr0.2 t l hl B
           .exact fr1.2 t l hl B)
          (λ_ q=>q.elim) (Ao.refl _ _) rfl rfl rfl (λt j=>Du j) Hg put_defers ?_ ?_ ?_ ?_ ?_ ?_
         rintro f (⟨h1,h2⟩|q);left;refine⟨h1,?_⟩;cases f<;>exact h2;right;rcases G _ q with rfl|rfl|rfl;exact .inl rfl;exact .inr rfl;rfl;intro n s' B N;have hOO:∀b',b' < w.heap.size->(EE F Bs (λn=>n∈[r]) b'\/∃m,(m=AA\/m=AA+1)/\b'∈W m)->OB F Bs b':=by rintro b' _ (⟨n1,s1,z1,_,z3⟩|⟨m,hm,i⟩);exact⟨n1,s1,z1,z3⟩;refine⟨r,_,T,?_⟩;rw[hB];rcases hm with rfl|rfl;rw[L]at i;exact BL _ i;rw[M]at i;simp at i;subst i;simp
         rcases nx n s' B N with⟨rfl,rfl⟩|⟨rfl,rfl⟩;rw[hV0,L];exact AE.ext (Ao.refl (λ_=>False) _) (λ_ _ q=>q.elim) hOO _ _ _ _ (λ_ _ q=>q) Q;rw[hV1,M,hE2,hvr];simp only[AE];refine⟨[.u],b,cs,e,(0,0),[],rfl,rfl,rfl,hb,rfl,by simpa using hsz,?_⟩
         rw[hcs];simp only[AM];exact⟨[],[],rfl,AE.VY hlst u,rfl⟩;intro n s' B N;rcases nx n s' B N with⟨rfl,rfl⟩|⟨rfl,rfl⟩;rw[L];exact nd2;rw[M];simp;intro n s' B N b' i;refine .inl ⟨r,_,T,by simp,?_⟩;rw[hB];rcases nx n s' B N with⟨rfl,rfl⟩|⟨rfl,rfl⟩;rw[L]at i;exact BL _ i;rw[M]at i;simp at i;subst i;simp;intro n s' m r' B hm N hg hne b' i U;rcases nx n s' B N with⟨rfl,rfl⟩|⟨rfl,rfl⟩<;>rcases nx m r' hm hg with⟨rfl,rfl⟩|⟨rfl,rfl⟩;exact hne rfl;rw[L]at i;rw[M]at U;simp at U;subst U;exact nd1 i;rw[M]at i;rw[L]at U;simp at i;subst i;exact nd1 U;exact hne rfl;intro t' l' ht' N;rcases N with⟨_,q⟩|q;exact(q ht').elim;rcases G _ q with q|q|q
         cases q
         cases q;injection q with Q I;subst Q I;refine⟨λ_=>?_,λq=>(q (by simp[Am])).elim⟩;rw[hV0];exact FY (by rw[h.H.size,h.fits.nt];exact hdn)
        refine AV.B6 C ⟨V,W,?_⟩;rw[hd];refine H1.FT ?_ ?_;intro n' s';simp only[next,AY,List.mem_map,Cy,or_false];constructor;rintro(q|q|q|q|⟨_,_,q⟩);exact .inl q;exact .inr (.inl q);exact .inr (.inr (.inl q))
        cases q
        cases q;rintro(q|q|q|q);exact .inl q;exact .inr (.inl q);exact .inr (.inr (.inl q))
        cases q;intro t' l' N;rcases N with⟨Q,I⟩|q;exact .inl (.inl ⟨Q,I⟩);simp only[AY,List.mem_map]at q;rcases q with q|q|q|⟨⟨u',gu⟩,R,q⟩
        cases q
        cases q;exact .inl (.inr (by simp[q]));injection q with Q I;subst Q I;have hud:u'≠d:=by have:=(List.mem_filter.1 R).2;simpa using this
        have hf0:F (.sl u' (.is r gu)):=h.needs _ (by simp only[Ac,List.mem_map];exact .inr ⟨(u',gu),R,rfl⟩);have:=H1.loc u' (.is r gu) (.inl ⟨hf0,by simpa using hud⟩);right;refine⟨λhg=>?_,this.2⟩;have h1:=this.1 hg;have hVr:V r=vs r:=by simp only[V];rw[BX _ _ hrc1,BX _ _ hrc]
        rw[hVr]at h1;rw[hV1];exact h1
       cases j
      simp only[AL,AJ]at j;obtain⟨rfl,rfl⟩:=j;obtain⟨y,Y,hyE⟩:=gtE _ rfl rfl;obtain⟨T,b,cs,e,u,B',_,hvr,hb,hu,_,_,_,C⟩:=core (by simp) (by simp) y Y;have hfr:Bh F AA:=by simpa using h.fresh 0 (by simp[Pr.np])
      have hnc:r≠AA:=by rintro rfl;exact hfr.1 _ T
      refine AV.B6 C ⟨AQ vs AA u,AQ Bs AA [],?_⟩;rw[hd];refine h.H.Nk hfr (by rw[h.fits.nt];exact hdn) (CS w) λtm htm=>?_;intro _ _;refine⟨[0],b,0,y,by simp[EB,PE.ev],Y,?_,?_⟩;rw[BD,BX vs u hnc,hvr];simp only[Wk];exact⟨b,0,cs,e,(0,0),u,.inr ⟨rfl,rfl⟩,hb,hu,.inl ⟨trivial,rfl,rfl,rfl⟩⟩;rw[BD];exact htm
     cases j
    cases j
   cases j
  cases j
 cases j
theorem AV.less{F':Fact->Prop}{sm':Sm}(B:∀f,F f->F' f)(x:∀n s,F' (.en n s)->F (.en n s))(J:sm.kill=sm'.kill)(C:sm.adds=sm'.adds)(h:AV c o sm' F' E a w):AV c o sm F E a w:=by intro N Q L;refine h N Q λG w' ⟨V,Bs',H⟩=>L G w' ⟨V,Bs',?_⟩;refine H.more ?_ ?_;intro n s;simp only[next,J,C];constructor;rintro(⟨i,j⟩|q);exact .inl ⟨B _ i,j⟩;exact .inr q;rintro(⟨i,j⟩|q);exact .inl ⟨x _ _ i,j⟩;exact .inr q;intro t l I;refine .inl ?_;rcases I with⟨i,j⟩|q;exact .inl ⟨B _ i,j⟩;exact .inr (C▸q)
theorem ARU{t:TypeId}{x v:Operand}(ho:o.op=.store t x v)(i:SH cf st AA o g t x v=some (p,sm))(h:At cf c F E a w vs Bs AA g p sm)(hE:Aw K E AA p):AV c o sm F E a w:=by
 unfold SH at i;split at i;rename_i s;split at i;rename_i hc;obtain⟨Y,N,Z⟩:=hc;split at i;rename_i r hl;split at i;rename_i es hes;simp only[AS]at i;obtain⟨⟨α,ks,ns⟩,I,i⟩:=i;simp only at i;split at i;rename_i hrk;simp only[AL,AJ]at i;obtain⟨rfl,rfl⟩:=i;have B:(if(ev E α).one=true then([PE.k 0].mapM (PE.ev E)).bind λis=>An is (E r) (ev E α)else none)=some (E AA):=hE;split at B;rename_i R;have hr:F (.en r (.b es)):=h.needs _ (by simp);have hsl:F (.sl s (.is r [])):=h.needs _ (by simp);let F':Fact->Prop:=λf=>F f\/f=.sl s (.aw r [.k 0] []);have J:∀n s',F' (.en n s')->F (.en n s'):=by
  rintro n s' (q|q);exact q
  cases q
 have G:=h.H.own r _ hr;have Q:=(h.H.loc s _ hsl).1 (by simp[Am]);have V:GU w.heap E vs (OB F Bs) (alive F) a.tmps s (.aw r [.k 0] []):=by
  intro _ _;simp only[AE]at G;obtain⟨xs,b,cs,e,fz,B',e1,e2,e3,e4,e5,e6,e7⟩:=G
  cases xs with
  |nil=>rw[e1]at B;simp[PE.ev,An]at B
  |cons x0 xs=>
   have h0:0<cs.size:=by rw[e6];simp
   refine⟨[0],b,0,x0,cs[0],by simp[EB,PE.ev],by rw[e1];simp[Ai],?_,by rw[Q,e3]⟩
   simp only[Wk]
   exact⟨b,0,cs,e,fz,cs[0],.inr ⟨e3,rfl⟩,e4,by simp[h0],.inl ⟨trivial,rfl,rfl,rfl⟩⟩
 have H':BF c F' E a w vs Bs:=h.H.FT (λn s'=>⟨J n s',.inl⟩) (by
  rintro t' l' (q|q)
  .exact .inl q
  .injection q with q1 q2;subst q1 q2;exact .inr V)
 have U:At cf c F' E a w vs Bs AA g (.up r [.k 0] α) ⟨[.sl s (.aw r [.k 0] []),.en r (.b es)]++(ns++((E6 st 0 r).map λx=>Fact.sl x.1 (.is r x.2))++(E2 st 0 r [.k 0]).map λx=>Fact.sl x.1 x.2.1),r::ks,
   .en AA (.b es)::((E6 st 0 r).map λx=>Fact.sl x.1 (.is AA x.2))++(E2 st 0 r [.k 0]).map λx=>Fact.sl x.1 (.aw AA [x.2.2] [])⟩:=by
  refine⟨h.fits,H',λj hj=>?_,λf L=>?_,h.g,h.fix⟩
  .have:=h.fresh j hj
   refine⟨λs' q=>this.1 s' (J _ _ q),?_⟩
   rintro t' l' (q|q)
   .exact this.2 t' l' q
   .injection q with q1 q2;subst q1 q2
    simp only[Loc.A6,List.mem_singleton]
    rintro rfl
    exact this.1 _ hr
  .simp only[List.cons_append,List.nil_append,AY]at L
   rcases L with rfl|rfl|L
   .exact .inr rfl
   .exact .inl hr
   .exact .inl (h.needs _ (by simp only[List.cons_append,List.nil_append,AY];exact .inr (.inr L)))
 have C:∀f∈ns,f∈([.sl s (.aw r [.k 0] []),.en r (.b es)]++(ns++((E6 st 0 r).map λx=>Fact.sl x.1 (.is r x.2))++(E2 st 0 r [.k 0]).map λx=>Fact.sl x.1 x.2.1)):=λf L=>by simp[L]
 have M:∀n∈ks,alive F' n:=by obtain⟨_,_,_,k⟩:=Ic (O':=λ_=>False) I U C (λ_ _ q=>q.elim) (λ_ _ _ _ _ q=>q);exact k
 refine AV.less (F':=F') (sm':=⟨[.sl s (.aw r [.k 0] []),.en r (.b es)]++(ns++((E6 st 0 r).map λx=>Fact.sl x.1 (.is r x.2))++(E2 st 0 r [.k 0]).map λx=>Fact.sl x.1 x.2.1),r::ks,_⟩) (λf q=>.inl q) J rfl rfl (Uf (p:=.up r [.k 0] α) (st:=st) (k:=0) (es:=es) (α:=α) (l:=.aw r [.k 0] []) (q:=[.k 0]) ho Y N Z rfl (by simp[Sh.under]) hrk U (by simp[Pr.np]) R B M λO' hO W=>?_);obtain⟨Bx,x1,T,_⟩:=Ic I U C hO W;refine⟨Bx,x1,?_,λb hb=>?_⟩;rcases T with⟨_,rfl⟩|⟨n,rfl,rfl,q⟩;simp;obtain⟨rn,hrn⟩:=M n (by simp);exact H'.nodup n rn hrn;rcases T with⟨_,rfl⟩|⟨n,rfl,rfl,q⟩;simp at hb;exact⟨n,by simp,hb,q⟩
 cases B
 cases i
 cases i
 cases i
 cases i
 cases i
theorem AaT{t:TypeId}{x v:Operand}(ho:o.op=.store t x v)(i:T8 cf st AA o g t x v=some (p,sm))(h:At cf c F E a w vs Bs AA g p sm)(hE:Aw K E AA p):AV c o sm F E a w:=by
 unfold T8 at i;split at i;rename_i s u;split at i;rename_i hc;obtain⟨hg0,N,hpl⟩:=hc;split at i;rename_i r f ns hl1 hl2;split at i;rename_i hr0;simp only[AL,AJ]at i;obtain⟨rfl,rfl⟩:=i;have hP:c.P=cf.P:=h.fits.P;have W:F (.en r (.b .v)):=h.needs _ (by simp);have J:=h.H.own r _ W;simp only[AE]at J;obtain⟨xs,b,cs,e,fz,B',e1,e2,e3,e4,e5,e6,e7⟩:=J;have hfz:fz=(0,0):=e5;subst hfz;have I:=(h.H.loc s _ (h.needs (.sl s (.is r [])) (by simp))).1 (by simp[Am]);have hev:a.eval (.tmp s)=.pointer (some ⟨b,0,none⟩):=by rw[<-e3];simp[Act.eval,CX,I]
 have hlv:=h.H.loc u _ (h.needs (.sl u (.fv f ns [])) (by simp)) (by simp[Am]);have R:a.eval (.tmp u)=.func (.func f) #[] (ns.map vs).toArray:=by simp[Act.eval,CX,hlv]
 have j:ML (E r)=some (E AA):=hE;rw[e1]at j;have L:B'=[]:=(Fc.1 e7).1;subst L;have l:Bh F AA:=by simpa using h.fresh 0 (by simp[Pr.np])
 have hrc:r≠AA:=by rintro rfl;exact l.1 _ W
 have U:xs≠[]:=by rintro rfl;simp[ML]at j
 have hE':E AA=.u:=by
  cases xs with
  |nil=>exact(U rfl).elim
  |cons x xs=>simp[ML]at j;exact j.symm
 have G:0<cs.size:=by
  rw[e6]
  cases xs with
  |nil=>exact(U rfl).elim
  |cons x xs=>simp
 have h0:cs[0]?=some cs[0]:=by simp[G]
 have T:(execOp a.eval o).run c.P w=.ok .skip (w.setRow b (cs.setIfInBounds 0 (.func (.func f) #[] (ns.map vs).toArray))):=by simp only[execOp,ho];rw[Sem.run_bind,hev,R,AGN (by rw[hP];exact hpl) e4 h0 (by simp[Value.oneCell'])];rfl
 have C:=setRow_heap w b cs (cs.setIfInBounds 0 (.func (.func f) #[] (ns.map vs).toArray)) e (0,0) e4;have M:Ao (λx=>x=b) w.heap (w.setRow b (cs.setIfInBounds 0 (.func (.func f) #[] (ns.map vs).toArray))).heap:=⟨by simp,λx _ hx=>setRow_other w b x _ hx⟩;have hvr:AQ vs AA (vs r) r=vs r:=BX vs _ hrc;have hnm:∀n∈ns,n≠AA:=by rintro n hn rfl;exact l.2 _ _ (h.needs (.sl u (.fv f ns [])) (by simp)) (by simpa[Loc.A6]using hn)
 have H1:=h.H.put (m:=AA) (s:=.v) (v:=vs r) (B:=[]) (dst:=none) (ns:=[]) l (by simp[BW]) [r] (M.mono λx _ hx=>⟨r,_,W,by simp,by rw[hx,e2];simp⟩) rfl rfl rfl
  (by rw[hE'];simp only[AE,Rd];exact⟨trivial,trivial⟩) (by simp) (by simp) h.g
 refine AV.PY T N ⟨AQ vs AA (vs r),AQ Bs AA [],?_⟩;refine H1.FT ?_ ?_;intro n' s';simp only[next,one,AY,List.mem_map,Cy,or_false];constructor;rintro(q|q|q|⟨_,_,q⟩);exact .inl q;exact .inr q
 cases q
 cases q;rintro(q|q);exact .inl q;exact .inr (.inl q);intro t' l' hf;rcases hf with⟨Q,_⟩|q;exact .inl (.inl ⟨Q,by simp⟩);simp only[AY,List.mem_map]at q;rcases q with q|q|⟨⟨u',Z⟩,hu,q⟩
 cases q;injection q with Q V;subst Q V;right;intro _;have em:(ns.map λn=>if n=r then AA else n).map (AQ vs AA (vs r))=ns.map vs:=by rw[List.map_map];refine List.map_congr_left λn hn=>?_;simp only[Function.comp_def];split;rename_i q;rw[BD,q];exact BX vs _ (hnm n hn)
 refine⟨b,_,e,(0,0),?_,C,?_,?_⟩;rw[Du (by simp)];rw[I,e3];rw[em];simp[G];rintro⟨n1,s1,⟨Q,V⟩|Q,Y⟩;have hn1:n1≠r:=by simpa using V
 have hn2:n1≠AA:=by rintro rfl;exact l.1 _ Q
 rw[BX Bs _ hn2]at Y;exact h.H.apart n1 s1 r _ Q W hn1 b Y (by rw[e2];simp);simp[one]at Q;obtain⟨rfl,rfl⟩:=Q;rw[BD]at Y;simp at Y;injection q with Q V;subst Q V;have hf0:F (.sl u' (.is r Z)):=h.needs _ (by simp only[Ac,List.mem_map];exact .inr ⟨(u',Z),hu,rfl⟩);have:=H1.loc u' (.is r Z) (.inl ⟨hf0,by simp⟩);right;refine⟨λhg=>?_,this.2⟩;have h1:=this.1 hg;rw[hvr]at h1;rw[BD];exact h1
 cases i
 cases i
 cases i
 cases i
theorem AJV{t:TypeId}{s d:Nat}{f:Nat}{ns:List Nat}(ho:o.op=.load t (.tmp s))(hd:o.dst=some d)(B:d<cf.nt)(C:d≠s)(I:F8 cf.P t=true)(h:At cf c F E a w vs Bs AA g p sm)
  (W:sm.kill=[]) (i:∀x,x∈sm.adds->x=.sl d (.fv f ns [])\/x=.sl s (.fb f ns [])) (Y:GU w.heap E vs (OB F Bs) (alive F) a.tmps s (.fb f ns [])):AV c o sm F E a w:=by
 have U:c.P=cf.P:=h.fits.P;obtain⟨b,cs,e,T,L,M,N,k4⟩:=Y (by simp[Am]);have G:a.eval (.tmp s)=.pointer (some ⟨b,0,none⟩):=by simp[Act.eval,CX,L]
 have j:(execOp a.eval o).run c.P w=.ok (.value (.func (.func f) #[] (ns.map vs).toArray)) w:=by refine Iy ho ?_;rw[G];exact RV (by rw[U];exact I) M N
 refine AV.B6 j ⟨vs,Bs,?_⟩;rw[hd];have R:=h.H.slot (d:=d) (u:=.func (.func f) #[] (ns.map vs).toArray) (ns:=[]) (l:=.fv f ns []) (CS w) (λ_=>FY (by rw[h.H.size,h.fits.nt];exact B));refine R.FT ?_ ?_
 .intro n s';simp only[next,W,List.mem_singleton,Cy,not_false_eq_true,and_true];constructor
  .rintro(q|q)
   .exact .inl q
   .rcases i _ q with q|q<;>cases q
  .rintro(q|q)
   .exact .inl q
   .cases q
 .intro t' l' V;rcases V with⟨Q,J⟩|q
  .exact .inl (.inl ⟨Q,J⟩)
  .rcases i _ q with q|q
   .exact .inl (.inr (by simp[q]))
   .injection q with Q J;subst Q J;right;intro _;refine⟨b,cs,e,T,?_,M,N,?_⟩
    .rw[Du (by simpa using Ne.symm C)];exact L
    .rintro⟨n1,s1,⟨Z,_⟩|Z,z3⟩
     .exact k4 ⟨n1,s1,Z,z3⟩
     .simp at Z
theorem APA{t:TypeId}{x:Operand}(W:o.op=.load t x)(i:Rn cf st o g t x=some (p,sm))(h:At cf c F E a w vs Bs AA g p sm):AV c o sm F E a w:=by
 unfold Rn at i;split at i;rename_i s d hd;split at i;rename_i hc;obtain⟨B,I,hg0,G⟩:=hc;split at i;rename_i k cs ns l;split at i;rename_i hcd;simp only[AL,AJ]at i;obtain⟨rfl,rfl⟩:=i;split at l;rename_i m k0 C R;split at l;rename_i T;subst T;simp only[Ae,AJ]at l;obtain⟨N,hm,rfl,rfl,rfl⟩:=l;obtain⟨b,hs,e,fz,vl,f1,f2,f3,f4,V⟩:=h.fits.cl _ _ _ R;obtain⟨l1,l2⟩:=mapM_mem hm;have U:C.map vl=N.map vs:=by
  apply List.ext_getElem?;intro j;simp only[List.getElem?_map]
  cases M:C[j]? with
  |none=>
   have:N[j]?=none:=by
    rw[List.getElem?_eq_none_iff]at M|-;omega
   rw[this];rfl
  |some x=>
   obtain⟨y,Z,_⟩:=l2 j x M
   rw[Z]
   have Y:=h.fix _ (f2 x (List.mem_of_getElem? M))
   have J:=(h.H.loc x _ (h.needs (.sl x (.is y [])) (List.mem_map.2 ⟨(x,y),AD7 M Z,rfl⟩))).1 (by simp[Am])
   simp only at Y
   rw[Y]at J
   simpa using J
 have Q:b<c.w0.heap.size:=Cd f3;refine AJV W hd B G I h rfl (λf' L=>by simpa using L) ?_;intro _;refine⟨b,hs,e,fz,h.fix _ f1,(h.H.agr.same b Q V).trans f3,by rw[<-U];exact f4,?_⟩;rintro⟨n,s',q1,q2⟩;rcases h.H.mine n s' q1 b q2 with q|q;omega;exact V q
 cases l
 cases l
 cases i;simp only[Ae,AJ]at i;obtain⟨⟨f,ns⟩,L,rfl,rfl⟩:=i;exact AJV W hd B G I h rfl (λf' L=>.inl (by simpa using L)) (h.H.loc s _ (h.needs _ (by simp)))
 cases i
 cases i
theorem ASE{fn:Fn}{first captured:Array Operand}(R:o.op=.makeFunc fn first captured)(s:Ry cf st o g fn first.toList captured.toList=some (p,sm))(h:At cf c F E a w vs Bs AA g p sm):AV c o sm F E a w:=by
 unfold Ry at s;split at s;rename_i f d J hd;split at s;rename_i M;obtain⟨I,N⟩:=M;simp only[Ae,AJ]at s;obtain⟨l,Q,rfl,rfl⟩:=s;obtain⟨W,U⟩:=mapM_mem Q;have q:first=#[]:=by apply Array.ext';simpa using J
 have B:captured.map a.eval=((l.map (·.2)).map vs).toArray:=by
  apply Array.ext';rw[Array.toList_map];apply List.ext_getElem?;intro j;simp only[List.getElem?_map,List.map_map]
  cases hj:captured.toList[j]? with
  |none=>
   have:l[j]?=none:=by
    rw[List.getElem?_eq_none_iff]at hj|-;omega
   simp[this]
  |some x=>
   obtain⟨y,L,G⟩:=U j x hj
   simp only[AS,Ae]at G
   obtain⟨t,i,n,V,rfl⟩:=G
   have T:x=.tmp t:=by
    unfold AGM at i
    split at i
    .injection i with i;rw[i]
    .cases i
   subst T
   have:=(h.H.loc t _ (h.needs (.sl t (.is n [])) (List.mem_map.2 ⟨(t,n),List.mem_of_getElem? L,rfl⟩))).1 (by simp[Am])
   rw[L]
   simp[Act.eval,CX,this]
 have C:(execOp a.eval o).run c.P w=.ok (.value (.func (.func f) #[] ((l.map (·.2)).map vs).toArray)) w:=by simp only[execOp,R];refine C9 ?_;rw[q,B];simp[Instr.makeFunc]
 refine AV.B6 C ⟨vs,Bs,?_⟩;rw[hd];exact h.H.slot (CS w) (λ_=>FY (by rw[h.H.size,h.fits.nt];exact I))
 cases s
 cases s
theorem AYS{o:Oper}{x:Operand}{f:FuncId}{args:Array Operand}{T:Array TypeId}{s:List Value}(H:o.op=.call { callee:=.value x,args,argTypes:=T })(P:Program)(w:World)(a:Act)(i:a.eval x=.func (.func f) #[] s.toArray):
  (execOp a.eval o).run P w=(callFunc f (args.toList.map a.eval++s).toArray).run P w:=by
 simp only[execOp,H];rw[Sem.run_bind];have e:resolve a.eval { callee:=.value x,args,argTypes:=T } o.type=(Pure.pure { target:=.fn (.func f) s.toArray,args:=#[]++args.map a.eval }:Sem Deferred):=by simp only[resolve,i,Deferred.ofValue]
 rw[e];simp only[Sem.run_pure,Result.andThen];show(invoke (.fn (.func f) s.toArray) (#[]++args.map a.eval)).run P w=_;have:(args.toList.map a.eval++s).toArray=(#[]++args.map a.eval)++s.toArray:=by apply Array.ext';simp
 rw[this];simp[invoke]
theorem AN3(hs:Sound cf sg K){x:Operand}{k:Nat}{args:Array Operand}{ts:Array TypeId}(ho:o.op=.call { callee:=.value x,args,argTypes:=ts })(l:SW cf sg st AA o g x k args.toList=some (p,sm))(h:At cf c F E a w vs Bs AA g p sm)(Y:Aw K E AA p):AV c o sm F E a w:=by
 unfold SW at l;split at l;rename_i t;split at l;rename_i f ns hl;split at l;rename_i s;simp only[AS]at l;obtain⟨us,Q,U,hum,j,hj,l⟩:=l;split at l;rename_i nj V sm' N Z;simp only[AL,AJ]at l;obtain⟨rfl,rfl⟩:=l;obtain⟨l1,l2⟩:=mapM_mem Q;have L:=h.H.loc t _ (h.needs (.sl t (.fv f ns [])) (by simp)) (by simp[Am]);have J:=h.H.loc U _ (h.needs (.sl U (.fb f ns [])) (by simp)) (by simp[Am]);have B:=(h.H.loc U _ (h.needs (.sl U (.is nj [])) (by simp))).1 (by simp[Am]);have M:∀f∈sm'.needs,F f:=λf hf=>h.needs f (BB _ hf);have C:(us.map Operand.tmp).map a.eval=ns.map vs:=by
  apply List.ext_getElem?;intro i;simp only[List.getElem?_map]
  cases hi:ns[i]? with
  |none=>
   have:us[i]?=none:=by
    rw[List.getElem?_eq_none_iff]at hi|-;omega
   simp[this]
  |some n=>
   obtain⟨u,R,hu2⟩:=l2 i n hi
   have:=(h.H.loc u _ (h.needs (.sl u (.is n [])) (by
    simp only[Ac]
    exact .inl (.inr (List.mem_map.2 ⟨(u,n),AD7 R hi,rfl⟩))))).1 (by simp[Am])
   rw[R]
   simp[Act.eval,CX,this]
 have G:(args.toList++us.map Operand.tmp).map a.eval=args.toList.map a.eval++ns.map vs:=by rw[List.map_append,C]
 have I:a.eval (.tmp t)=.func (.func f) #[] (ns.map vs).toArray:=by simp[Act.eval,CX,L]
 have hk':V.np=V.np:=rfl;have q:AV c o sm' F E a w:=by refine Ss hs h.fits Z ?_ h.H h.fresh M h.g Y ?_;obtain⟨b,cs,e,W,T,k2,k3,k4⟩:=J;rw[G];refine⟨b,cs,e,W,?_,k2,?_,k4⟩;rw[GK (by simp)];simp only[List.length_map,Nat.add_sub_cancel_left,List.getElem?_map,N,Option.map_some];rw[B]at T;exact T;rw[k3,s];congr 3;rw[List.map_map];apply List.ext_getElem?;intro i;simp only[List.getElem?_map];rcases B7 i ns.length with q|q;rw[Wt q];simp only[Option.map_some,Function.comp_def,Ap];rw[GK (by simp)];simp[q];rw[D7 (by simpa using q),D7 (by simpa using q)];rfl;rw[AYS ho _ _ _ I,G,s]
 exact q
 cases l
 cases l
 cases l
 cases l
def Sz(cf:CF)(st:List Fact)(AA:Nat)(o:Oper)(g:Gd)(t:TypeId)(x:Operand):Option (Pr×Sm):=
 match x,o.dst with
 |.tmp u,some d=>(Dj cf.P t).bind λn=>match Bm st u with
  |some (.is m [])=>match CB st m with
   |some (.a s)=>if g=[]/\d<cf.nt/\u≠d then some (.wl n (.e m),⟨[.sl u (.is m []),.en m (.a s)],[m],[.en AA (.b s),.sl d (.is AA []),.sl u (.ag AA [])]⟩)else none
   |_=>none
  |_=>none
 |_,_=>none
theorem AVF{t:TypeId}{x:Operand}(ho:o.op=.box t x)(f:Sz cf st AA o g t x=some (p,sm))(h:At cf c F E a w vs Bs AA g p sm)(hE:Aw K E AA p):AV c o sm F E a w:=by
 unfold Sz at f;split at f;rename_i u d hd;simp only[AS]at f;obtain⟨n,hn,f⟩:=f;split at f;rename_i m hl;split at f;rename_i s hs;split at f;rename_i hc;obtain⟨R,M,V⟩:=hc;simp only[AL,AJ]at f;obtain⟨rfl,rfl⟩:=f;have I:F (.en m (.a s)):=h.needs _ (by simp);have j:=(h.H.loc u _ (h.needs (.sl u (.is m [])) (by simp))).1 (by simp[Am]);have N:a.eval (.tmp u)=vs m:=by simp[Act.eval,CX,j]
 obtain⟨xs,e1,Z,e3,e4⟩:=K5 (d:=ev E (.e m)) (show FR n (ev E (.e m))=some (E AA)from hE);have L:=h.H.own m _ I;have J:E m=.g xs:=e1;rw[J]at L;simp only[AE]at L;obtain⟨ys,cs,W,hv,T,he⟩:=L;injection W with W;subst W;have G:(execOp a.eval o).run c.P w=.ok (.value (.pointer (some ⟨w.heap.size,0,none⟩))) (w.alloc (.cells cs t)):=by simp only[execOp,ho];refine C9 ?_;rw[N,hv,Vk];rfl
 have U:∀b∈Bs m,b<w.heap.size:=λb l=>AE.F2 _ _ _ _ (h.H.own m _ I) b l;have C:BW (some d) c.nt=true:=by rw[h.fits.nt];simpa[BW]using M
 have i:(w.alloc (.cells cs t)).heap[w.heap.size]?=some (.cells cs t (0,0)):=heap_alloc_new w _;subst R
 have H1:=h.H.put (m:=AA) (s:=.b s) (v:=.pointer (some ⟨w.heap.size,0,none⟩)) (B:=w.heap.size::Bs m) (dst:=some d) (ns:=[]) (w':=w.alloc (.cells cs t)) (g:=[]) (by simpa using h.fresh 0 (by simp[Pr.np])) C [m] (Dh _ _ _) rfl rfl rfl
  (by
   rw[Z]
   simp only[AE]
   refine⟨xs,w.heap.size,cs,t,(0,0),Bs m,rfl,rfl,rfl,i,rfl,T,?_⟩
   refine AM.imp (λd v B1 hB1 r=>?_) he
   refine AE.ext (S:=λ_=>False) (Dh _ _ _) (λ_ _ q=>q.elim) ?_ _ _ _ _ (λ_ _ q=>q) r
   rintro b l (⟨n,s,Q,_,q3⟩|q)
   .exact⟨n,s,Q,q3⟩
   .rcases AY.1 q with q|q
    .omega
    .exact⟨m,_,I,q⟩)
  (List.nodup_cons.2 ⟨λq=>by have:=U _ q;omega,h.H.nodup m _ I⟩)
  (λb l=>by
   rcases AY.1 l with rfl|l
   .exact .inr (Nat.le_refl _)
   .exact .inl ⟨m,_,I,by simp,l⟩) (by simp[Am])
 refine AV.B6 G ⟨AQ vs AA (.pointer (some ⟨w.heap.size,0,none⟩)),AQ Bs AA (w.heap.size::Bs m),?_⟩;rw[hd];refine H1.FT ?_ ?_;intro n' s';simp only[next,one,AY,Cy,or_false];constructor;rintro(q|q|q|q);exact .inl q;exact .inr (.inl q)
 cases q
 cases q;rintro(q|q|q);exact .inl q;exact .inr (.inl q)
 cases q;intro t' l' hf;rcases hf with⟨Q,Y⟩|q;exact .inl (.inl ⟨Q,Y⟩);simp only[AY,Cy,or_false]at q;rcases q with q|q|q
 cases q;exact .inl (.inr (by simp[one,q]));injection q with Q Y;subst Q Y;right;intro _ _;refine⟨xs,w.heap.size,cs,t,(0,0),Z,?_,i,?_⟩;rw[BD];rw[Du (by simpa using V),j,hv]
 cases f
 cases f
 cases f
 cases f
end
end Go.Cat
namespace Go.Cat
def lhOf(st:List Fact)(n:Nat):Option Nat:=st.findSome? λf=>match f with
 |.sl u (.lh N [])=>if N=n then some u else none
 |_=>none
section
variable(cf:CF)(st:List Fact)(AA:Nat)(o:Oper)(g:Gd)
def Se(t:TypeId)(x i:Operand):Option (Pr×Sm):=
 match o.dst,x with
 |some d,.tmp s=>if d<cf.nt/\(FX cf.P t).isSome/\g=[]then match Bm st s with
  |some (.is n [])=>(lhOf st n).bind λu=>(A5 cf st g i).bind λa=>match a.1 with
   |.e e=>some (.ix (.e n) [] (.e e),⟨[.sl s (.is n []),.sl u (.lh n [])]++a.2.2,[],[.sl d (.sa n e [])]⟩)
   |_=>none
  |_=>none
  else none
 |_,_=>none
def Sa(k:Nat)(t:TypeId)(x v:Operand):Option (Pr×Sm):=
 match x with
 |.tmp s=>if g=[]/\o.dst=none then match Bm st s with
  |some (.sa n e [])=>(aliasOf st n).bind λz=>match z with
   |(u,m,.o es)=>(Rg cf (.sl s (.aw m [.e e] [])::st) AA o g k t x v).bind λr=>match r with
    |(.up M [.e i] α,sm)=>if M=m/\i=e then some (.up m [.e e] α,{ sm with needs:=[.sl s (.sa n e []),.sl u (.is n []),.sl u (.is m []),.en m (.o es)]++sm.needs.filter (λf=>f != .sl s (.aw m [.e e] [])) })else none
    |_=>none
   |_=>none
  |_=>none
  else none
 |_=>none
end
section
variable{cf:CF}{c:Cx}{F:Fact->Prop}{E:Nat->D}{a:Act}{w:World}{vs:Nat->Value}{Bs:Nat->List Nat}{AA:Nat}{g:Gd}{sm:Sm}{st:List Fact}{o:Oper}{p:Pr}
 {K:Nat->List D->List D->Prop}
theorem AOB{t:TypeId}{x i:Operand}(ho:o.op=.indexAddr t x i)(l:Se cf st o g t x i=some (p,sm))(h:At cf c F E a w vs Bs AA g p sm)(hE:Aw K E AA p):AV c o sm F E a w:=by
 unfold Se at l;split at l;rename_i d s hd;split at l;rename_i hc;obtain⟨L,q,N⟩:=hc;subst N;obtain⟨⟨e1,ti⟩,q⟩:=Option.isSome_iff_exists.1 q;split at l;rename_i n hl;simp only[AS]at l;obtain⟨u,hu,⟨A1,si,ins⟩,Q,l⟩:=l;simp only at l;split at l;rename_i e;simp only[AL,AJ]at l;obtain⟨rfl,rfl⟩:=l;obtain⟨Bi,hi,hi2⟩:=h.A5 Q (λf hf=>BB _ hf);have Z:=(h.H.loc s _ (h.needs (.sl s (.is n [])) (by simp))).1 (by simp[Am]);obtain⟨xs,ad,len,cap,k1,W,k3,k4,k5⟩:=h.H.loc u _ (h.needs (.sl u (.lh n [])) (by simp)) (by simp[Am]);have J:Dr (E n) (E e)=some (E AA):=by simpa[Aw,AW,EM,ev,Ai]using hE
 obtain⟨ys,k,j,I,V,Y⟩:=Qy J;rw[k1]at I;injection I with I;subst I;have B:j<len:=by rw[<-k3];exact(List.getElem?_eq_some_iff.1 Y).1
 obtain⟨b,off,rfl⟩:=k4 j B;have M:ev E (.e e)=.i k (j:Nat):=V;rw[M]at hi;have R:=hi.int;have hv:a.eval (.tmp s)=.slice (some ⟨b,off,none⟩) len cap:=by rw[<-W];simp[Act.eval,CX,Z]
 have hP:c.P=cf.P:=h.fits.P;have G:(execOp a.eval o).run c.P w=.ok (.value (.pointer (some ⟨b,off+j,none⟩))) w:=by refine QE ho ?_;rw[hv,R];exact Qu (by rw[hP];exact q) B
 have C:Bh F AA:=by simpa using h.fresh 0 (by simp[Pr.np])
 refine AV.B6 G ⟨AQ vs AA undef,AQ Bs AA [],?_⟩;rw[hd];have T:n≠AA:=by rintro rfl;exact C.2 s _ (h.needs (.sl s (.is n [])) (by simp)) (by simp[Loc.A6])
 refine h.H.Nk C (by rw[h.fits.nt];exact L) (CS w) ?_;intro tm U _;refine⟨j,b,off+j,?_,?_,U⟩;simp only[PE.ev,V];rfl;rw[BX vs undef T,W];exact .inl ⟨off,len,cap,rfl,B,rfl⟩
 cases l
 cases l
 cases l
 cases l
theorem AW7{d x y:D}{i:Nat}(h:An [i] d x=some y):∃q,Ai [i] d=some q:=by
 cases d with
 |l xs=>
  simp only[An,Ae,AS]at h
  obtain⟨_,⟨q,H,_⟩,_⟩:=h
  exact⟨q,by simp[Ai,H]⟩
 |g xs=>
  simp only[An,Ae,AS]at h
  obtain⟨_,⟨q,H,_⟩,_⟩:=h
  exact⟨q,by simp[Ai,H]⟩
 |_=>simp[An]at h
theorem ASV{k:Nat}{t:TypeId}{x v:Operand}(ho:o.op=.store t x v)(B:Sa cf st AA o g k t x v=some (p,sm))(h:At cf c F E a w vs Bs AA g p sm)(hE:Aw K E AA p):AV c o sm F E a w:=by
 unfold Sa at B;split at B;rename_i s;split at B;rename_i hc;obtain⟨V,hdst⟩:=hc;subst V;split at B;rename_i n e hl;simp only[AS]at B;obtain⟨_,hz,B⟩:=B;split at B;rename_i u m es;simp only[AS]at B;obtain⟨r,hr,B⟩:=B;split at B;rename_i M J α sm1;split at B;rename_i Y;obtain⟨rfl,rfl⟩:=Y;simp only[AL,AJ]at B;obtain⟨rfl,rfl⟩:=B;have n1:F (.sl s (.sa n J [])):=h.needs _ (by simp);have n2:F (.sl u (.is n [])):=h.needs _ (by simp);have n3:F (.sl u (.is M [])):=h.needs _ (by simp);have n4:F (.en M (.o es)):=h.needs _ (by simp);have h2:=(h.H.loc u _ n2).1 (by simp[Am]);have h3:=(h.H.loc u _ n3).1 (by simp[Am]);have hvs:vs n=vs M:=by rw[h2]at h3;injection h3
 obtain⟨i,b,off,N,L,q3⟩:=h.H.loc s _ n1 (by simp[Am]);have G:(if(ev E α).one=true then([PE.e J].mapM (PE.ev E)).bind λis=>An is (E M) (ev E α)else none)=some (E AA):=hE;split at G;have hp:[PE.e J].mapM (PE.ev E)=some [i]:=by simp[N]
 rw[hp,Option.bind_some]at G;obtain⟨q0,hz⟩:=AW7 G;have U:=h.H.own M _ n4;obtain⟨b2,o2,y,B',w1,_,_,_⟩:=Wk.Iu [i] (.o es) es _ _ _ _ (by simp) U hz (by simp[Sh.under]);have T:GU w.heap E vs (OB F Bs) (alive F) a.tmps s (.aw M [.e J] []):=by intro _ _;refine⟨[i],b,off,q0,y,hp,hz,?_,q3⟩;have W:=w1;simp only[Wk]at W;obtain⟨b',o1,cs,e1,fz,y',hst,hb,hy,hh⟩:=W;rcases hh with⟨_,rfl,rfl,rfl⟩|⟨Z,_⟩;rw[hvs]at L;obtain⟨rfl,rfl⟩:=L.KA hst;exact w1;exact(Z rfl).elim
 let F':Fact->Prop:=λf=>F f\/f=.sl s (.aw M [.e J] []);have H':BF c F' E a w vs Bs:=by
  refine h.H.FT (λn s=>?_) (λt l C=>?_);constructor;rintro(q|q);exact q
  cases q;exact λq=>.inl q;rcases C with q|q;exact .inl q;injection q with N L;subst N L;exact .inr T
 have I:∀j,j<(Pr.up M [.e J] α).np->Bh F' (AA+j):=by
  intro j hj;have C:=h.fresh j hj;refine⟨λs' q=>?_,λt' l' q=>?_⟩;rcases q with q|q;exact C.1 s' q
  cases q;rcases q with q|q;exact C.2 t' l' q;injection q with N L;subst N L;have f1:=C.2 _ _ n1;have f2:=C.2 _ _ n3;simp only[Loc.A6,AY,Cy,or_false,List.flatMap_cons,PE.A6]at f1 f2|-;intro q;exact f2 q
 have h':At cf c F' E a w vs Bs AA [] (.up M [.e J] α) sm1:=by refine⟨h.fits,H',I,λf C=>?_,h.g,h.fix⟩;by_cases R:f=.sl s (.aw M [.e J] []);exact .inr R;refine .inl (h.needs f ?_);simp only[Ac,List.mem_filter,bne_iff_ne,ne_eq];exact .inr ⟨C,R⟩
 have hs:=AMJ ho hr h' hE;intro nxt Q hn;refine hs nxt Q λa' w' hx=>hn a' w' ?_;refine hx.JN λf C=>?_;rcases C with⟨N,L⟩|q;exact .inl ⟨.inl N,L⟩;exact .inr q
 cases G
 cases B
 cases B
 cases B
 cases B
 cases B
 cases B
end
end Go.Cat
namespace Go.Cat
def LJ(P:Program)(t:TypeId):Option D:=
 match P.underlying t with
 |some (.map k e)=>match P.underlying k with
  |some .string=>match P.info? e with
   |some i=>(i.zero.bind Dp).bind λd=>if d.flat=true then some d else none
   |none=>none
  |_=>none
 |_=>none
theorem Qm{P:Program}{t:TypeId}{d:D}(h:LJ P t=some d):∃k e i z,P.underlying t=some (.map k e)/\P.underlying k=some .string/\P.info? e=some i/\i.zero=some z/\Dp z=some d/\d.flat=true:=by
 unfold LJ at h;split at h;rename_i k e l;split at h;rename_i j;split at h;rename_i i hi;simp only[AS]at h;obtain⟨s,⟨z,q,H⟩,h⟩:=h;split at h;rename_i f;injection h with h;subst h;exact⟨k,e,i,z,l,j,hi,q,H,f⟩
 cases h
 cases h
 cases h
 cases h
theorem XN{a b:List Nat}(H:∀c∈a,c<256)(f:∀c∈b,c<256):Instr.sameNow .string (BJ a) (BJ b)=some (decide (a=b)):=by show some ((⟨(a.map λc=>UInt8.ofNat c).toArray⟩:ByteArray)==⟨(b.map λc=>UInt8.ofNat c).toArray⟩)=_;congr 1;rw[Bool.eq_iff_iff,MapKept.bytes_beq,decide_eq_true_iff];constructor;intro h;refine ofNat_inj H f ?_;have:=congrArg (λx:ByteArray=>x.data.toList) h;simpa using this;rintro rfl;rfl
theorem X8(x:List Nat):MapKept.IsKey .string (BJ x):=by simp[MapKept.IsKey,BJ]
theorem Vg{fid:Nat->Nat}{h:Array Obj}{k:List Nat}(f:∀c∈k,c<256):∀{xs:List D}{es:List MapEntry}(i:Nat),Cm fid h xs es->
  (getM k xs=none/\Instr.findNow .string (BJ k) es i=some none/\∀v,G4 k v xs=xs++[.g [.s k,v]])\/
  (∃j e v,getM k xs=some v/\Instr.findNow .string (BJ k) es i=some (some (i+j,e.val))/\es[j]?=some e/\e.key=BJ k/\v.flat=true/\Rd fid h (λ_=>False) v e.val/\(∀V,G4 k V xs=xs.set j (.g [.s k,V]))/\j<xs.length)
 |[],[],i=>λ_=>.inl ⟨rfl,rfl,λ_=>rfl⟩
 |x::xs,e::es,i=>λr=>by
  simp only[Cm]at r;obtain⟨⟨M,v,rfl,⟨l,I,Z⟩,J,L⟩,Y⟩:=r;by_cases H:k=M;subst H;refine .inr ⟨0,e,v,by simp[getM],?_,rfl,l,J,L,λV=>by simp[G4],by simp⟩;simp only[Instr.findNow,l,XN f f];simp;have C:Instr.sameNow .string (BJ k) e.key=some false:=by rw[l,XN f I];simp[H]
  rcases Vg f (i+1) Y with⟨q,Q,B⟩|⟨j,G,V,q,Q,B,N,R,T,U,W⟩;exact .inl ⟨by simp[getM,H,q],by simp only[Instr.findNow,C,Q],λV=>by simp[G4,H,B]⟩
  refine .inr ⟨j+1,G,V,by simp[getM,H,q],?_,by simpa using B,N,R,T,λv2=>by simp[G4,H,U],by simpa using W⟩;simp only[Instr.findNow,C,Q];congr 3;omega
 |[],_::_,_=>λr=>by simp[Cm]at r
 |_::_,[],_=>λr=>by simp[Cm]at r
theorem Xd{fid:Nat->Nat}{h:Array Obj}{k:List Nat}{v:D}{e:MapEntry}(H:e.key=BJ k/\(∀c∈k,c<256)/\k.length<=9223372036854775807)(f:v.flat=true)(i:Rd fid h (λ_=>False) v e.val):
  ∀{xs:List D}{es:List MapEntry},Cm fid h xs es->Cm fid h (xs++[.g [.s k,v]]) (es++[e])
 |[],[]=>λ_=>by simp only[List.nil_append,Cm];exact⟨⟨k,v,rfl,H,f,i⟩,trivial⟩
 |x::xs,j::es=>λr=>by simp only[Cm,List.cons_append]at r|-;exact⟨r.1,Xd H f i r.2⟩
 |[],_::_=>λr=>by simp[Cm]at r
 |_::_,[]=>λr=>by simp[Cm]at r
theorem ADF{fid:Nat->Nat}{h:Array Obj}{k:List Nat}{v:D}{e:MapEntry}(H:e.key=BJ k/\(∀c∈k,c<256)/\k.length<=9223372036854775807)(f:v.flat=true)(i:Rd fid h (λ_=>False) v e.val):
  ∀{xs:List D}{es:List MapEntry}(j:Nat),Cm fid h xs es->Cm fid h (xs.set j (.g [.s k,v])) (es.set j e)
 |[],[],_=>λr=>by simpa using r
 |x::xs,l::es,0=>λr=>by simp only[Cm,List.set_cons_zero]at r|-;exact⟨⟨k,v,rfl,H,f,i⟩,r.2⟩
 |x::xs,l::es,j+1=>λr=>by simp only[Cm,List.set_cons_succ]at r|-;exact⟨r.1,ADF H f i j r.2⟩
 |[],_::_,_=>λr=>by simp[Cm]at r
 |_::_,[],_=>λr=>by simp[Cm]at r
section
variable{P:Program}{w:World}{t k e:TypeId}{b:Nat}{es:Array MapEntry}{ck:Nat}{fid:Nat->Nat}
theorem Px(H:P.underlying k=some .string){x:List Nat}(f:Bool):(Instr.checkKey f 10000 k (BJ x)).run P w=.ok () w:=MapKept.run_checkKey H (X8 x) f 9999
theorem AQB(B:P.underlying t=some (.map k e))(s:P.underlying k=some .string)(q:w.heap[b]?=some (.map es ck)){xs:List D}(he:Cm fid w.heap xs es.toList){key:List Nat}{v:D}{val:Value}
  (H:(∀c∈key,c<256)/\key.length<=9223372036854775807) (x:v.flat=true) (G:Rd fid w.heap (λ_=>False) v val):
  ∃f C,(Instr.mapUpdate t (.map (some b)) (BJ key) val).run P w=.ok () { w with heap:=w.heap.setIfInBounds b (.map f C) }/\Cm fid w.heap (G4 key v xs) f.toList:=by
 rcases Vg H.1 0 he with⟨L,i,l⟩|⟨j,J,V,L,i,l,M,_,_,N,_⟩
 .refine⟨es.push ⟨BJ key,val,ck⟩,ck+1,?_,?_⟩
  .simp[Instr.mapUpdate,run_underlying B,MapKept.run_getObj_map q,Px s,MapKept.run_findKey s i,MapKept.run_setObj_map _ q,Result.andThen]
  .rw[l,Array.toList_push];exact Xd ⟨rfl,H⟩ x G he
 .have Q:es[j]?=some J:=by simpa using l
  rw[Nat.zero_add]at i;refine⟨es.modify j (λI=>{ I with key:=BJ key,val:=val }),ck,?_,?_⟩
  .simp[Instr.mapUpdate,run_underlying B,MapKept.run_getObj_map q,Px s,MapKept.run_findKey s i,Q,M,MapKept.run_keyThatStays (X8 key),MapKept.run_setObj_map _ q,Result.andThen]
  .rw[N,Array.toList_modify,ChangeMaps.modify_eq_set _ _ _ _ l];exact ADF ⟨rfl,H⟩ x G j he
theorem X4(G:Bool)(C:P.underlying t=some (.map k e))(l:P.underlying k=some .string){i:TypeInfo}{Z:Value}{d:D}(hi:P.info? e=some i)(N:i.zero=some Z)(hd:Dp Z=some d)(s:d.flat=true)
  (B:w.heap[b]?=some (.map es ck)) {xs:List D} (he:Cm fid w.heap xs es.toList) {key:List Nat} (f:∀c∈key,c<256):
  ∃v,(Instr.lookup t (.map (some b)) (BJ key) G).run P w=.ok (if G then .tuple #[v,.bool (getM key xs).isSome]else v) w/\Rd fid w.heap (λ_=>False) ((getM key xs).getD d) v/\((getM key xs).getD d).flat=true:=by
 have x:(zeroValue e).run P w=.ok Z w:=by simp[zeroValue,typeInfo,hi,N]
 rcases Vg f 0 he with⟨H,q,J⟩|⟨j,I,V,H,q,J,Q,L,M,_⟩
 .refine⟨Z,?_,?_,?_⟩
  .simp[Instr.lookup,run_underlying C,MapKept.run_getObj_map B,Px l,MapKept.run_findKey l q,x,Result.andThen,H]
  .rw[H];exact Ls hd
  .rw[H];exact s
 .refine⟨I.val,?_,?_,?_⟩
  .simp[Instr.lookup,run_underlying C,MapKept.run_getObj_map B,Px l,MapKept.run_findKey l q,Result.andThen,H]
  .rw[H];exact M
  .rw[H];exact L
end
section
variable(cf:CF)(st:List Fact)(AA:Nat)(o:Oper)(g:Gd)
def SA:Option Operand->Bool
 |none=>true
 |some (.const (.int _ _))=>true
 |_=>false
def Uh(t:TypeId)(r:Option Operand):Option (Pr×Sm):=
 if(BW o.dst cf.nt=true/\g=[])/\((LJ cf.P t).isSome=true/\SA r=true)then some (.mm,⟨[],[],one AA .m o.dst (.is AA g)⟩)else none
def R1(t:TypeId)(m k v:Operand):Option (Pr×Sm):=
 match m with
 |.tmp s=>if(g=[]/\o.dst=none)/\(LJ cf.P t).isSome=true then match Bm st s with
  |some (.is n [])=>match CB st n with
   |some .m=>(A5 cf st g k).bind λa=>(A5 cf st g v).map λb=>
    (.mu n a.1 b.1,⟨[.sl s (.is n []),.en n .m]++(a.2.2++(b.2.2++(slotsOf st n).map λx=>.sl x.1 (.is n x.2))),[n],.en AA .m::(slotsOf st n).map λx=>.sl x.1 (.is AA x.2)⟩)
   |_=>none
  |_=>none
  else none
 |_=>none
def T0(t:TypeId)(m k:Operand):Option (Pr×Sm):=
 match m with
 |.tmp s=>(LJ cf.P t).bind λd=>match Bm st s with
  |some (.is n G)=>if G.isPrefixOf g then match CB st n with
   |some .m=>(A5 cf st g k).bind λa=>FI cf AA o g (.mg n a.1 d) .v ([.sl s (.is n G),.en n .m]++a.2.2)
   |_=>none
   else none
  |_=>none
 |_=>none
def SF(t:TypeId)(m k:Operand):Option (Pr×Sm):=
 match m,o.dst with
 |.tmp s,some f=>(LJ cf.P t).bind λd=>if f<cf.nt then match Bm st s with
  |some (.is n G)=>if G.isPrefixOf g then match CB st n with
   |some .m=>(A5 cf st g k).map λa=>(.mo n a.1 d,⟨[.sl s (.is n G),.en n .m]++a.2.2,[],[.en AA .v,.en (AA+1) .v,.sl f (.tu [AA,AA+1] g)]⟩)
   |_=>none
   else none
  |_=>none
  else none
 |_,_=>none
end
section
variable{cf:CF}{sg:Nat->Option Sg}{c:Cx}{F:Fact->Prop}{E:Nat->D}{a:Act}{w:World}{vs:Nat->Value}{Bs:Nat->List Nat}{AA:Nat}{g:Gd}{sm:Sm}{st:List Fact}{o:Oper}{p:Pr}
 {K:Nat->List D->List D->Prop}
theorem isSome_map{α:Type}{x:Option α}(h:x.isSome=true):∃y,x=some y:=by
 cases x with
 |none=>cases h
 |some y=>exact⟨y,rfl⟩
theorem APN{P:Program}{t k e:TypeId}(i:P.underlying t=some (.map k e)){r:Option Operand}(H:SA r=true)(ρ:Operand->Value)(f:∀v,ρ (.const v)=v):
  (Instr.makeMap t (r.map ρ)).run P w=.ok (.map (some w.heap.size)) (w.alloc (.map #[] 0)):=by
 unfold SA at H;split at H
 .simp[Instr.makeMap,Result.andThen]
 .simp[Instr.makeMap,run_underlying i,f,asInt,asIntOf,Result.andThen]
 .cases H
theorem AdP{t:TypeId}{r:Option Operand}(J:o.op=.makeMap t r)(j:Uh cf AA o g t r=some (p,sm))(h:At cf c F E a w vs Bs AA g p sm)(x:Aw K E AA p):AV c o sm F E a w:=by
 unfold Uh at j;split at j;rename_i C;obtain⟨⟨q,G⟩,L,I⟩:=C;simp only[AL,AJ]at j;obtain⟨rfl,rfl⟩:=j;obtain⟨d,hd⟩:=isSome_map L;obtain⟨k,e,i,_,s,_⟩:=Qm hd;have B:c.P=cf.P:=h.fits.P;have f:(execOp a.eval o).run c.P w=.ok (.value (.map (some w.heap.size))) (w.alloc (.map #[] 0)):=by simp only[execOp,J];exact C9 (APN (by rw[B];exact s) I a.eval λ_=>rfl)
 have l:D.g []=E AA:=by have:some (D.g [])=some (E AA):=x;injection this
 refine AV.B6 f ⟨AQ vs AA (.map (some w.heap.size)),AQ Bs AA [w.heap.size],?_⟩;refine h.H.put (by simpa using h.fresh 0 (by simp[Pr.np])) (by rw[h.fits.nt];exact q) [] (Dh _ _ _) rfl rfl rfl ?_ (by simp) (by simp) h.g;rw[<-l];simp only[AE];exact⟨[],w.heap.size,#[],0,rfl,rfl,rfl,(MapKept.heap_alloc w _).1,trivial⟩
 cases j
theorem AW8{x y e d:D}(h:Gk x y e=some d):∃xs k,x=.g xs/\y=.s k/\e.flat=true/\d=.g (G4 k e xs):=by
 unfold Gk at h;split at h;split at h;rename_i f;injection h with h;exact⟨_,_,rfl,rfl,f,h.symm⟩
 cases h
 cases h
theorem AX2{f x y d:D}(h:I1 f x y=some d):∃xs k,x=.g xs/\y=.s k/\d=(getM k xs).getD f:=by
 unfold I1 at h;split at h;injection h with h;exact⟨_,_,rfl,rfl,h.symm⟩
 cases h
theorem AT1{f x y d b:D}(h:HU f x y=some (d,b)):∃xs k,x=.g xs/\y=.s k/\d=(getM k xs).getD f/\b=.b (getM k xs).isSome:=by
 unfold HU at h;split at h;simp only[AL,AJ]at h;exact⟨_,_,rfl,rfl,h.1.symm,h.2.symm⟩
 cases h
theorem AL9{t:TypeId}{m k v:Operand}(W:o.op=.mapUpdate t m k v\/o.op=.insert t m k v)(l:R1 cf st AA o g t m k v=some (p,sm))(h:At cf c F E a w vs Bs AA g p sm)(hE:Aw K E AA p):AV c o sm F E a w:=by
 unfold R1 at l;split at l
 .rename_i s;split at l
  .rename_i hc;obtain⟨⟨hg0,M⟩,hz⟩:=hc;split at l
   .rename_i n hsl;split at l
    .rename_i hen;simp only[AS,Ae,AJ]at l;obtain⟨⟨α,s1,ns1⟩,ha,⟨β,s2,ns2⟩,hb,rfl,rfl⟩:=l;obtain⟨d,hd⟩:=isSome_map hz;obtain⟨kt,et,i,_,u1,u2,_⟩:=Qm hd;have hP:c.P=cf.P:=h.fits.P;have Y:F (.en n .m):=h.needs _ (by simp);have G:=h.H.own n .m Y;simp only[AE]at G;obtain⟨xs,b,es,ck,q1,q2,q3,q4,q5⟩:=G;have hl:=(h.H.loc s (.is n []) (h.needs _ (by simp))).1 (by intro x hx;simp at hx);have hev:a.eval (.tmp s)=.map (some b):=by simp[Act.eval,CX,hl,q3]
     obtain⟨B1,o1,_⟩:=h.A5 ha (λf Q=>by simp[Q]);obtain⟨B2,o2,_⟩:=h.A5 hb (λf Q=>by simp[Q]);have hE0:Gk (E n) (ev E α) (ev E β)=some (E AA):=hE;obtain⟨xs',key,V,e2,e3,e4⟩:=AW8 hE0;rw[q1]at V;injection V with V;subst V;rw[e2]at o1;obtain⟨w1,w2,w3⟩:=o1.str;obtain⟨j,C,U,N⟩:=AQB (P:=c.P) (by rw[hP];exact u1) (by rw[hP];exact u2) q4 q5 ⟨w2,w3⟩ e3 (o2.ID e3);have T:=MapKept.heap_set (o':=.map j C) q4;have L:(execOp a.eval o).run c.P w=.ok .skip { w with heap:=w.heap.setIfInBounds b (.map j C) }:=by
      rcases W with W|W
      all_goals
       simp only[execOp,W]
       rw[Sem.run_bind,hev,w1,U]
       rfl
     have R:Bh F AA:=by simpa using h.fresh 0 (by simp[Pr.np])
     have hrc:n≠AA:=by rintro rfl;exact R.1 _ Y
     have hag:Ao (λb=>∃Z s,F (.en Z s)/\Z∈[n]/\b∈Bs Z) w.heap ({ w with heap:=w.heap.setIfInBounds b (.map j C) }:World).heap:=by refine⟨by simp,λb' _ J=>T.2 b' λe=>J ⟨n,.m,Y,by simp,by rw[q2,e];simp⟩⟩
     have H1:=h.H.put (w':={ w with heap:=w.heap.setIfInBounds b (.map j C) }) (m:=AA) (s:=.m) (v:=vs n) (B:=[b]) (dst:=none) (ns:=[]) R (by simp[BW]) [n] hag rfl rfl rfl (by simp only[AE];exact⟨_,b,j,C,e4,rfl,q3,T.1,N.flat⟩) (by simp) (λb' J=>.inl ⟨n,.m,Y,by simp,by rw[q2];exact J⟩) h.g;refine AV.PY L M ⟨AQ vs AA (vs n),AQ Bs AA [b],?_⟩;refine H1.more ?_ ?_;intro Z s';simp only[next,one,AY,List.mem_map,Cy,or_false];constructor;rintro(q|q|⟨_,_,q⟩);exact .inl q;exact .inr q
     cases q;rintro(q|q);exact .inl q;exact .inr (.inl q);intro t' l' Q;rcases Q with⟨I,_⟩|I;exact .inl (.inl ⟨I,by simp⟩);simp only[AY,List.mem_map]at I;rcases I with I|⟨⟨u,gu⟩,hu,I⟩
     cases I;injection I with k2 k3;subst k2 k3;refine .inr ⟨AA,gu,n,rfl,.inl ⟨h.needs _ (by simp only[Ac,List.mem_map];exact .inr (.inr (.inr ⟨(u,gu),hu,rfl⟩))),by simp⟩,?_⟩;rw[BD,BX vs _ hrc]
    cases l
   cases l
  cases l
 cases l
theorem AYL{t:TypeId}{m k:Operand}(ho:o.op=.lookup t m k false)(j:T0 cf st AA o g t m k=some (p,sm))(h:At cf c F E a w vs Bs AA g p sm)(V:Aw K E AA p):AV c o sm F E a w:=by
 unfold T0 at j;split at j;rename_i s;simp only[AS]at j;obtain⟨d,hd,j⟩:=j;split at j;rename_i n U hsl;split at j;rename_i L;split at j;rename_i Y;simp only[AS]at j;obtain⟨⟨α,s1,ns1⟩,W,j⟩:=j;obtain⟨rfl,⟨M,_⟩,rfl⟩:=Fj j;obtain⟨kt,et,i,zv,u1,u2,u3,u4,u5,u6⟩:=Qm hd;have I:c.P=cf.P:=h.fits.P;have hr:F (.en n .m):=h.needs _ (by simp);have l:=h.H.own n .m hr;simp only[AE]at l;obtain⟨xs,b,es,ck,q1,q2,q3,q4,q5⟩:=l;have hl:=(h.H.loc s (.is n U) (h.needs _ (by simp))).1 (λx hx=>h.g x ((List.isPrefixOf_iff_prefix.1 L).subset hx));have J:a.eval (.tmp s)=.map (some b):=by simp[Act.eval,CX,hl,q3]
 obtain⟨B1,Q,_⟩:=h.A5 W (λf Z=>by simp[Z]);have G:I1 d (E n) (ev E α)=some (E AA):=V;obtain⟨xs',key,C,R,T⟩:=AX2 G;rw[q1]at C;injection C with C;subst C;rw[R]at Q;obtain⟨w1,w2,w3⟩:=Q.str;obtain⟨v,B,hv,N⟩:=X4 (P:=c.P) false (by rw[I];exact u1) (by rw[I];exact u2) (by rw[I];exact u3) u4 u5 u6 q4 q5 w2;have q:(execOp a.eval o).run c.P w=.ok (.value v) w:=by simp only[execOp,ho];refine C9 ?_;rw[J,w1,B];rfl
 refine AV.B6 q (h.H.Lx (by simpa using h.fresh 0 (by simp[Pr.np])) (by rw[h.fits.nt];exact M) ⟨rfl,rfl,rfl,rfl⟩ ?_ [] h.g);rw[T];simp only[AE];exact⟨trivial,hv.flat N⟩
 cases j
 cases j
 cases j
 cases j
theorem AZ8{t:TypeId}{m k:Operand}(ho:o.op=.lookup t m k true)(j:SF cf st AA o g t m k=some (p,sm))(h:At cf c F E a w vs Bs AA g p sm)(hE:Aw K E AA p):AV c o sm F E a w:=by
 unfold SF at j;split at j;rename_i s dd V;simp only[AS]at j;obtain⟨d,hd,j⟩:=j;split at j;rename_i hlt;split at j;rename_i n g' hsl;split at j;rename_i Z;split at j;rename_i hen;simp only[Ae,AJ]at j;obtain⟨⟨α,s1,ns1⟩,ha,rfl,rfl⟩:=j;obtain⟨kt,et,i,zv,u1,u2,u3,u4,u5,u6⟩:=Qm hd;have U:c.P=cf.P:=h.fits.P;have hr:F (.en n .m):=h.needs _ (by simp);have I:=h.H.own n .m hr;simp only[AE]at I;obtain⟨xs,b,es,ck,q1,q2,q3,q4,q5⟩:=I;have R:=(h.H.loc s (.is n g') (h.needs _ (by simp))).1 (λx hx=>h.g x ((List.isPrefixOf_iff_prefix.1 Z).subset hx));have W:a.eval (.tmp s)=.map (some b):=by simp[Act.eval,CX,R,q3]
 obtain⟨B1,o1,_⟩:=h.A5 ha (λf Y=>by simp[Y]);have T:HU d (E n) (ev E α)=some (E AA,E (AA+1)):=hE;obtain⟨xs',key,Q,e2,e3,e4⟩:=AT1 T;rw[q1]at Q;injection Q with Q;subst Q;rw[e2]at o1;obtain⟨w1,w2,w3⟩:=o1.str;obtain⟨v,M,hv,hvf⟩:=X4 (P:=c.P) true (by rw[U];exact u1) (by rw[U];exact u2) (by rw[U];exact u3) u4 u5 u6 q4 q5 w2;have J:(execOp a.eval o).run c.P w=.ok (.value (.tuple #[v,.bool (getM key xs).isSome])) w:=by simp only[execOp,ho];refine C9 ?_;rw[W,w1,M];rfl
 have f0:Bh F AA:=by simpa using h.fresh 0 (by simp[Pr.np])
 have f1:Bh F (AA+1):=by simpa using h.fresh 1 (by simp[Pr.np])
 have N:AA≠AA+1:=by omega
 refine AV.B6 J ⟨AQ (AQ vs AA v) (AA+1) (.bool (getM key xs).isSome),AQ (AQ Bs AA []) (AA+1) [],?_⟩;rw[V];have G:∀m,(m=AA\/m=AA+1)->AQ (AQ Bs AA []) (AA+1) [] m=[]:=by rintro m (rfl|rfl);rw[BX _ _ N,BD];rw[BD]
 refine BF.step (λm=>m=AA\/m=AA+1) (λ_=>False) (λ_=>False) (some dd) h.H
  (λm B=>by rw[BX _ _ λe=>B (.inr e),BX _ _ λe=>B (.inl e)]) (λm B=>by rw[BX _ _ λe=>B (.inr e),BX _ _ λe=>B (.inl e)])
  (λt l R m B e=>by
   rcases e with rfl|rfl
   .exact f0.2 t l R B
   .exact f1.2 t l R B) (λ_ q=>q.elim) (Ao.refl _ _) rfl rfl rfl
  (λt j=>Du j) Hg put_defers ?_ ?_ ?_ ?_ ?_ ?_
 rintro f (⟨C,L⟩|C);left;refine⟨C,?_⟩
 cases f with
 |en n s=>exact λq=>q
 |sl u l=>exact L
 simp only[AY,Cy,or_false]at C;rcases C with rfl|rfl|rfl;exact .inr (.inl rfl);exact .inr (.inr rfl);exact .inr rfl;intro m s B Y;rw[G m B];rcases Y with⟨C,_⟩|C;rcases B with rfl|rfl;exact(f0.1 _ C).elim;exact(f1.1 _ C).elim;simp only[AY,Cy,or_false,reduceCtorEq,Fact.en.injEq]at C;rcases C with⟨rfl,rfl⟩|⟨rfl,rfl⟩;rw[BX _ _ N,BD,e3];simp only[AE];exact⟨trivial,hv.flat hvf⟩;rw[BD,e4];simp only[AE,Rd];exact⟨trivial,trivial⟩;intro m s B _;rw[G m B];simp;intro m s B _;rw[G m B];simp;intro m s m2 r B _ _ _ _;rw[G m B];simp;rintro u l hu (⟨_,L⟩|L);exact(L hu).elim;simp only[AY,Cy,or_false,reduceCtorEq,false_or,Fact.sl.injEq]at L;obtain⟨rfl,rfl⟩:=L;intro _;rw[FY (by rw[h.H.size,h.fits.nt];exact hlt)];simp only[List.map_cons,List.map_nil];rw[BD,BX _ _ N,BD]
 cases j
 cases j
 cases j
 cases j
 cases j
end
end Go.Cat
namespace Go.Cat
section
variable(cf:CF)(sg:Nat->Option Sg)(st:List Fact)(AA:Nat)(o:Oper)(g:Gd)
def TJ(x:Operand)(ix:Nat):Option (Pr×Sm):=
 match x,o.dst with
 |.tmp t,some d=>if d<cf.nt then match Bm st t with
  |some (.tu ns G)=>if G.isPrefixOf g then(ns[ix]?).map λn=>(.nop,⟨[.sl t (.tu ns G)],[],[.sl d (.is n g)]⟩)else none
  |_=>none
  else none
 |_,_=>none
def Vw(x:Operand)(k:Nat)(xs:List Operand):Option (Pr×Sm):=
 match A5 cf st g x with
 |some (A,.v,ns)=>match Kp cf sg st AA o g k xs with
  |some (.ca f s n,sm)=>some (.cd A f s n,{ sm with needs:=ns++sm.needs })
  |_=>none
 |_=>none
def Pj(k:Nat):Option (Pr×Sm):=
 match o.op with
 |.extract x ix=>TJ cf st o g x ix
 |.call { callee:=.value (.func f),args,.. }=>match cf.gof f with
  |some m=>Kp cf sg st AA o g m args.toList
  |none=>none
 |.call { callee:=.value (.tmp t),args,.. }=>match SW cf sg st AA o g (.tmp t) k args.toList with
  |some r=>some r
  |none=>Vw cf sg st AA o g (.tmp t) k args.toList
 |.makeFunc fn first captured=>Ry cf st o g fn first.toList captured.toList
 |.move x=>match WG cf st o g x with
  |some r=>some r
  |none=>LA cf st AA o g k
 |.slice t x lo hi mx=>WB cf st AA o g t x lo hi mx
 |.convert s d x=>if P7 cf.P s=true then match A5 cf st g x with
   |some (_,sh,_)=>if Lt sh=true then Rw cf st AA o g s d x else none
   |none=>none
  else LA cf st AA o g k
 |.indexAddr t x i=>if k=7 then Se cf st o g t x i else V6 cf st AA o g t x i
 |.load t x=>if(Dj cf.P t).isSome then WH cf st AA o g k t x else match SG cf st o g t x with
  |some r=>some r
  |none=>match V9 cf st AA o g k t x with
   |some r=>some r
   |none=>Rn cf st o g t x
 |.store t x v=>if(Dj cf.P t).isSome then S0 cf st AA o g k t x v else match Sa cf st AA o g k t x v with
  |some r=>some r
  |none=>match Rg cf st AA o g k t x v with
  |some r=>some r
  |none=>match TO cf st AA o g k t x v with
   |some r=>some r
   |none=>match SH cf st AA o g t x v with
    |some r=>some r
    |none=>T8 cf st AA o g t x v
 |.alloc t=>if(Dj cf.P t).isSome then Tx cf AA o g k t else UM cf AA o g k t
 |.box t x=>if(Dj cf.P t).isSome then match Sz cf st AA o g t x with
   |some r=>some r
   |none=>Sj cf st AA o g k t x
  else WA cf st AA o g k t x
 |.build t ps=>Th cf st AA o g k t ps
 |.fieldAddr t x f=>UL cf st AA o g t x f
 |.nilCheck x=>SJ cf st AA o g x
 |.binOp q t x y _=>if QC cf.P t=true then match q,y with
   |.eql,.const (.pointer none)=>Oq cf st AA o g true x
   |.neq,.const (.pointer none)=>Oq cf st AA o g false x
   |_,_=>none
  else LA cf st AA o g k
 |.makeMap t r=>Uh cf AA o g t r
 |.mapUpdate t m i x=>R1 cf st AA o g t m i x
 |.insert t m i x=>R1 cf st AA o g t m i x
 |.lookup t m i j=>if j=true then SF cf st AA o g t m i else T0 cf st AA o g t m i
 |.makeSlice t l c=>U6 cf st AA o g k t l c
 |.buildSlice t len ps=>Vs cf st AA o g k t len ps
 |.call { callee:=.builtin .append,args,argTypes }=>match args,argTypes with
  |⟨[s,x]⟩,⟨[t,T]⟩=>if t=T then(match TT cf st AA o g t s x with
   |some r=>some r
   |none=>UW cf st AA o g t s x)else none
  |_,_=>none
 |_=>LA cf st AA o g k
def Ok(k:Nat):Option (Pr×Sm):=
 if 1000<=k then match o.op with
  |.move x=>W3 cf st AA o g x
  |_=>Pj cf sg st AA o g (k-1000)
 else Pj cf sg st AA o g k
end
theorem AT6{o:Oper}{f:FuncId}{args:Array Operand}{s:Array TypeId}(H:o.op=.call { callee:=.value (.func f),args,argTypes:=s })(P:Program)(w:World)(a:Act):
  (execOp a.eval o).run P w=(callFunc f (args.toList.map a.eval).toArray).run P w:=by
 simp only[execOp,H];rw[Sem.run_bind];show(Result.andThen ((Pure.pure _:Sem Deferred).run P w) _)=_;simp only[Sem.run_pure,Result.andThen];show(invoke (.fn (.func f) #[]) (#[]++args.map a.eval)).run P w=_;have:(args.toList.map a.eval).toArray=args.map a.eval:=by apply Array.ext';simp
 rw[this];simp[invoke]
section
variable{cf:CF}{sg:Nat->Option Sg}{c:Cx}{F:Fact->Prop}{E:Nat->D}{a:Act}{w:World}{vs:Nat->Value}{Bs:Nat->List Nat}{AA:Nat}{g:Gd}{sm:Sm}{st:List Fact}{o:Oper}{p:Pr}
 {K:Nat->List D->List D->Prop}
theorem AYZ{x:Operand}{ix:Nat}(Q:o.op=.extract x ix)(i:TJ cf st o g x ix=some (p,sm))(h:At cf c F E a w vs Bs AA g p sm):AV c o sm F E a w:=by
 unfold TJ at i;split at i;rename_i t d hd;split at i;rename_i J;split at i;rename_i ns L V;split at i;rename_i G;simp only[Ae,AJ]at i;obtain⟨n,N,_,rfl⟩:=i;have M:=h.needs (.sl t (.tu ns L)) (by simp);have I:a.tmps[t]?=some (.tuple (ns.map vs).toArray):=h.H.loc t _ M (λx U=>h.g x ((List.isPrefixOf_iff_prefix.1 G).subset U));have C:a.eval (.tmp t)=.tuple (ns.map vs).toArray:=by simp[Act.eval,I]
 have R:(execOp a.eval o).run c.P w=.ok (.value (vs n)) w:=by simp only[execOp,Q];refine C9 ?_;rw[C];simp[Instr.extract,N]
 refine AV.B6 R ⟨vs,Bs,?_⟩;rw[hd]
 refine BF.step (λ_=>False) (λ_=>False) (λ_=>False) (some d) h.H (λ_ _=>rfl) (λ_ _=>rfl) (λ_ _ _ _ _ q=>q) (λ_ q=>q.elim) (Ao.refl _ _) rfl rfl rfl
  (λt i=>Du i) Hg put_defers ?_ (λ_ _ q=>q.elim) (λ_ _ q=>q.elim) (λ_ _ q=>q.elim) (λ_ _ _ _ q=>q.elim) ?_
 rintro f (⟨B,j⟩|B);left;refine⟨B,?_⟩
 cases f with
 |en n s=>exact λq=>q
 |sl u l=>exact j
 simp at B;subst B;right;rfl;rintro u l T (⟨_,j⟩|j);exact(j T).elim;simp at j;obtain⟨rfl,rfl⟩:=j;exact⟨λ_=>FY (by rw[h.H.size,h.fits.nt];exact J),λq=>(q h.g).elim⟩;simp at i;simp at i;simp at i;simp at i
theorem AQ2{o:Oper}{x:Operand}{f:FuncId}{args:Array Operand}{s:Array TypeId}(H:o.op=.call { callee:=.value x,args,argTypes:=s })(P:Program)(w:World)(a:Act)(i:a.eval x=.func (.func f) #[] #[]):
  (execOp a.eval o).run P w=(callFunc f (args.toList.map a.eval).toArray).run P w:=by
 simp only[execOp,H];rw[Sem.run_bind];have e:resolve a.eval { callee:=.value x,args,argTypes:=s } o.type=(Pure.pure { target:=.fn (.func f) #[],args:=#[]++args.map a.eval }:Sem Deferred):=by simp only[resolve,i,Deferred.ofValue]
 rw[e];simp only[Sem.run_pure,Result.andThen];show(invoke (.fn (.func f) #[]) (#[]++args.map a.eval)).run P w=_;have:(args.toList.map a.eval).toArray=args.map a.eval:=by apply Array.ext';simp
 rw[this];simp[invoke]
theorem AZ2(U:Sound cf sg K){x:Operand}{k:Nat}{args:Array Operand}{Y:Array TypeId}(T:o.op=.call { callee:=.value x,args,argTypes:=Y })(j:Vw cf sg st AA o g x k args.toList=some (p,sm))(h:At cf c F E a w vs Bs AA g p sm)(N:Aw K E AA p):AV c o sm F E a w:=by
 unfold Vw at j;split at j;rename_i A ns M;split at j;rename_i W Z n sm' i;simp only[AL,AJ]at j;obtain⟨rfl,rfl⟩:=j;obtain⟨h0,l⟩:=N;have R:∀f∈ns,F f:=λf C=>h.needs f (BN _ C);have G:∀f∈sm'.needs,F f:=λf C=>h.needs f (BB _ C);obtain⟨B,I,_⟩:=GV h.fits M h.H R h.g;have Q:W=k:=by
  unfold Kp at i;simp only[AS]at i;obtain⟨s,_,r,_,i⟩:=i;split at i;simp only[AL,AJ,Pr.ca.injEq]at i;exact i.1.1.symm
  cases i
 have V:a.eval x=.func (.func (cf.fid k)) #[] #[]:=by
  rw[h0,Q]at I;simp only[AE]at I;obtain⟨vs,J,L,_⟩:=I.2;have:vs=#[]:=by apply Array.eq_empty_of_size_eq_zero;simpa using L
  rw[J,this,h.fits.fid]
 have q:AV c o sm' F E a w:=by refine Ss U h.fits i trivial h.H h.fresh G h.g l ?_;exact AQ2 T _ _ _ V
 exact q
 cases j
 cases j
theorem ADI(I:Sound cf sg K){k:Nat}(j:Pj cf sg st AA o g k=some (p,sm))(h:At cf c F E a w vs Bs AA g p sm)(B:Aw K E AA p):AV c o sm F E a w:=by
 unfold Pj at j;split at j;rename_i x ix q;exact AYZ q j h;rename_i f args T q;split at j;rename_i m M;refine Ss I h.fits j trivial h.H h.fresh h.needs h.g B ?_;rw[AT6 q,h.fits.gof f m M];simp at j;rename_i t args T q;split at j;rename_i r C;injection j with j;subst j;exact AN3 I q C h B;exact AZ2 I q j h B;rename_i fn first captured q
 exact ASE q j h;rename_i x q;split at j;rename_i r C;injection j with j;subst j;exact AXH (by simp only[execOp,q];rfl) C h;exact Ov j h B;rename_i t x lo hi mx q;exact AYX q j h B;rename_i s d x q;split at j;split at j;rename_i α sh ns hx;split at j;rename_i G;refine AaV q j (λα' sh' ns' hx'=>?_) h B;rw[hx]at hx';simp only[AL,AJ]at hx';obtain⟨_,rfl,_⟩:=hx';exact G
 cases j
 cases j;exact Ov j h B;rename_i t x i q;split at j;exact AOB q j h B;exact AOX q j h B;rename_i t x q;split at j;exact AYQ q j h B;split at j;rename_i r C;injection j with j;subst j;exact ARN q C h;split at j;rename_i r C;injection j with j;subst j;exact AP0 q C h B;exact APA q j h;rename_i t x v q;split at j;exact AaX q j h B;split at j;rename_i r C;injection j with j;subst j;exact ASV q C h B;split at j;rename_i r C;injection j with j;subst j;exact AMJ q C h B;split at j;rename_i r C;injection j with j;subst j;exact AaG q C h B;split at j;rename_i r C;injection j with j;subst j;exact ARU q C h B;exact AaT q j h B;rename_i t q;split at j;exact AR9 q j h B;exact AOS q j h B;rename_i t x q;split at j;split at j;rename_i r C;injection j with j;subst j;exact AVF q C h B;exact AZL q j h B;exact AQ6 q j h B;rename_i t ps q;exact AXA q j h B;rename_i t x f q;exact AdL q j h B;rename_i x q;exact AZX q j h B;rename_i Q t x y ty q;split at j;rename_i J;split at j;exact AJC q (.inl ⟨rfl,rfl⟩) J j h B;exact AJC q (.inr ⟨rfl,rfl⟩) J j h B
 cases j;exact Ov j h B;rename_i t r q;exact AdP q j h B;rename_i t m i x q;exact AL9 (.inl q) j h B;rename_i t m i x q;exact AL9 (.inr q) j h B;rename_i t m i N q;split at j;rename_i G;subst G;exact AZ8 q j h B;rename_i G;have:N=false:=by simpa using G
 subst this;exact AYL q j h B;rename_i t l c q;exact AcQ q j h B;rename_i t len ps q;exact AOM q j h B;rename_i args T q;split at j;split at j;rename_i L;subst L;split at j;rename_i r C;injection j with j;subst j;exact AV8 q C h B;exact AaE q j h B
 cases j
 cases j;exact Ov j h B
theorem Ad3(s:Sound cf sg K){k:Nat}(H:Ok cf sg st AA o g k=some (p,sm))(h:At cf c F E a w vs Bs AA g p sm)(f:Aw K E AA p):AV c o sm F E a w:=by unfold Ok at H;split at H;split at H;rename_i x i;exact ATD (by simp only[execOp,i];rfl) H h f;exact ADI s H h f;exact ADI s H h f
end
end Go.Cat
namespace Go.Cat
theorem AcW{P:Program}{o:Oper}{a:Act}{w:World}{i N:Act->World->Prop}{Q:Exit->Act->World->Prop}(h:o.wp P a w i Q)
  (f:∀j w',i j w'->(∀t,some t≠o.dst->j.tmps[t]?=a.tmps[t]?)->N j w'):o.wp P a w N Q:=by
 unfold Oper.wp Oper.upon at*;split at h
 .exact f _ _ h λt H=>Du H
 .exact f _ _ h λt H=>Du H
 .refine f _ _ h λt H=>?_;have:=Du (a:=a) (v:=undef) H
  cases hd:o.dst<;>simp_all[Act.put]
 .refine h.mono ?_;rintro e W he
  cases e with
  |returned v=>exact f _ _ he λt H=>Du H
  |panicked c=>exact he
  |outgrown=>exact he
 .intro b cs;obtain⟨v,W,R,s⟩:=h b cs;exact⟨v,W,f _ _ R λt H=>Du H,s⟩
 .exact h
 .exact h
end Go.Cat
