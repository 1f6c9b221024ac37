/-
 Regions: one operation behind the other, guards, and orders that are left open.
-/
import Derived.Test.YtdifmcppfcbgdaaGreatCatTwo
set_option linter.unusedSimpArgs false
set_option linter.unusedVariables false
namespace Go.Cat
def A.ments:A→List Nat
 | .e n=>[n]
 | .c _=>[]
def oments:Option A→List Nat
 | some a=>a.ments
 | none=>[]
def Pr.ments:Pr→List Nat
 | .nop | .cs ..=>[]
 | .cy a | .un _ a | .cv _ a | .sn a | .bs a | .sy a=>a.ments
 | .bi _ a b | .bb _ a b | .sx a b | .ap _ a b | .mx a b | .mn a b | .mk _ a b | .iy a b=>a.ments++b.ments
 | .pk a b c=>a.ments++b.ments++c.ments
 | .ln a p=>a.ments++p.flatMap PE.ments
 | .ix a p i=>a.ments++p.flatMap PE.ments++i.ments
 | .up n p a=>n::(p.flatMap PE.ments++a.ments)
 | .sb _ a lo hi=>a.ments++oments lo++oments hi
 | .ss a lo hi=>a.ments++oments lo++oments hi
 | .li _ xs=>xs.flatMap A.ments
 | .ca _ xs _=>xs.flatMap A.ments
 | .cd f _ xs _=>f.ments++xs.flatMap A.ments
 | .bg _ xs=>xs.flatMap fun x=>x.1.ments
 | .bp a | .gp a _ | .nz _ a | .nn a | .wl _ a | .fp _ a _=>a.ments
 | .gt a p=>a.ments++p.flatMap PE.ments
 | .ws n _ a=>n::a.ments
 | .uq n p a _ _=>n::(p.flatMap PE.ments++a.ments)
 | .tk n=>[n]
 | .cb n=>[n]
 | .sp n p _=>n::p.flatMap PE.ments
 | .sw n=>[n]
 | .jn n p a _=>n::(p.flatMap PE.ments++a.ments)
theorem ev_congr {E E':Nat→D} {a:A} (h:∀ n∈a.ments,E n=E' n):ev E a=ev E' a:=by
 cases a with
 | e n=>exact h n (by simp [A.ments])
 | c d=>rfl
theorem PE.ev_congr {E E':Nat→D} {p:PE} (h:∀ n∈p.ments,E n=E' n):PE.ev E p=PE.ev E' p:=by
 cases p with
 | e n=>simp only [PE.ev]; rw [h n (by simp [PE.ments])]
 | k n=>rfl
theorem pathE_congr {E E':Nat→D}:∀ {p:List PE},(∀ n∈p.flatMap PE.ments,E n=E' n)→p.mapM (PE.ev E)=p.mapM (PE.ev E')
 | [],_=>rfl
 | x::p,h=>by
  simp only [List.mapM_cons]
  rw [PE.ev_congr fun n hn=>h n (by simp [hn]),pathE_congr fun n hn=>h n (by simp only [List.flatMap_cons,qma]; exact .inr hn)]
theorem map_congr {E E':Nat→D}:∀ {xs:List A},(∀ n∈xs.flatMap A.ments,E n=E' n)→xs.map (ev E)=xs.map (ev E')
 | [],_=>rfl
 | x::xs,h=>by
  simp only [List.map_cons]
  rw [ev_congr fun n hn=>h n (by simp [hn]),map_congr fun n hn=>h n (by simp only [List.flatMap_cons,qma]; exact .inr hn)]
theorem mapx_congr {E E':Nat→D}:∀ {xs:List (A×Nat)},(∀ n∈xs.flatMap (fun x=>x.1.ments),E n=E' n)→(xs.map fun x=>(ev E x.1,x.2))=(xs.map fun x=>(ev E' x.1,x.2))∧(xs.map fun x=>ev E x.1)=xs.map fun x=>ev E' x.1
 | [],_=>⟨rfl,rfl⟩
 | x::xs,h=>by
  have ih:=mapx_congr (E:=E) (E':=E') (xs:=xs) fun n hn=>h n (by simp only [List.flatMap_cons,qma]; exact .inr hn)
  simp only [List.map_cons]
  rw [ev_congr fun n hn=>h n (by simp [hn]),ih.1,ih.2]
  exact ⟨rfl,rfl⟩
theorem omap_congr {E E':Nat→D} {x:Option A} (h:∀ n∈oments x,E n=E' n):x.map (ev E)=x.map (ev E'):=by
 cases x with
 | none=>rfl
 | some a=>exact congrArg some (ev_congr h)
theorem evP_congr {E E':Nat→D} {p:Pr} (h:∀ n∈p.ments,E n=E' n):evP E p=evP E' p:=by
 cases p <;> simp only [Pr.ments,qma,qmn] at h <;> simp only [evP,pathD]
 case cy a=>rw [ev_congr h]
 case bi a b=>rw [ev_congr fun n hn=>h n (.inl hn),ev_congr fun n hn=>h n (.inr hn)]
 case bb a b=>rw [ev_congr fun n hn=>h n (.inl hn),ev_congr fun n hn=>h n (.inr hn)]
 case un a=>rw [ev_congr h]
 case pk a b c=>rw [ev_congr fun n hn=>h n (.inl (.inl hn)),ev_congr fun n hn=>h n (.inl (.inr hn)),ev_congr fun n hn=>h n (.inr hn)]
 case cv a=>rw [ev_congr h]
 case ln a p=>rw [ev_congr fun n hn=>h n (.inl hn),pathE_congr fun n hn=>h n (.inr hn)]
 case sn a=>rw [ev_congr h]
 case sx a b=>rw [ev_congr fun n hn=>h n (.inl hn),ev_congr fun n hn=>h n (.inr hn)]
 case ss a lo hi=>rw [ev_congr fun n hn=>h n (.inl (.inl hn)),omap_congr fun n hn=>h n (.inl (.inr hn)),omap_congr fun n hn=>h n (.inr hn)]
 case ix a p i=>rw [ev_congr fun n hn=>h n (.inl (.inl hn)),pathE_congr fun n hn=>h n (.inl (.inr hn)),ev_congr fun n hn=>h n (.inr hn)]
 case up n p a=>rw [h n (.inl rfl),pathE_congr fun n hn=>h n (.inr (.inl hn)),ev_congr fun n hn=>h n (.inr (.inr hn))]
 case sb a lo hi=>rw [ev_congr fun n hn=>h n (.inl (.inl hn)),omap_congr fun n hn=>h n (.inl (.inr hn)),omap_congr fun n hn=>h n (.inr hn)]
 case ap a b=>rw [ev_congr fun n hn=>h n (.inl hn),ev_congr fun n hn=>h n (.inr hn)]
 case mk a b=>rw [ev_congr fun n hn=>h n (.inl hn),ev_congr fun n hn=>h n (.inr hn)]
 case iy a b=>rw [ev_congr fun n hn=>h n (.inl hn),ev_congr fun n hn=>h n (.inr hn)]
 case li xs=>rw [map_congr h]
 case bs a=>rw [ev_congr h]
 case sy a=>rw [ev_congr h]
 case mx a b=>rw [ev_congr fun n hn=>h n (.inl hn),ev_congr fun n hn=>h n (.inr hn)]
 case mn a b=>rw [ev_congr fun n hn=>h n (.inl hn),ev_congr fun n hn=>h n (.inr hn)]
 case bg k xs=>rw [(mapx_congr h).1,(mapx_congr h).2]
 case bp a=>rw [ev_congr h]
 case gp a k=>rw [ev_congr h]
 case nz w a=>rw [ev_congr h]
 case nn a=>rw [ev_congr h]
 case wl k a=>rw [ev_congr h]
 case ws n k a=>rw [h n (.inl rfl),ev_congr fun m hm=>h m (.inr hm)]
 case gt a p=>rw [ev_congr fun n hn=>h n (.inl hn),pathE_congr fun n hn=>h n (.inr hn)]
 case fp fl a k=>rw [ev_congr h]
 case cb n=>rw [h n (by simp)]
 case jn n p a k=>rw [h n (.inl rfl),pathE_congr fun n hn=>h n (.inr (.inl hn)),ev_congr fun n hn=>h n (.inr (.inr hn))]
 case uq n p a i k=>rw [h n (.inl rfl),pathE_congr fun n hn=>h n (.inr (.inl hn)),ev_congr fun n hn=>h n (.inr (.inr hn))]
def skD (E:Nat→D) (z:List (Option Nat)) (j:Nat):D:=match z[j]? with
 | some (some m)=>E m
 | _=>.u
theorem skE_length {E:Nat→D}:∀ (z:List (Option Nat)) (n:Nat),(skE E z n).length=n
 | _,0=>by simp [skE]
 | [],n+1=>by simp [skE,skE_length [] n]
 | some m::z,n+1=>by simp [skE,skE_length z n]
 | none::z,n+1=>by simp [skE,skE_length z n]
theorem skE_get {E:Nat→D}:∀ (z:List (Option Nat)) (n j:Nat),j<n→(skE E z n)[j]?=some (skD E z j)
 | _,0,j=>fun h=>by omega
 | [],n+1,0=>fun h=>by simp [skE,skD]
 | [],n+1,j+1=>fun h=>by have:=skE_get (E:=E) [] n j (by omega); simpa [skE,skD] using this
 | some m::z,n+1,0=>fun h=>by simp [skE,skD]
 | some m::z,n+1,j+1=>fun h=>by have:=skE_get (E:=E) z n j (by omega); simpa [skE,skD] using this
 | none::z,n+1,0=>fun h=>by simp [skE,skD]
 | none::z,n+1,j+1=>fun h=>by have:=skE_get (E:=E) z n j (by omega); simpa [skE,skD] using this
def zments (z:List (Option Nat)):List Nat:=z.filterMap id
theorem skD_congr {E E':Nat→D} {z:List (Option Nat)} {j:Nat} (h:∀ n∈zments z,E n=E' n):skD E z j=skD E' z j:=by
 unfold skD
 split
 ·rename_i m hm
  exact h m (List.mem_filterMap.2 ⟨some m,List.mem_of_getElem? hm,rfl⟩)
 ·rfl
def ItOK (K:Nat→List D→List D→Prop) (E:Nat→D) (cnt:Nat) (it:It):Prop:=
 match gdE E it.g with
 | some true=>EvP K E cnt it.p
 | some false=>∀ j,j<it.p.np→E (cnt+j)=skD E it.z j
 | none=>False
def ItsOK (K:Nat→List D→List D→Prop) (E:Nat→D):Nat→List It→Prop
 | _,[]=>True
 | cnt,it::r=>ItOK K E cnt it∧ItsOK K E (cnt+it.p.np) r
def nps:List It→Nat
 | []=>0
 | it::r=>it.p.np+nps r
def mentsOK:Nat→List It→Bool
 | _,[]=>true
 | cnt,it::r=>(it.p.ments.all fun n=>decide (n<cnt))&&((zments it.z).all fun n=>decide (n<cnt))&&(it.g.all fun x=>decide (x.1<cnt))&&mentsOK (cnt+it.p.np) r
theorem gdE_congr {E E':Nat→D}:∀ {g:Gd},(∀ x∈g,E x.1=E' x.1)→gdE E g=gdE E' g
 | [],_=>rfl
 | (n,b)::g,h=>by
  simp only [gdE]
  rw [h (n,b) (by simp),gdE_congr fun x hx=>h x (by simp [hx])]
theorem E_append {e t:Env} {n:Nat} (h:n<e.length):Env.E (e++t) n=Env.E e n:=by
 simp [Env.E,qgd,qgl h]
theorem E_new {e t:Env} {j:Nat}:Env.E (e++t) (e.length+j)=t.getD j .u:=by
 simp only [Env.E,qgd]
 rw [qgr (by omega)]
 simp
theorem wpIts_ok {K:Nat→List D→List D→Prop} {Q:Env→Prop}:∀ (its:List It) (e:Env),mentsOK e.length its=true→wpIts K its e Q→
  ∃ t,Q (e++t)∧t.length=nps its∧ItsOK K (Env.E (e++t)) e.length its
 | [],e=>fun _ h=>⟨[],by simpa [wpIts] using h,rfl,trivial⟩
 | it::r,e=>fun hm h=>by
  simp only [mentsOK,qba,qat,qde] at hm
  obtain ⟨⟨⟨hm1,hmz⟩,hm2⟩,hm3⟩:=hm
  have key:∀ t1:Env,t1.length=it.p.np→(∀ t2:Env,ItOK K (Env.E (e++(t1++t2))) e.length it)→wpIts K r (e++t1) Q→
    ∃ t,Q (e++t)∧t.length=nps (it::r)∧ItsOK K (Env.E (e++t)) e.length (it::r):=by
   intro t1 hl hit hw
   obtain ⟨t2,q1,q2,q3⟩:=wpIts_ok r (e++t1) (by simpa [hl] using hm3) hw
   refine ⟨t1++t2,by simpa using q1,by simp [nps,hl,q2],hit t2,?_⟩
   simpa [hl] using q3
  simp only [wpIts,wpIt] at h
  split at h
  ·rename_i hg
   have hg2:∀ t,gdE (Env.E (e++t)) it.g=some true:=fun t=>by rw [gdE_congr (E':=Env.E e) fun x hx=>E_append (hm2 x hx)]; exact hg
   have mem:∀ (t:Env) (n:Nat),n∈it.p.ments→Env.E e n=Env.E (e++t) n:=fun t n hn=>(E_append (hm1 n hn)).symm
   unfold wpPr at h
   split at h
   ·rename_i hp
    refine key [] (by simp [hp,Pr.np]) (fun t2=>?_) (by simpa using h)
    simp only [ItOK,hg2,hp,EvP]
   ·rename_i k xs n hp
    obtain ⟨rs,h1,h2,h3⟩:=h
    refine key rs (by simp [hp,Pr.np,h2]) (fun t2=>?_) h3
    simp only [ItOK,hg2,hp,EvP]
    refine ⟨rs,?_,h2,fun j hj=>?_⟩
    ·rw [map_congr (E:=Env.E (e++(rs++t2))) (E':=Env.E e) fun n hn=>(mem (rs++t2) n (by simpa [hp,Pr.ments] using hn)).symm]; exact h1
    ·rw [E_new]
     simp [qgd,qgl (show j<rs.length by omega),show j<rs.length from by omega]
   ·rename_i fv k xs n hp
    obtain ⟨h0,rs,h1,h2,h3⟩:=h
    refine key rs (by simp [hp,Pr.np,h2]) (fun t2=>?_) h3
    simp only [ItOK,hg2,hp,EvP]
    refine ⟨?_,rs,?_,h2,fun j hj=>?_⟩
    ·rw [ev_congr (E:=Env.E (e++(rs++t2))) (E':=Env.E e) fun n hn=>(mem (rs++t2) n (by simp only [hp,Pr.ments,qma]; exact .inl hn)).symm]; exact h0
    ·rw [map_congr (E:=Env.E (e++(rs++t2))) (E':=Env.E e) fun n hn=>(mem (rs++t2) n (by simp only [hp,Pr.ments,qma]; exact .inr hn)).symm]; exact h1
    ·rw [E_new]
     simp [qgd,qgl (show j<rs.length by omega),show j<rs.length from by omega]
   ·rename_i n hp
    split at h
    ·rename_i d hd
     refine key [d,.g [.u]] (by simp [hp,Pr.np]) (fun t2=>?_) h
     simp only [ItOK,hg2,hp,EvP]
     refine ⟨?_,?_⟩
     ·rw [← mem ([d,.g [.u]]++t2) n (by simp [hp,Pr.ments]),hd]
      have:=E_new (e:=e) (t:=[d,.g [.u]]++t2) (j:=0)
      simp only [Nat.add_zero] at this
      rw [this]; rfl
     ·rw [E_new]; rfl
    ·exact h.elim
   ·rename_i n pp q hp
    split at h
    ·rename_i d hd
     obtain ⟨d1,d2⟩:=d
     refine key [d1,d2] (by simp [hp,Pr.np]) (fun t2=>?_) h
     simp only [ItOK,hg2,hp,EvP]
     have e0:=E_new (e:=e) (t:=[d1,d2]++t2) (j:=0)
     simp only [Nat.add_zero] at e0
     rw [e0,E_new,← mem ([d1,d2]++t2) n (by simp [hp,Pr.ments]),← pathE_congr (E:=Env.E e) fun n hn=>mem ([d1,d2]++t2) n (by simp only [hp,Pr.ments,qmn]; exact .inr hn),hd]
     rfl
    ·exact h.elim
   ·rename_i n hp
    split at h
    ·rename_i d hd
     obtain ⟨d1,d2⟩:=d
     refine key [d1,d2] (by simp [hp,Pr.np]) (fun t2=>?_) h
     simp only [ItOK,hg2,hp,EvP]
     have e0:=E_new (e:=e) (t:=[d1,d2]++t2) (j:=0)
     simp only [Nat.add_zero] at e0
     rw [e0,E_new,← mem ([d1,d2]++t2) n (by simp [hp,Pr.ments]),hd]
     rfl
    ·exact h.elim
   ·rename_i hp1 hp2 hp3 hp4 hp5 hp6
    have hone:it.p.np=1:=by
     cases hpp:it.p <;> first | rfl | (exact (hp1 hpp).elim) | (exact (hp2 _ _ _ hpp).elim) | (exact (hp3 _ _ _ _ hpp).elim) | (exact (hp4 _ hpp).elim) | (exact (hp5 _ _ _ hpp).elim) | (exact (hp6 _ hpp).elim)
    split at h
    ·rename_i d hd
     refine key [d] (by simp [hone]) (fun t2=>?_) h
     simp only [ItOK,hg2]
     have:evP (Env.E (e++([d]++t2))) it.p=some (Env.E (e++([d]++t2)) e.length):=by
      rw [← evP_congr (mem ([d]++t2)),hd]
      have:=E_new (e:=e) (t:=[d]++t2) (j:=0)
      simp only [Nat.add_zero] at this
      rw [this]; rfl
     cases hpp:it.p <;> first | (exact (hp1 hpp).elim) | (exact (hp2 _ _ _ hpp).elim) | (exact (hp3 _ _ _ _ hpp).elim) | (exact (hp4 _ hpp).elim) | (exact (hp5 _ _ _ hpp).elim) | (exact (hp6 _ hpp).elim) | (rw [hpp] at this; exact this)
    ·exact h.elim
  ·rename_i hg
   refine key (skE (Env.E e) it.z it.p.np) (skE_length _ _) (fun t2=>?_) h
   have hg2:gdE (Env.E (e++(skE (Env.E e) it.z it.p.np++t2))) it.g=some false:=by rw [gdE_congr (E':=Env.E e) fun x hx=>E_append (hm2 x hx)]; exact hg
   simp only [ItOK,hg2]
   intro j hj
   rw [E_new,skD_congr (E':=Env.E e) fun n hn=>E_append (hmz n hn)]
   rw [qgd,qgl (by rw [skE_length]; exact hj),skE_get _ _ _ hj]
   rfl
  ·exact h.elim
structure Sq where
 it:It
 sm:Sm
 g:Gd
def keepF (dst:Option Nat) (kill:List Nat):Fact→Bool
 | .en n _=>!kill.contains n
 | .sl t _=>some t != dst
def nextL (st:List Fact) (dst:Option Nat) (sm:Sm):List Fact:=sm.adds++st.filter (keepF dst sm.kill)
theorem mem_nextL {st:List Fact} {dst:Option Nat} {sm:Sm} {f:Fact}:f∈nextL st dst sm↔next (·∈st) dst sm f:=by
 unfold nextL next
 simp only [qma,List.mem_filter]
 constructor
 ·rintro (h | ⟨h1,h2⟩)
  ·exact .inr h
  ·left; refine ⟨h1,?_⟩
   cases f <;> simp [keepF] at h2 ⊢ <;> exact h2
 ·rintro (⟨h1,h2⟩ | h)
  ·right; refine ⟨h1,?_⟩
   cases f <;> simp [keepF] at h2 ⊢ <;> exact h2
  ·exact .inl h
def trGd (ops:Array Oper) (st:List Fact):Option (Nat×Bool)→Option (Gd×List Fact)
 | none=>some ([],[])
 | some (j,want)=>match (ops[j]?).bind (·.dst) with
  | some t=>match findSl st t with
   | some (.is n g)=>(findEn st n).map fun s=>(g++[(n,want)],[.sl t (.is n g),.en n s])
   | _=>none
  | none=>none
def Loc.gd:Loc→Gd
 | .is _ g=>g
 | .ad _ _ _ g=>g
 | .ip _ _ _ g=>g
 | .vc _ g=>g
 | .tu _ g=>g
 | .aw _ _ g=>g
 | .ia _ _ g=>g
 | .bx _ g=>g
 | .fv _ _ g=>g
 | .fb _ _ g=>g
 | .ag _ g=>g
 | .lh _ g=>g
 | .sa _ _ g=>g
def skOK (o:Oper) (g:Gd) (cnt np:Nat) (z:List (Option Nat)) (sm:Sm):Bool:=
 g.isEmpty || (decide ((zments z).Nodup)&&sm.adds.all fun
  | .en n s=>decide (cnt≤n∧n<cnt+np)&&(match z[n-cnt]? with
   | some (some m)=>sm.kill.contains m&&sm.needs.contains (.en m s)
   | _=>s.lst)
  | .sl t l=>decide (some t=o.dst∧l.gd=g) || (match l with
   | .is n gt=>decide (cnt≤n∧n<cnt+np)&&(match z[n-cnt]? with
    | some (some m)=>sm.needs.contains (.sl t (.is m gt))&&decide (some t≠o.dst)
    | _=>false)
   | _=>false))
def skZ (sg:Nat→Option Sg) (g:Gd):Pr→List (Option Nat)
 | .ca k xs _=>match sg k with
  | some s=>if g=[]∨s.io=[] then [] else List.replicate s.qs.length none++s.io.map fun i=>match xs[i]? with
   | some (.e n)=>some n
   | _=>none
  | none=>[]
 | _=>[]
def fzF:Fact→Fact
 | .en n _=>.en n .v
 | f=>f
def fzSm (k:Nat) (sm:Sm):Sm:=if 1000≤k then { sm with adds:=sm.adds.map fzF } else sm
def fzOK (k:Nat) (g:Gd) (cnt np:Nat) (sm:Sm):Bool:=decide (k<1000) || (g.isEmpty&&sm.adds.all fun
 | .en n s=>decide (cnt≤n∧n<cnt+np)&&s.okF
 | _=>true)
def fxOK (fx:List Nat) (dst:Option Nat):Bool:=match dst with | some t=>!fx.contains t | none=>true
def trIt0 (cf:CF) (sg:Nat→Option Sg) (ops:Array Oper) (st:List Fact) (cnt:Nat) (o:Oper) (k:Nat):Option Sq:=
 (trGd ops st o.guard).bind fun gn=>(trOpF cf sg st cnt o gn.1 k).bind fun ps=>
  if skOK o gn.1 cnt ps.1.np (skZ sg gn.1 ps.1) ps.2=true∧inB o.dst cf.nt=true∧fxOK cf.fx o.dst=true∧fzOK k gn.1 cnt ps.1.np ps.2=true then
   some ⟨{ z:=skZ sg gn.1 ps.1,g:=gn.1,p:=ps.1 },{ fzSm k ps.2 with needs:=gn.2++ps.2.needs },gn.1⟩
  else none
def isNop:Pr→Bool
 | .nop=>true
 | _=>false
def trIt (cf:CF) (sg:Nat→Option Sg) (ops:Array Oper) (st:List Fact) (cnt:Nat) (o:Oper) (k:Nat):Option Sq:=
 if 2000000≤k then (trIt0 cf sg ops st cnt o 0).bind fun q=>(trGh (nextL st o.dst q.sm) cnt (k-2000000)).bind fun ps=>
  if isNop q.it.p=true∧q.it.g.isEmpty=true∧(ps.2.needs.all fun f=>q.sm.adds.contains f || keepF o.dst q.sm.kill f)=true∧(q.sm.adds.all fun f=>f.ments.all fun n=>decide (n<cnt))=true then
   some ⟨{ p:=ps.1 },⟨q.sm.needs++ps.2.needs.filter (fun f=>!q.sm.adds.contains f),q.sm.kill++ps.2.kill,ps.2.adds++q.sm.adds.filter (keepF none ps.2.kill)⟩,[]⟩
  else none
 else trIt0 cf sg ops st cnt o k
theorem gdE_true {E:Nat→D}:∀ {g:Gd},gdE E g=some true↔gdOK E g
 | []=>by simp [gdE,gdOK]
 | (n,b)::g=>by
  simp only [gdE]
  have ih:=gdE_true (E:=E) (g:=g)
  constructor
  ·intro h
   split at h
   ·rename_i x hx
    split at h
    ·rename_i hxb
     intro y hy
     rcases qmn.1 hy with rfl | hy
     ·rw [hx,hxb]
     ·exact ih.1 h y hy
    ·simp at h
   ·simp at h
  ·intro h
   have h1:=h (n,b) (by simp)
   simp only at h1
   simp only [h1,if_true]
   exact ih.2 fun x hx=>h x (by simp [hx])
theorem gdE_snoc {E:Nat→D} {n:Nat} {b:Bool}:∀ {g:Gd},gdE E (g++[(n,b)])=some false→¬ gdOK E g∨(gdOK E g∧E n=.b (!b))
 | []=>by
  simp only [List.nil_append,gdE]
  intro h
  split at h
  ·rename_i x hx
   split at h
   ·simp at h
   ·rename_i hxb
    right
    refine ⟨by simp [gdOK],?_⟩
    rw [hx]; cases x <;> cases b <;> simp at hxb ⊢
  ·simp at h
 | (m,c)::g=>by
  simp only [List.cons_append,gdE]
  intro h
  split at h
  ·rename_i x hx
   split at h
   ·rename_i hxc
    rcases gdE_snoc (g:=g) h with h2 | ⟨h2,h3⟩
    ·left; intro q; exact h2 fun y hy=>q y (by simp [hy])
    ·right
     refine ⟨fun y hy=>?_,h3⟩
     rcases qmn.1 hy with rfl | hy
     ·rw [hx,hxc]
     ·exact h2 y hy
   ·rename_i hxc
    left
    intro q
    have:=q (m,c) (by simp)
    simp only at this
    rw [hx] at this
    injection this with this
    exact hxc this
  ·simp at h
section
variable {cf:CF} {sg:Nat→Option Sg} {c:Cx} {F:Fact→Prop} {E:Nat→D} {a:Act} {w:World} {vs:Nat→Value} {Bs:Nat→List Nat} {cnt:Nat} {sm:Sm} {st:List Fact} {o:Oper}
 {K:Nat→List D→List D→Prop} {ops:Array Oper}
theorem trGd_sound {og:Option (Nat×Bool)} {g:Gd} {ns:List Fact} (h:trGd ops st og=some (g,ns)) (ho:o.guard=og) (H:HoldsG c F E a w vs Bs) (hn:∀ f∈ns,F f):
  (gdE E g=some true→Region.wanted o (yielded ops a.tmps)=true)∧(gdE E g=some false→Region.wanted o (yielded ops a.tmps)=false):=by
 cases og with
 | none=>
  simp only [trGd,qsj,qpj] at h
  obtain ⟨rfl,rfl⟩:=h
  exact ⟨fun _=>by simp [Region.wanted,ho],fun h=>by simp [gdE] at h⟩
 | some jw=>
  obtain ⟨j,want⟩:=jw
  simp only [trGd] at h
  split at h
  ·rename_i t ht
   split at h
   ·rename_i n g0 hl
    simp only [qms,qpj] at h
    obtain ⟨s,hs,rfl,rfl⟩:=h
    have f1:=H.loc t _ (hn (.sl t (.is n g0)) (by simp))
    have f2:=H.own n s (hn (.en n s) (by simp))
    have hy:yielded ops a.tmps j=match a.tmps[t]? with | some (.bool b)=>some b | _=>none:=by
     unfold yielded
     rw [ht]
     simp only [Option.bind_some]
     rfl
    constructor
    ·intro hg
     have hg':=gdE_true.1 hg
     have e1:=f1.1 fun x hx=>hg' x (qal _ hx)
     have e2:E n=.b want:=hg' (n,want) (by simp)
     rw [e2] at f2
     rw [f2.bool] at e1
     simp [Region.wanted,ho,hy,e1]
    ·intro hg
     rcases gdE_snoc hg with h1 | ⟨h1,h2⟩
     ·have e1:=f1.2 h1
      simp [Region.wanted,ho,hy,e1,undef]
     ·have e1:=f1.1 h1
      rw [h2] at f2
      rw [f2.bool] at e1
      simp [Region.wanted,ho,hy,e1]
   ·simp at h
  ·simp at h
theorem zinj:∀ {z:List (Option Nat)} {i j m:Nat},(zments z).Nodup→z[i]?=some (some m)→z[j]?=some (some m)→i=j
 | [],_,_,_,_,h,_=>by simp at h
 | x::z,i,j,m,hn,h1,h2=>by
  have tl:(zments z).Nodup:=by
   cases x with
   | none=>simpa [zments] using hn
   | some k=>simp only [zments,List.filterMap_cons,id] at hn; exact (List.nodup_cons.1 hn).2
  have hin:∀ j,z[j]?=some (some m)→m∈zments z:=fun j h=>List.mem_filterMap.2 ⟨some m,List.mem_of_getElem? h,rfl⟩
  cases i with
  | zero=>
   cases j with
   | zero=>rfl
   | succ j=>
    simp at h1 h2
    subst h1
    simp only [zments,List.filterMap_cons,id] at hn
    exact ((List.nodup_cons.1 hn).1 (hin j h2)).elim
  | succ i=>
   cases j with
   | zero=>
    simp at h1 h2
    subst h2
    simp only [zments,List.filterMap_cons,id] at hn
    exact ((List.nodup_cons.1 hn).1 (hin i h1)).elim
   | succ j=>
    have:=zinj (i:=i) (j:=j) (m:=m) tl (by simpa using h1) (by simpa using h2)
    omega
theorem skip_sound {g:Gd} {np:Nat} {z:List (Option Nat)} (H:HoldsG c F E a w vs Bs) (hsk:skOK o g cnt np z sm=true) (hg:gdE E g=some false) (hfr:∀ j,j<np→Fresh F (cnt+j)) (hu:∀ j,j<np→E (cnt+j)=skD E z j)
  (hin:inB o.dst c.nt=true) (hneeds:∀ f∈sm.needs,F f):HoldsX c (next F o.dst sm) E (a.put o.dst undef) w:=by
 have hng:¬ gdOK E g:=fun q=>by rw [gdE_true.2 q] at hg; simp at hg
 have hne:g≠[]:=by rintro rfl; simp [gdE] at hg
 unfold skOK at hsk
 simp only [Bool.or_eq_true,List.isEmpty_iff,hne,false_or,qba,qde,qat] at hsk
 obtain ⟨hzn,hsk⟩:=hsk
 -- what entry n comes from
 let src:Nat→Option Nat:=fun n=>match z[n-cnt]? with
  | some (some m)=>some m
  | _=>none
 have hent:∀ n s,Fact.en n s∈sm.adds→(cnt≤n∧n<cnt+np)∧((∃ m,src n=some m∧m∈sm.kill∧F (.en m s))∨(src n=none∧s.lst=true)):=by
  intro n s hf
  have:=hsk _ hf
  simp only [qba,qde] at this
  obtain ⟨q1,q2⟩:=this
  refine ⟨q1,?_⟩
  split at q2
  ·rename_i m hm
   simp only [qba,List.contains_eq_mem,qde] at q2
   exact .inl ⟨m,by simp [src,hm],q2.1,hneeds _ q2.2⟩
  ·rename_i hm
   refine .inr ⟨?_,q2⟩
   simp only [src]
 have hsrc:∀ n,cnt≤n∧n<cnt+np→E n=match src n with | some m=>E m | none=>.u:=by
  intro n hn
  have:=hu (n-cnt) (by omega)
  rw [show cnt+(n-cnt)=n from by omega] at this
  rw [this]
  simp only [skD,src]
  split <;> rfl
 have hinj:∀ n n' m,src n=some m→src n'=some m→cnt≤n→cnt≤n'→n=n':=by
  intro n n' m h1 h2 h3 h4
  simp only [src] at h1 h2
  split at h1
  ·rename_i m1 e1
   split at h2
   ·rename_i m2 e2
    injection h1 with h1
    injection h2 with h2
    subst h1 h2
    have:=zinj hzn e1 e2
    omega
   ·cases h2
  ·cases h1
 have hfe:∀ n r,(cnt≤n∧n<cnt+np)→next F o.dst sm (.en n r)→Fact.en n r∈sm.adds:=by
  rintro n r hn (⟨h1,_⟩ | h)
  ·have:=(hfr (n-cnt) (by omega)).1 r
   rw [show cnt+(n-cnt)=n from by omega] at this
   exact (this h1).elim
  ·exact h
 let mk:Nat→Bool:=fun n=>sm.adds.any fun f=>match f with | .en n' _=>n' == n | _=>false
 have hmk:∀ n,mk n=true→∃ s,Fact.en n s∈sm.adds:=by
  intro n hn
  obtain ⟨f,h1,h2⟩:=List.any_eq_true.1 hn
  cases f with
  | en n' s=>simp only [beq_iff_eq] at h2; subst h2; exact ⟨s,h1⟩
  | sl t l=>simp at h2
 have hmk2:∀ n s,Fact.en n s∈sm.adds→mk n=true:=fun n s h=>List.any_eq_true.2 ⟨_,h,by simp⟩
 let V:Nat→Value:=fun n=>if cnt≤n∧n<cnt+np then (match src n with | some m=>vs m | none=>undef) else vs n
 let W:Nat→List Nat:=fun n=>if cnt≤n∧n<cnt+np then (if mk n=true then (match src n with | some m=>Bs m | none=>[]) else []) else Bs n
 have hold:∀ m s,F (.en m s)→¬ (cnt≤m∧m<cnt+np):=by
  intro m s hm hn
  have:=(hfr (m-cnt) (by omega)).1 s
  rw [show cnt+(m-cnt)=m from by omega] at this
  exact this hm
 -- the blocks of what is made
 have hW:∀ n,(cnt≤n∧n<cnt+np)→∀ b∈W n,∃ m s,src n=some m∧m∈sm.kill∧F (.en m s)∧b∈Bs m:=by
  intro n hn b hb
  simp only [W,if_pos hn] at hb
  split at hb
  ·rename_i hk
   obtain ⟨s,hs⟩:=hmk n hk
   rcases (hent n s hs).2 with ⟨m,e1,e2,e3⟩ | ⟨e1,_⟩
   ·rw [e1] at hb
    exact ⟨m,s,e1,e2,e3,hb⟩
   ·rw [e1] at hb; simp at hb
  ·simp at hb
 let A0:List Fact:=sm.adds.filter fun f=>match f with | .sl t _=>decide (some t=o.dst) | _=>true
 have hA0en:∀ n s,Fact.en n s∈A0↔Fact.en n s∈sm.adds:=by
  intro n s; simp [A0]
 have hadds:∀ n r,(cnt≤n∧n<cnt+np)→next F o.dst ⟨[],sm.kill,A0⟩ (.en n r)→Fact.en n r∈sm.adds:=by
  rintro n r hn (⟨h1,_⟩ | h)
  ·exact (hold n r h1 hn).elim
  ·exact (hA0en n r).1 h
 have H1:HoldsG c (next F o.dst ⟨[],sm.kill,A0⟩) E (a.put o.dst undef) w V W:=by
  refine HoldsG.step (fun n=>cnt≤n∧n<cnt+np) (fun n=>n∈sm.kill) (fun _=>False) o.dst H (fun n hn=>if_neg hn) (fun n hn=>if_neg hn)
   (fun t l hl n hn q=>by
    have:=(hfr (n-cnt) (by omega)).2 t l hl
    rw [show cnt+(n-cnt)=n from by omega] at this
    exact this hn)
   (fun _ q=>q.elim) (Agr.refl _ _) rfl rfl rfl (fun t ht=>put_get ht) put_size put_defers ?_ ?_ ?_ ?_ ?_ ?_
  ·rintro f (⟨h1,h2⟩ | h)
   ·left; refine ⟨h1,?_⟩; cases f <;> exact h2
   ·cases f with
    | en n s=>exact .inr (hent n s ((hA0en n s).1 h)).1
    | sl t l=>
     right
     have:=(List.mem_filter.1 h).2
     simpa using this
  ·rintro n r hn hf
   have hf':=hadds n r hn hf
   rw [hsrc n hn]
   simp only [V,W,if_pos hn,hmk2 n r hf',if_true]
   rcases (hent n r hf').2 with ⟨m,e1,e2,e3⟩ | ⟨e1,e2⟩
   ·rw [e1]
    refine Own.ext (Agr.refl (fun _=>False) _) (fun _ _ q=>q.elim) ?_ _ _ _ _ (fun _ _ q=>q) (H.own m r e3)
    rintro b _ (⟨n1,s1,q1,_,q3⟩ | ⟨n1,q1,q2⟩)
    ·exact ⟨n1,s1,q1,q3⟩
    ·obtain ⟨m2,s2,_,_,q3,q4⟩:=hW n1 q1 b q2
     exact ⟨m2,s2,q3,q4⟩
   ·rw [e1]
    cases r <;> simp [Own,Rd,Sh.lst] at e2 ⊢
  ·rintro n r hn hf
   have hf':=hadds n r hn hf
   simp only [W,if_pos hn,hmk2 n r hf',if_true]
   rcases (hent n r hf').2 with ⟨m,e1,e2,e3⟩ | ⟨e1,e2⟩
   ·rw [e1]; exact H.nodup m r e3
   ·rw [e1]; exact List.nodup_nil
  ·rintro n r hn _ b hb
   obtain ⟨m,s,_,q2,q3,q4⟩:=hW n hn b hb
   exact .inl ⟨m,s,q3,q2,q4⟩
  ·rintro n r m q hn hm _ _ hne b hb hb2
   obtain ⟨m1,s1,p1,p2,p3,p4⟩:=hW n hn b hb
   obtain ⟨m2,s2,r1,r2,r3,r4⟩:=hW m hm b hb2
   by_cases he:m1=m2
   ·subst he; exact hne (hinj n m m1 p1 r1 hn.1 hm.1)
   ·exact H.apart m1 s1 m2 s2 p3 r3 he b p4 r4
  ·rintro t l ht hf
   rcases hf with ⟨_,h2⟩ | h
   ·exact (h2 ht).elim
   ·have:=hsk _ (List.mem_filter.1 h).1
    simp only [Bool.or_eq_true,qde] at this
    have hgl:l.gd=g:=by
     rcases this with q | q
     ·exact q.2
     ·exfalso
      cases l with
      | is n gt=>
       simp only [qba] at q
       obtain ⟨_,q⟩:=q
       split at q
       ·simp only [qba,qde] at q; exact q.2 ht
       ·cases q
      | _=>simp at q
    have hput:(a.put o.dst undef).tmps[t]?=some undef:=by
     rw [← ht]; exact put_self (by rw [H.size]; rw [← ht] at hin; simpa [inB] using hin)
    cases l with
    | is n g'=>
     simp only [Loc.gd] at hgl; subst hgl
     exact ⟨fun q=>(hng q).elim,fun _=>hput⟩
    | vc n g'=>simp only [Loc.gd] at hgl; subst hgl; exact fun q=>(hng q).elim
    | ad r p m g'=>simp only [Loc.gd] at hgl; subst hgl; exact fun q=>(hng q).elim
    | ip r p m g'=>simp only [Loc.gd] at hgl; subst hgl; exact fun q=>(hng q).elim
    | tu ns g'=>simp only [Loc.gd] at hgl; subst hgl; exact fun q=>(hng q).elim
    | aw r p g'=>simp only [Loc.gd] at hgl; subst hgl; exact fun q=>(hng q).elim
    | ia r m g'=>simp only [Loc.gd] at hgl; subst hgl; exact fun q=>(hng q).elim
    | bx n g'=>simp only [Loc.gd] at hgl; subst hgl; exact fun q=>(hng q).elim
    | ag r g'=>simp only [Loc.gd] at hgl; subst hgl; exact fun q=>(hng q).elim
    | lh r g'=>simp only [Loc.gd] at hgl; subst hgl; exact fun q=>(hng q).elim
    | sa r e g'=>simp only [Loc.gd] at hgl; subst hgl; exact fun q=>(hng q).elim
    | fv f ns g'=>simp only [Loc.gd] at hgl; subst hgl; exact fun q=>(hng q).elim
    | fb f ns g'=>simp only [Loc.gd] at hgl; subst hgl; exact fun q=>(hng q).elim
 refine ⟨V,W,H1.more ?_ ?_⟩
 ·intro n s
  simp only [next,hA0en]
 ·intro t l hf
  rcases hf with ⟨q1,q2⟩ | q
  ·exact .inl (.inl ⟨q1,q2⟩)
  ·by_cases ht:some t=o.dst
   ·exact .inl (.inr (List.mem_filter.2 ⟨q,by simpa using ht⟩))
   ·have:=hsk _ q
    simp only [Bool.or_eq_true,qde] at this
    rcases this with q' | q'
    ·exact (ht q'.1).elim
    ·cases l with
     | is n gt=>
      simp only [qba,qde] at q'
      obtain ⟨hn,q'⟩:=q'
      split at q'
      ·rename_i m hm
       simp only [qba,List.contains_eq_mem,qde] at q'
       have hsn:src n=some m:=by simp only [src,hm]
       have hmF:=hneeds _ q'.1
       right
       have hnew:¬ (cnt≤m∧m<cnt+np):=by
        intro hm'
        have:=(hfr (m-cnt) (by omega)).2 t _ hmF
        rw [show cnt+(m-cnt)=m from by omega] at this
        exact this (by simp [Loc.ments])
       refine ⟨n,gt,m,rfl,.inl ⟨hmF,ht⟩,?_⟩
       simp only [V,if_pos hn,hsn,if_neg hnew]
      ·cases q'
     | _=>simp at q'
theorem freeze_sound {a':Act} {w':World} {k:Nat} {g:Gd} {np:Nat} {sm:Sm} (hk:fzOK k g cnt np sm=true) (hfr:∀ j,j<np→Fresh F (cnt+j)) (H:HoldsX c (next F o.dst sm) E a' w'):
  HoldsX c (next F o.dst (fzSm k sm)) E a' w':=by
 unfold fzSm
 split
 ·rename_i h1000
  unfold fzOK at hk
  simp only [Bool.or_eq_true,qde,qba,List.isEmpty_iff,qat] at hk
  rcases hk with hk | ⟨_,hk⟩
  ·omega
  obtain ⟨vs,Bs,H⟩:=H
  have hold:∀ m s,F (.en m s)→¬ (cnt≤m∧m<cnt+np):=by
   intro m s hm hn
   have:=(hfr (m-cnt) (by omega)).1 s
   rw [show cnt+(m-cnt)=m from by omega] at this
   exact this hm
  have hadd:∀ n s,Fact.en n s∈sm.adds→(cnt≤n∧n<cnt+np)∧s.okF=true:=by
   intro n s h
   have:=hk _ h
   simpa only [qba,qde] using this
  let W:Nat→List Nat:=fun n=>if cnt≤n∧n<cnt+np then [] else Bs n
  -- each entry that is known now was known before
  have hen:∀ n s,next F o.dst { sm with adds:=sm.adds.map fzF } (.en n s)→(¬ (cnt≤n∧n<cnt+np)∧next F o.dst sm (.en n s)∧W n=Bs n)∨((cnt≤n∧n<cnt+np)∧s=.v∧∃ s',next F o.dst sm (.en n s')∧s'.okF=true):=by
   rintro n s (⟨h1,h2⟩ | h)
   ·have:=hold n s h1
    exact .inl ⟨this,.inl ⟨h1,h2⟩,if_neg this⟩
   ·obtain ⟨f,hf,he⟩:=List.mem_map.1 h
    cases f with
    | en n' s'=>
     simp only [fzF] at he
     injection he with e1 e2
     subst e1 e2
     obtain ⟨q1,q2⟩:=hadd n' s' hf
     exact .inr ⟨q1,rfl,s',.inr hf,q2⟩
    | sl t l=>simp [fzF] at he
  have hO:∀ b,OB (next F o.dst { sm with adds:=sm.adds.map fzF }) W b→OB (next F o.dst sm) Bs b∧∃ n s,¬ (cnt≤n∧n<cnt+np)∧next F o.dst sm (.en n s)∧b∈Bs n:=by
   rintro b ⟨n,s,h1,h2⟩
   rcases hen n s h1 with ⟨q1,q2,q3⟩ | ⟨q1,_,_⟩
   ·rw [q3] at h2
    exact ⟨⟨n,s,q2,h2⟩,n,s,q1,q2,h2⟩
   ·simp only [W,if_pos q1] at h2; simp at h2
  have hal:∀ n,alive (next F o.dst { sm with adds:=sm.adds.map fzF }) n→alive (next F o.dst sm) n:=by
   rintro n ⟨s,h⟩
   rcases hen n s h with ⟨_,q2,_⟩ | ⟨_,_,s',q,_⟩
   ·exact ⟨s,q2⟩
   ·exact ⟨s',q⟩
  refine ⟨vs,W,?_,?_,?_,?_,?_,H.agr,H.os,H.tape,H.output,H.defers,H.size⟩
  ·intro n s hf
   rcases hen n s hf with ⟨q1,q2,q3⟩ | ⟨q1,rfl,s',q2,q3⟩
   ·rw [q3]
    exact Own.ext (Agr.refl (fun _=>False) _) (fun _ _ q=>q.elim) (fun b _ hb=>(hO b hb).1) _ _ _ _ (fun _ _ q=>q) (H.own n s q2)
   ·simp only [W,if_pos q1]
    simp only [Own]
    refine ⟨trivial,Own.freeze (fun b _ q=>q.imp (fun q=>(hO b q).1) id) s' _ _ _ q3 ?_ (H.own n s' q2)⟩
    rintro b hb (q | q)
    ·obtain ⟨_,m,s2,z1,z2,z3⟩:=hO b q
     exact H.apart n s' m s2 q2 z2 (fun e=>z1 (e ▸ q1)) b hb z3
    ·have:=c.hX b q
     rcases H.mine n s' q2 b hb with r | r
     ·omega
     ·exact this.2 r
  ·intro n s hf
   rcases hen n s hf with ⟨q1,q2,q3⟩ | ⟨q1,rfl,s',q2,q3⟩
   ·rw [q3]; exact H.nodup n s q2
   ·simp only [W,if_pos q1]; exact List.nodup_nil
  ·intro n s hf b hb
   obtain ⟨⟨n',s',h1,h2⟩,_⟩:=hO b ⟨n,s,hf,hb⟩
   exact H.mine n' s' h1 b h2
  ·intro n s m r hf hg hne b hb hb2
   rcases hen n s hf with ⟨q1,q2,q3⟩ | ⟨q1,_,_⟩
   ·rcases hen m r hg with ⟨p1,p2,p3⟩ | ⟨p1,_,_⟩
    ·rw [q3] at hb; rw [p3] at hb2
     exact H.apart n s m r q2 p2 hne b hb hb2
    ·simp only [W,if_pos p1] at hb2; simp at hb2
   ·simp only [W,if_pos q1] at hb; simp at hb
  ·intro t l hf
   have hf':next F o.dst sm (.sl t l):=by
    rcases hf with q | q
    ·exact .inl q
    ·obtain ⟨f,h1,he⟩:=List.mem_map.1 q
     cases f with
     | en n s=>simp [fzF] at he
     | sl t' l'=>simp only [fzF] at he; rw [← he]; exact .inr h1
   have:=H.loc t l hf'
   cases l with
   | is n g=>exact this
   | vc n g=>
    intro hg
    obtain ⟨b,o,cs,e,fz,k1,k2,k3,k4⟩:=this hg
    exact ⟨b,o,cs,e,fz,k1,k2,k3,fun q=>k4 (hO b q).1⟩
   | ad r p m g=>exact fun hg ha=>this hg (hal _ ha)
   | ip r p m g=>exact fun hg ha=>this hg (hal _ ha)
   | tu ns g=>exact this
   | aw r p g=>exact fun hg ha=>this hg (hal _ ha)
   | ia r m g=>exact fun hg ha=>this hg (hal _ ha)
   | bx n g=>
    intro hg
    obtain ⟨b,cs,e,fz,k1,k2,k3,k4⟩:=this hg
    exact ⟨b,cs,e,fz,k1,k2,k3,fun q=>k4 (hO b q).1⟩
   | ag r g=>exact fun hg ha=>this hg (hal _ ha)
   | lh n g=>exact this
   | sa n e g=>exact this
   | fv f ns g=>exact this
   | fb f ns g=>
    intro hg
    obtain ⟨b,cs,e,fz,k1,k2,k3,k4⟩:=this hg
    exact ⟨b,cs,e,fz,k1,k2,k3,fun q=>k4 (hO b q).1⟩
 ·exact H
theorem fxOK_spec {fx:List Nat} {dst:Option Nat} (h:fxOK fx dst=true):∀ t∈fx,some t≠dst:=by
 rintro t ht rfl
 simp [fxOK,ht] at h
theorem item_sound0 (hs:Sound cf sg K) (hc:cf.Fits c) {k:Nat} {q:Sq} (ht:trIt0 cf sg ops st cnt o k=some q) (H:Holds c F E a w) (hfr:∀ j,j<q.it.p.np→Fresh F (cnt+j)) (hn:∀ f∈q.sm.needs,F f)
  (hE:ItOK K E cnt q.it) {i:Nat} (hi:ops[i]?=some o) {Kn:Act→World→Prop} {Q:Exit→Act→World→Prop} (hk:∀ a' w',Holds c (next F o.dst q.sm) E a' w'→Kn a' w'):
  wpOp c.P ops Q i Kn a w:=by
 obtain ⟨⟨vs,Bs,H⟩,hfix⟩:=H
 unfold trIt0 at ht
 simp only [qbs] at ht
 obtain ⟨⟨g,ns⟩,h1,⟨p,sm⟩,h2,ht⟩:=ht
 simp only at ht
 split at ht
 ·rename_i hsk
  simp only [qsj] at ht
  subst ht
  simp only at hn hE hk
  obtain ⟨w1,w2⟩:=trGd_sound h1 rfl H fun f hf=>hn f (qal _ hf)
  unfold ItOK at hE
  simp only at hE
  unfold wpOp
  rw [hi]
  simp only
  split at hE
  ·rename_i hg
   rw [if_pos (w1 hg)]
   left
   have hx:=fxOK_spec hsk.2.2.1
   refine wp_frame (trOpF_sound hs h2 ⟨hc,H,hfr,fun f hf=>hn f (qar _ hf),gdE_true.1 hg,hfix⟩ hE _ Q fun _ _ h=>h) fun a' w' h1 h2=>hk a' w' ⟨freeze_sound hsk.2.2.2 hfr h1,fun x hx'=>?_⟩
   rw [h2 x.1 (hx _ (hc.fx x hx'))]
   exact hfix x hx'
  ·rename_i hg
   rw [if_neg (by rw [w2 hg]; simp)]
   refine hk _ _ ⟨freeze_sound hsk.2.2.2 hfr (skip_sound H hsk.1 hg hfr hE (by rw [hc.nt]; exact hsk.2.1) (fun f hf=>hn f (qar _ hf))),fun x hx'=>?_⟩
   rw [put_get (fxOK_spec hsk.2.2.1 _ (hc.fx x hx'))]
   exact hfix x hx'
  ·exact hE.elim
 ·simp at ht
theorem keepF_app {dst:Option Nat} {k1 k2:List Nat} {f:Fact}:keepF dst (k1++k2) f=true↔keepF dst k1 f=true∧keepF none k2 f=true:=by
 cases f with
 | en n s=>simp [keepF]
 | sl t l=>simp [keepF]
theorem next_keep {F:Fact→Prop} {dst:Option Nat} {sm:Sm} {f:Fact}:next F dst sm f↔(F f∧keepF dst sm.kill f=true)∨f∈sm.adds:=by
 unfold next
 cases f with
 | en n s=>simp [keepF]
 | sl t l=>simp [keepF]
theorem item_sound (hs:Sound cf sg K) (hc:cf.Fits c) {k:Nat} {q:Sq} (ht:trIt cf sg ops st cnt o k=some q) (H:Holds c F E a w) (hfr:∀ j,j<q.it.p.np→Fresh F (cnt+j)) (hn:∀ f∈q.sm.needs,F f)
  (hE:ItOK K E cnt q.it) {i:Nat} (hi:ops[i]?=some o) {Kn:Act→World→Prop} {Q:Exit→Act→World→Prop} (hk:∀ a' w',Holds c (next F o.dst q.sm) E a' w'→Kn a' w'):
  wpOp c.P ops Q i Kn a w:=by
 unfold trIt at ht
 split at ht
 ·simp only [qbs] at ht
  obtain ⟨q1,h1,⟨p2,sm2⟩,h2,ht⟩:=ht
  simp only at ht
  split at ht
  ·rename_i hc4
   obtain ⟨c1,c2,c3,c4⟩:=hc4
   simp only [qsj] at ht
   subst ht
   simp only at hn hE hk hfr
   obtain ⟨⟨z1,g1,p1⟩,sm1,g1'⟩:=q1
   simp only at c1 c2 c3 c4 hn hk h2
   cases p1 <;> simp only [isNop] at c1 <;> try cases c1
   have hg:g1=[]:=by simpa using c2
   subst hg
   have hE2:EvP K E cnt p2:=by simpa [ItOK,gdE] using hE
   refine item_sound0 hs hc h1 H (fun j hj=>absurd hj (by simp [Pr.np])) (fun f hf=>hn f (qal _ hf)) (by simp [ItOK,gdE,EvP]) hi fun a' w' H'=>hk a' w' ?_
   obtain ⟨⟨vs',Bs',H1⟩,hfix⟩:=H'
   have hn2:∀ f∈sm2.needs,next F o.dst sm1 f:=by
    intro f hf
    rw [next_keep]
    by_cases hfa:f∈sm1.adds
    ·exact .inr hfa
    ·refine .inl ⟨hn f (qar _ (List.mem_filter.2 ⟨hf,by simpa using hfa⟩)),?_⟩
     have:=qat.1 c3 f hf
     simp only [Bool.or_eq_true,List.contains_iff_mem] at this
     exact this.resolve_left hfa
   have hfr2:∀ j,j<p2.np→Fresh (next F o.dst sm1) (cnt+j):=by
    intro j hj
    have hf:=hfr j hj
    have key:∀ f,next F o.dst sm1 f→cnt+j∈f.ments→F f:=by
     intro f hnx hm
     rcases next_keep.1 hnx with q | q
     ·exact q.1
     ·have:=qat.1 (qat.1 c4 f q) _ hm
      have:cnt+j<cnt:=by simpa using this
      omega
    refine ⟨fun s q=>hf.1 s (key _ q (by simp [Fact.ments])),fun t l q hm=>hf.2 t l (key _ q (by simpa [Fact.ments] using hm)) hm⟩
   have hx:=gh_sound h2 H1 hfr2 hn2 hE2
   refine ⟨hx.weak fun f hf=>?_,hfix⟩
   rw [next_keep] at hf
   rw [next_keep,next_keep]
   rcases hf with ⟨q1,q2⟩ | q
   ·obtain ⟨q3,q4⟩:=keepF_app.1 q2
    exact .inl ⟨.inl ⟨q1,q3⟩,q4⟩
   ·rcases qma.1 q with q | q
    ·exact .inr q
    ·obtain ⟨q1,q2⟩:=List.mem_filter.1 q
     exact .inl ⟨.inr q1,q2⟩
  ·cases ht
 ·exact item_sound0 hs hc ht H hfr hn hE hi hk
end
end Go.Cat
namespace Go.Cat
def bdOK (st:List Fact) (cnt:Nat):Bool:=st.all fun f=>f.ments.all fun n=>decide (n<cnt)
def subL (a b:List Fact):Bool:=a.all fun f=>b.contains f
def trSeq (cf:CF) (sg:Nat→Option Sg) (ops:Array Oper):List Oper→List Fact→Nat→List Nat→Option (List Sq×List Fact×Nat)
 | [],st,cnt,_=>some ([],st,cnt)
 | o::os,st,cnt,hs=>(trIt cf sg ops st cnt o (hs.headD 0)).bind fun q=>
  if subL q.sm.needs st=true∧bdOK st cnt=true then
   (trSeq cf sg ops os (nextL st o.dst q.sm) (cnt+q.it.p.np) hs.tail).map fun r=>(q::r.1,r.2)
  else none
theorem subL_mem {a b:List Fact} (h:subL a b=true):∀ f∈a,f∈b:=by
 intro f hf
 simp only [subL,qat,List.contains_eq_mem,qde] at h
 exact h f hf
theorem bdOK_fresh {st:List Fact} {cnt:Nat} (h:bdOK st cnt=true) {m:Nat} (hm:cnt≤m):Fresh (·∈st) m:=by
 simp only [bdOK,qat,qde] at h
 constructor
 ·intro s hf
  have:=h _ hf m (by simp [Fact.ments])
  omega
 ·intro t l hf hn
  have:=h _ hf m (by simpa [Fact.ments] using hn)
  omega
theorem ItsOK.split {K:Nat→List D→List D→Prop} {E:Nat→D}:∀ {x y:List It} {cnt:Nat},ItsOK K E cnt (x++y)→ItsOK K E cnt x∧ItsOK K E (cnt+nps x) y
 | [],y,cnt,h=>⟨trivial,by simpa [nps] using h⟩
 | it::x,y,cnt,h=>by
  simp only [List.cons_append,ItsOK] at h ⊢
  obtain ⟨q1,q2⟩:=ItsOK.split h.2
  refine ⟨⟨h.1,q1⟩,?_⟩
  simpa [nps,Nat.add_assoc] using q2
theorem trSeq_cnt {cf:CF} {sg:Nat→Option Sg} {ops:Array Oper}:∀ {os:List Oper} {st:List Fact} {cnt:Nat} {hs:List Nat} {r:List Sq} {st':List Fact} {cnt':Nat},trSeq cf sg ops os st cnt hs=some (r,st',cnt')→cnt'=cnt+nps (r.map (·.it))
 | [],st,cnt,hs,r,st',cnt',h=>by
  simp only [trSeq,qsj,qpj] at h
  obtain ⟨rfl,rfl,rfl⟩:=h
  simp [nps]
 | o::os,st,cnt,hs,r,st',cnt',h=>by
  simp only [trSeq,qbs] at h
  obtain ⟨q,h1,h⟩:=h
  split at h
  ·simp only [qms,qpj] at h
   obtain ⟨⟨r2,st2,c2⟩,h2,rfl,h3⟩:=h
   simp only [qpj] at h3
   obtain ⟨rfl,rfl⟩:=h3
   have:=trSeq_cnt h2
   simp only [List.map_cons,nps]
   omega
  ·cases h
section
variable {cf:CF} {sg:Nat→Option Sg} {c:Cx} {E:Nat→D} {K:Nat→List D→List D→Prop} {ops:Array Oper}
theorem seq_sound (hs:Sound cf sg K) (hc:cf.Fits c) {Q:Exit→Act→World→Prop}:∀ (os:List Oper) (i:Nat) (st:List Fact) (cnt:Nat) (hh:List Nat) (r:List Sq) (st':List Fact) (cnt':Nat),
  trSeq cf sg ops os st cnt hh=some (r,st',cnt')→(∀ j o,os[j]?=some o→ops[i+j]?=some o)→ItsOK K E cnt (r.map (·.it))→
  ∀ (a:Act) (w:World),Holds c (·∈st) E a w→(∀ a' w',Holds c (·∈st') E a' w'→Q .normal a' w')→wpOps c.P ops Q (List.range' i os.length) a w
 | [],i,st,cnt,hh,r,st',cnt'=>fun ht _ _ a w H hq=>by
  simp only [trSeq,qsj,qpj] at ht
  obtain ⟨rfl,rfl,rfl⟩:=ht
  simp only [qln,List.range'_zero,wpOps]
  exact hq a w H
 | o::os,i,st,cnt,hh,r,st',cnt'=>fun ht ho hE a w H hq=>by
  simp only [trSeq,qbs] at ht
  obtain ⟨q,h1,ht⟩:=ht
  split at ht
  ·rename_i hcond
   simp only [qms,qpj] at ht
   obtain ⟨⟨r2,st2,c2⟩,h2,rfl,h3⟩:=ht
   simp only [qpj] at h3
   obtain ⟨rfl,rfl⟩:=h3
   simp only [List.map_cons,ItsOK] at hE
   simp only [qlc,List.range'_succ]
   rw [wpOps_cons]
   refine item_sound hs hc h1 H (fun j _=>bdOK_fresh hcond.2 (by omega)) (subL_mem hcond.1) hE.1 (by simpa using ho 0 o (by simp)) fun a' w' H'=>?_
   refine seq_sound hs hc os (i+1) _ _ _ _ _ _ h2 (fun j o' hj=>?_) hE.2 a' w' (H'.mono fun f hf=>mem_nextL.1 hf) hq
   have:=ho (j+1) o' (by simpa using hj)
   rwa [show i+1+j=i+(j+1) from by omega]
  ·simp at ht
def trGhs:List Fact→Nat→List Nat→Option (List Sq×List Fact×Nat×List Nat)
 | st,cnt,[]=>some ([],st,cnt,[])
 | st,cnt,k::hs=>if 100000≤k then (trGh st cnt k).bind fun ps=>
   if subL ps.2.needs st=true∧bdOK st cnt=true then (trGhs (nextL st none ps.2) (cnt+ps.1.np) hs).map fun r=>(⟨{ p:=ps.1 },ps.2,[]⟩::r.1,r.2) else none
  else some ([],st,cnt,k::hs)
def trSeqG (cf:CF) (sg:Nat→Option Sg) (ops:Array Oper):List Oper→List Fact→Nat→List Nat→Option (List Sq×List Fact×Nat)
 | [],st,cnt,hs=>(trGhs st cnt hs).map fun r=>(r.1,r.2.1,r.2.2.1)
 | o::os,st,cnt,hs=>(trGhs st cnt hs).bind fun r=>(trIt cf sg ops r.2.1 r.2.2.1 o (r.2.2.2.headD 0)).bind fun q=>
  if subL q.sm.needs r.2.1=true∧bdOK r.2.1 r.2.2.1=true then
   (trSeqG cf sg ops os (nextL r.2.1 o.dst q.sm) (r.2.2.1+q.it.p.np) r.2.2.2.tail).map fun z=>(r.1++q::z.1,z.2)
  else none
theorem nps_append:∀ (x y:List It),nps (x++y)=nps x+nps y
 | [],y=>by simp [nps]
 | it::x,y=>by simp [nps,nps_append x y,Nat.add_assoc]
theorem trGhs_cnt:∀ {hs:List Nat} {st:List Fact} {cnt:Nat} {r:List Sq} {st':List Fact} {cnt':Nat} {hs':List Nat},trGhs st cnt hs=some (r,st',cnt',hs')→cnt'=cnt+nps (r.map (·.it))
 | [],st,cnt,r,st',cnt',hs',h=>by
  simp only [trGhs,qsj,qpj] at h
  obtain ⟨rfl,_,rfl,_⟩:=h
  simp [nps]
 | k::hs,st,cnt,r,st',cnt',hs',h=>by
  unfold trGhs at h
  split at h
  ·simp only [qbs] at h
   obtain ⟨ps,h1,h⟩:=h
   split at h
   ·simp only [qms,qpj] at h
    obtain ⟨⟨r2,st2,c2,h2⟩,h3,rfl,h4⟩:=h
    simp only [qpj] at h4
    obtain ⟨rfl,rfl,rfl⟩:=h4
    have:=trGhs_cnt h3
    simp only [List.map_cons,nps]
    omega
   ·cases h
  ·simp only [qsj,qpj] at h
   obtain ⟨rfl,_,rfl,_⟩:=h
   simp [nps]
theorem ghs_sound {a:Act} {w:World}:∀ {hs:List Nat} {st:List Fact} {cnt:Nat} {r:List Sq} {st':List Fact} {cnt':Nat} {hs':List Nat},trGhs st cnt hs=some (r,st',cnt',hs')→ItsOK K E cnt (r.map (·.it))→
  Holds c (·∈st) E a w→Holds c (·∈st') E a w
 | [],st,cnt,r,st',cnt',hs',h=>fun _ H=>by
  simp only [trGhs,qsj,qpj] at h
  obtain ⟨_,rfl,_,_⟩:=h
  exact H
 | k::hs,st,cnt,r,st',cnt',hs',h=>fun hE H=>by
  unfold trGhs at h
  split at h
  ·simp only [qbs] at h
   obtain ⟨⟨p,sm⟩,h1,h⟩:=h
   simp only at h
   split at h
   ·rename_i hc
    simp only [qms,qpj] at h
    obtain ⟨⟨r2,st2,c2,h2⟩,h3,rfl,h4⟩:=h
    simp only [qpj] at h4
    obtain ⟨rfl,rfl,rfl⟩:=h4
    simp only [List.map_cons,ItsOK,ItOK,gdE] at hE
    obtain ⟨⟨vs,Bs,H0⟩,hfix⟩:=H
    have h5:=gh_sound h1 H0 (fun j _=>bdOK_fresh hc.2 (by omega)) (subL_mem hc.1) hE.1
    have H2:Holds c (next (·∈st) none sm) E a w:=⟨h5,hfix⟩
    exact ghs_sound h3 hE.2 (H2.mono fun f hf=>mem_nextL.1 hf)
   ·cases h
  ·simp only [qsj,qpj] at h
   obtain ⟨_,rfl,_,_⟩:=h
   exact H
theorem trSeqG_cnt:∀ {os:List Oper} {st:List Fact} {cnt:Nat} {hs:List Nat} {r:List Sq} {st':List Fact} {cnt':Nat},trSeqG cf sg ops os st cnt hs=some (r,st',cnt')→cnt'=cnt+nps (r.map (·.it))
 | [],st,cnt,hs,r,st',cnt',h=>by
  simp only [trSeqG,qms,qpj] at h
  obtain ⟨⟨r2,st2,c2,h2⟩,h3,rfl,rfl,rfl⟩:=h
  exact trGhs_cnt h3
 | o::os,st,cnt,hs,r,st',cnt',h=>by
  simp only [trSeqG,qbs] at h
  obtain ⟨⟨r2,st2,c2,h2⟩,h3,q,h1,h⟩:=h
  simp only at h1 h
  split at h
  ·simp only [qms,qpj] at h
   obtain ⟨⟨r4,st4,c4⟩,h5,rfl,h6⟩:=h
   simp only [qpj] at h6
   obtain ⟨rfl,rfl⟩:=h6
   have e1:=trGhs_cnt h3
   have e2:=trSeqG_cnt h5
   simp only [List.map_append,List.map_cons,nps_append,nps]
   omega
  ·cases h
theorem seqG_sound (hs:Sound cf sg K) (hc:cf.Fits c) {Q:Exit→Act→World→Prop}:∀ (os:List Oper) (i:Nat) (st:List Fact) (cnt:Nat) (hh:List Nat) (r:List Sq) (st':List Fact) (cnt':Nat),
  trSeqG cf sg ops os st cnt hh=some (r,st',cnt')→(∀ j o,os[j]?=some o→ops[i+j]?=some o)→ItsOK K E cnt (r.map (·.it))→
  ∀ (a:Act) (w:World),Holds c (·∈st) E a w→(∀ a' w',Holds c (·∈st') E a' w'→Q .normal a' w')→wpOps c.P ops Q (List.range' i os.length) a w
 | [],i,st,cnt,hh,r,st',cnt'=>fun ht _ hE a w H hq=>by
  simp only [trSeqG,qms,qpj] at ht
  obtain ⟨⟨r2,st2,c2,h2⟩,h3,rfl,rfl,rfl⟩:=ht
  simp only [qln,List.range'_zero,wpOps]
  exact hq a w (ghs_sound h3 hE H)
 | o::os,i,st,cnt,hh,r,st',cnt'=>fun ht ho hE a w H hq=>by
  simp only [trSeqG,qbs] at ht
  obtain ⟨⟨r2,st2,c2,h2⟩,h3,q,h1,ht⟩:=ht
  simp only at h1 ht
  split at ht
  ·rename_i hcond
   simp only [qms,qpj] at ht
   obtain ⟨⟨r4,st4,c4⟩,h5,rfl,h6⟩:=ht
   simp only [qpj] at h6
   obtain ⟨rfl,rfl⟩:=h6
   rw [List.map_append] at hE
   obtain ⟨hE1,hE2⟩:=hE.split
   rw [← trGhs_cnt h3] at hE2
   simp only [List.map_cons,ItsOK] at hE2
   have H1:=ghs_sound h3 hE1 H
   simp only [qlc,List.range'_succ]
   rw [wpOps_cons]
   refine item_sound hs hc h1 H1 (fun j _=>bdOK_fresh hcond.2 (by omega)) (subL_mem hcond.1) hE2.1 (by simpa using ho 0 o (by simp)) fun a' w' H'=>?_
   refine seqG_sound hs hc os (i+1) _ _ _ _ _ _ h5 (fun j o' hj=>?_) hE2.2 a' w' (H'.mono fun f hf=>mem_nextL.1 hf) hq
   have:=ho (j+1) o' (by simpa using hj)
   rwa [show i+1+j=i+(j+1) from by omega]
  ·simp at ht
def trRegsL (cf:CF) (sg:Nat→Option Sg):List (Nat×Array Oper×List Nat)→List Fact→Nat→Option (List Sq×List Fact×Nat)
 | [],st,cnt=>some ([],st,cnt)
 | x::l,st,cnt=>(trSeqG cf sg x.2.1 x.2.1.toList st cnt x.2.2).bind fun r=>(trRegsL cf sg l r.2.1 r.2.2).map fun q=>(r.1++q.1,q.2)
def chainC:List (Nat×Array Oper×List Nat)→Code→Code
 | [],d=>d
 | x::l,d=>.seq (.region x.1 x.2.1 false) (chainC l d)
theorem regsL_sound (hs:Sound cf sg K) (hc:cf.Fits c) {Qc:Exit→Act→World→Prop} {d:Code}:∀ (l:List (Nat×Array Oper×List Nat)) (st:List Fact) (cnt:Nat) (r:List Sq) (st':List Fact) (cnt':Nat),trRegsL cf sg l st cnt=some (r,st',cnt')→
  ItsOK K E cnt (r.map (·.it))→∀ (a:Act) (w:World),Holds c (·∈st) E a w→(∀ a' w',Holds c (·∈st') E a' w'→d.wp c.P Qc a' w')→(chainC l d).wp c.P Qc a w
 | [],st,cnt,r,st',cnt'=>fun ht _ a w H hk=>by
  simp only [trRegsL,qsj,qpj] at ht
  obtain ⟨_,rfl,_⟩:=ht
  exact hk a w H
 | x::l,st,cnt,r,st',cnt'=>fun ht hE a w H hk=>by
  simp only [trRegsL,qbs,qms,qpj] at ht
  obtain ⟨⟨r1,st1,c1⟩,h1,⟨r2,st2,c2⟩,h2,rfl,h3⟩:=ht
  simp only [qpj] at h3
  obtain ⟨rfl,rfl⟩:=h3
  rw [List.map_append] at hE
  obtain ⟨hE1,hE2⟩:=hE.split
  rw [← trSeqG_cnt h1] at hE2
  simp only [chainC]
  refine wp_seq (wp_region ?_)
  rw [List.range_eq_range']
  have:=seqG_sound hs hc (Q:=Exit.then ((chainC l d).wp c.P Qc) Qc) x.2.1.toList 0 _ _ _ _ _ _ h1 (fun j o hj=>by simpa using hj) hE1 a w H fun a1 w1 H2=>regsL_sound hs hc l _ _ _ _ _ h2 hE2 a1 w1 H2 hk
  simpa using this
end
end Go.Cat
namespace Go.Cat
structure Rc where
 q:Sq
 cnt:Nat
 dst:Option Nat
def recs:Nat→List Oper→List Sq→List Rc
 | cnt,o::os,q::qs=>⟨q,cnt,o.dst⟩::recs (cnt+q.it.p.np) os qs
 | _,_,_=>[]
def Rc.kills (r:Rc) (f:Fact):Bool:=!keepF r.dst r.q.sm.kill f
def Rc.pushes (r:Rc) (n:Nat):Bool:=decide (r.cnt≤n∧n<r.cnt+r.q.it.p.np)
def conf (x y:Rc):Bool:=
 x.q.sm.adds.any (y.q.sm.needs.contains ·) || x.q.sm.needs.any y.kills || y.q.sm.adds.any x.kills || y.q.sm.adds.any fun f=>f.ments.any x.pushes
def depsOf (o:Oper):List Nat:=(o.after.toList.filter (Region.binds .any)).map (·.on)
def befB (acc:List Nat) (ds:List Nat):Nat:=ds.foldr (fun d s=>s ||| 2 ^ d ||| acc.getD d 0) 0
def befs:List Nat→List Oper→List Nat
 | acc,[]=>acc
 | acc,o::os=>befs (acc++[befB acc (depsOf o)]) os
def confOK (rs:List Rc) (bf:List Nat):Bool:=
 rs.zipIdx.all fun y=>rs.zipIdx.all fun x=>if x.2<y.2 then !conf x.1 y.1 || (bf.getD y.2 0).testBit x.2 else true
def depsOK (os:List Oper):Bool:=os.zipIdx.all fun x=>(depsOf x.1).all fun d=>decide (d<x.2)
def drawOK (st:List Fact) (cnt:Nat) (os:List Oper) (qs:List Sq):Bool:=
 let rs:=recs cnt os qs
 confOK rs (befs [] os)&&depsOK os&&(rs.all fun r=>r.q.sm.adds.all fun f=>f.ments.all fun n=>decide (n<r.cnt+r.q.it.p.np))&&bdOK st cnt
theorem befB_bit {acc ds:List Nat} {i:Nat} (h:(befB acc ds).testBit i=true):∃ d∈ds,i=d∨(acc.getD d 0).testBit i=true:=by
 induction ds with
 | nil=>simp [befB] at h
 | cons d ds ih=>
  simp only [befB,List.foldr_cons,Nat.testBit_or,Bool.or_eq_true] at h
  rcases h with (h | h) | h
  ·obtain ⟨d',hd,q⟩:=ih h
   exact ⟨d',qmc _ hd,q⟩
  ·rw [Nat.testBit_two_pow] at h
   have h':d=i:=by simpa using h
   exact ⟨d,List.mem_cons_self ..,.inl h'.symm⟩
  ·exact ⟨d,List.mem_cons_self ..,.inr h⟩
theorem befs_closed {S:Nat→Prop} {all:List Oper} (hd:∀ k o,all[k]?=some o→∀ d∈depsOf o,d<k) (hS:∀ k o,S k→all[k]?=some o→∀ d∈depsOf o,S d):
  ∀ (os pre:List Oper) (acc:List Nat),all=pre++os→acc.length=pre.length→
   (∀ k o,k<pre.length→all[k]?=some o→(∀ d∈depsOf o,S d)→∀ i,(acc.getD k 0).testBit i=true→S i)→
   ∀ k o,all[k]?=some o→(∀ d∈depsOf o,S d)→∀ i,((befs acc os).getD k 0).testBit i=true→S i
 | [],pre,acc=>fun ha hl h k o hk=>by
  simp only [befs]
  refine h k o ?_ hk
  subst ha
  rcases qlg k pre.length with q | q
  ·exact q
  ·simp [qgn q] at hk
 | o::os,pre,acc=>fun ha hl h=>by
  simp only [befs]
  refine befs_closed hd hS os (pre++[o]) _ (by simp [ha]) (by simp [hl]) ?_
  intro k o' hk ho' hdep i hi
  simp only [qla,qlc,qln] at hk
  rcases qlg k pre.length with q | q
  ·rw [qgd,qgl (by omega),← qgd] at hi
   exact h k o' q ho' hdep i hi
  ·have hke:k=pre.length:=by omega
   subst hke
   have hoo:o'=o:=by
    have:=ho'
    rw [ha] at this
    simp at this
    exact this.symm
   subst hoo
   rw [qgd,qgr (by omega)] at hi
   simp only [hl,Nat.sub_self,List.getElem?_cons_zero,Option.getD_some] at hi
   obtain ⟨d,hdm,hi⟩:=befB_bit hi
   rcases hi with rfl | hi
   ·exact hdep _ hdm
   ·have hdl:d<pre.length:=hd _ _ ho' d hdm
    have:∃ od,all[d]?=some od:=by
     refine ⟨all[d]'(by rw [ha]; simp; omega),by simp⟩
    obtain ⟨od,hod⟩:=this
    exact h d od hdl hod (hS d od (hdep d hdm) hod) i hi
section
variable (st:List Fact) (rs:List Rc)
def kl (i:Nat) (f:Fact):Prop:=∃ r,rs[i]?=some r∧r.kills f=true
def avail (S:Nat→Prop) (f:Fact):Prop:=
 (f∈st∧∀ i,S i→¬ kl rs i f)∨∃ j r,S j∧rs[j]?=some r∧f∈r.q.sm.adds∧∀ i,S i→j<i→¬ kl rs i f
end
section
variable {cf:CF} {sg:Nat→Option Sg} {E:Nat→D} {K:Nat→List D→List D→Prop} {ops:Array Oper}
theorem seq_avail {st0:List Fact} {rs:List Rc}:∀ (os:List Oper) (i:Nat) (st:List Fact) (cnt:Nat) (hh:List Nat) (r:List Sq) (st':List Fact) (cnt':Nat),
  trSeq cf sg ops os st cnt hh=some (r,st',cnt')→(∀ j x,(recs cnt os r)[j]?=some x→rs[i+j]?=some x)→rs.length=i+os.length→ItsOK K E cnt (r.map (·.it))→
  (∀ f∈st,avail st0 rs (· < i) f)→
  (∀ j x o,(recs cnt os r)[j]?=some x→os[j]?=some o→(∃ stj h,trIt cf sg ops stj x.cnt o h=some x.q)∧x.dst=o.dst∧(∀ f∈x.q.sm.needs,avail st0 rs (· < i+j) f)∧ItOK K E x.cnt x.q.it∧cnt≤x.cnt)∧
  (∀ f∈st',avail st0 rs (· < i+os.length) f)∧(recs cnt os r).length=os.length
 | [],i,st,cnt,hh,r,st',cnt'=>fun ht _ _ _ hst=>by
  simp only [trSeq,qsj,qpj] at ht
  obtain ⟨rfl,rfl,rfl⟩:=ht
  refine ⟨by simp [recs],by simpa using hst,by simp [recs]⟩
 | o::os,i,st,cnt,hh,r,st',cnt'=>fun ht hrs hlen hE hst=>by
  simp only [trSeq,qbs] at ht
  obtain ⟨q,h1,ht⟩:=ht
  split at ht
  ·rename_i hcond
   simp only [qms,qpj] at ht
   obtain ⟨⟨r2,st2,c2⟩,h2,rfl,h3⟩:=ht
   simp only [qpj] at h3
   obtain ⟨rfl,rfl⟩:=h3
   simp only [List.map_cons,ItsOK] at hE
   have h0:rs[i]?=some ⟨q,cnt,o.dst⟩:=by simpa using hrs 0 _ (by simp [recs])
   have hst1:∀ f∈nextL st o.dst q.sm,avail st0 rs (· < i+1) f:=by
    intro f hf
    rcases mem_nextL.1 hf with ⟨k1,k2⟩ | k
    ·have hnk:¬ kl rs i f:=by
      rintro ⟨x,hx,hk⟩
      rw [h0] at hx
      injection hx with hx
      subst hx
      simp only [Rc.kills,Bool.not_eq_true'] at hk
      cases f with
      | en n s=>simp [keepF] at hk; exact k2 hk
      | sl t l=>simp [keepF] at hk; exact k2 hk
     rcases hst f k1 with ⟨a1,a2⟩ | ⟨j,x,a1,a2,a3,a4⟩
     ·refine .inl ⟨a1,fun m hm=>?_⟩
      rcases qlg m i with h | h
      ·exact a2 m h
      ·have:m=i:=by omega
       subst this; exact hnk
     ·refine .inr ⟨j,x,by show j<i+1; have:j<i:=a1; omega,a2,a3,fun m hm hj=>?_⟩
      rcases qlg m i with h | h
      ·exact a4 m h hj
      ·have:m=i:=by have:m<i+1:=hm; omega
       subst this; exact hnk
    ·refine .inr ⟨i,_,by show i<i+1; omega,h0,k,fun m hm hj=>?_⟩
     have:m<i+1:=hm
     omega
   obtain ⟨b1,b2,b3⟩:=seq_avail os (i+1) _ _ _ _ _ _ h2 (fun j x hj=>by
    have:=hrs (j+1) x (by simpa [recs] using hj)
    rwa [show i+1+j=i+(j+1) from by omega]) (by simp at hlen; omega) hE.2 hst1
   refine ⟨?_,?_,by simp [recs,b3]⟩
   ·intro j x o' hj ho'
    cases j with
    | zero=>
     simp only [recs,List.getElem?_cons_zero,qsj] at hj ho'
     subst hj ho'
     exact ⟨⟨st,_,h1⟩,rfl,fun f hf=>hst f (subL_mem hcond.1 f hf),hE.1,Nat.le_refl _⟩
    | succ j=>
     simp only [recs,List.getElem?_cons_succ] at hj ho'
     obtain ⟨c1,c2,c3,c4,c5⟩:=b1 j x o' hj ho'
     refine ⟨c1,c2,fun f hf=>?_,c4,by omega⟩
     have:=c3 f hf
     rwa [show i+1+j=i+(j+1) from by omega] at this
   ·intro f hf
    have:=b2 f hf
    simp only [qlc]
    rwa [show i+1+os.length=i+(os.length+1) from by omega] at this
  ·simp at ht
theorem recs_cnt:∀ (os:List Oper) (qs:List Sq) (cnt:Nat) (j k:Nat) (x y:Rc),(recs cnt os qs)[j]?=some x→(recs cnt os qs)[k]?=some y→j<k→x.cnt+x.q.it.p.np≤y.cnt
 | [],_,_,_,_,_,_=>fun h=>by simp [recs] at h
 | _::_,[],_,_,_,_,_=>fun h=>by simp [recs] at h
 | o::os,q::qs,cnt,j,k,x,y=>fun hj hk hlt=>by
  cases k with
  | zero=>omega
  | succ k=>
   simp only [recs,List.getElem?_cons_succ] at hk
   cases j with
   | zero=>
    simp only [recs,List.getElem?_cons_zero,qsj] at hj
    subst hj
    have:∀ (os:List Oper) (qs:List Sq) (cnt:Nat) (k:Nat) (y:Rc),(recs cnt os qs)[k]?=some y→cnt≤y.cnt:=by
     intro os
     induction os with
     | nil=>intro qs cnt k y h; simp [recs] at h
     | cons o os ih=>
      intro qs cnt k y h
      cases qs with
      | nil=>simp [recs] at h
      | cons q qs=>
       cases k with
       | zero=>simp only [recs,List.getElem?_cons_zero,qsj] at h; subst h; exact Nat.le_refl _
       | succ k=>simp only [recs,List.getElem?_cons_succ] at h; have:=ih _ _ _ _ h; omega
    exact this _ _ _ _ _ hk
   | succ j=>
    simp only [recs,List.getElem?_cons_succ] at hj
    exact recs_cnt os qs _ j k x y hj hk (by omega)
theorem conf_spec {rs:List Rc} {bf:List Nat} (h:confOK rs bf=true) {i k:Nat} {x y:Rc} (hx:rs[i]?=some x) (hy:rs[k]?=some y) (hlt:i<k) (hc:conf x y=true):(bf.getD k 0).testBit i=true:=by
 simp only [confOK,qat] at h
 have h1:=h (y,k) (List.mem_zipIdx_iff_getElem?.2 hy) (x,i) (List.mem_zipIdx_iff_getElem?.2 hx)
 simp only [if_pos hlt,hc,Bool.not_true,Bool.false_or] at h1
 exact h1
end
section
variable {cf:CF} {sg:Nat→Option Sg} {c:Cx} {E:Nat→D} {K:Nat→List D→List D→Prop} {ops:Array Oper}
theorem Rc.kills_next {r:Rc} {F:Fact→Prop} {f:Fact} (h1:F f) (h2:¬ r.kills f=true):next F r.dst r.q.sm f:=by
 left
 refine ⟨h1,?_⟩
 cases f <;> simp [Rc.kills,keepF] at h2 ⊢ <;> exact h2
theorem draw_sound (hs:Sound cf sg K) (hc:cf.Fits c) {st:List Fact} {cnt:Nat} {hh:List Nat} {qs:List Sq} {st':List Fact} {cnt':Nat}
  (ht:trSeq cf sg ops ops.toList st cnt hh=some (qs,st',cnt')) (hd:drawOK st cnt ops.toList qs=true) (hE:ItsOK K E cnt (qs.map (·.it)))
  {Q:Exit→Act→World→Prop} (hq:∀ a' w',Holds c (·∈st') E a' w'→Q .normal a' w'):
  ∀ (fuel:Nat) (listed:Array Bool) (a:Act) (w:World),listed.size=ops.size→((List.range ops.size).filter fun i=>!listed.getD i true).length≤fuel→
   (∀ k o,listed.getD k false=true→ops.toList[k]?=some o→∀ d∈depsOf o,listed.getD d false=true)→
   Holds c (avail st (recs cnt ops.toList qs) (fun i=>listed.getD i false=true)) E a w→wpAny c.P .any ops Q fuel listed a w:=by
 simp only [drawOK,qba,qat,qde] at hd
 obtain ⟨⟨⟨hconf,hdeps⟩,hment⟩,hbd⟩:=hd
 have hrl:(recs cnt ops.toList qs).length=0+ops.toList.length:=by
  have:∀ (os:List Oper) (st:List Fact) (cnt:Nat) (hh:List Nat) (qs:List Sq) (x:List Fact×Nat),trSeq cf sg ops os st cnt hh=some (qs,x)→(recs cnt os qs).length=os.length:=by
   intro os
   induction os with
   | nil=>intro st cnt hh qs x h; simp [recs]
   | cons o os ih=>
    intro st cnt hh qs x h
    simp only [trSeq,qbs] at h
    obtain ⟨q,_,h⟩:=h
    split at h
    ·simp only [qms,qpj] at h
     obtain ⟨⟨r2,x2⟩,h2,rfl,_⟩:=h
     simp [recs,ih _ _ _ _ _ h2]
    ·simp at h
  rw [this _ _ _ _ _ _ ht]; omega
 obtain ⟨hA,hfin,_⟩:=seq_avail (st0:=st) (rs:=recs cnt ops.toList qs) ops.toList 0 st cnt hh qs st' cnt' ht (fun j x hj=>by simpa using hj) hrl hE
  (fun f hf=>.inl ⟨hf,fun i hi=>by simp at hi⟩)
 generalize hrs:recs cnt ops.toList qs=rs at*
 simp only [Nat.zero_add] at hA hfin hrl
 have hdeps':∀ k o,ops.toList[k]?=some o→∀ d∈depsOf o,d<k:=by
  simp only [depsOK,qat,qde] at hdeps
  intro k o ho d hd
  exact hdeps (o,k) (List.mem_zipIdx_iff_getElem?.2 ho) d hd
 have hopl:∀ k,k<ops.size→∃ o,ops.toList[k]?=some o∧ops[k]?=some o:=fun k hk=>⟨ops[k],by simp [hk],by simp [hk]⟩
 have hrc:∀ k,k<ops.size→∃ x,rs[k]?=some x:=fun k hk=>⟨rs[k]'(by rw [hrl]; simpa using hk),by simp⟩
 have lts:∀ {k:Nat} {x:Rc},rs[k]?=some x→k<ops.size:=by
  intro k x h
  rcases qlg k rs.length with q | q
  ·rw [hrl] at q; simpa using q
  ·rw [qgn q] at h; simp at h
 intro fuel
 induction fuel with
 | zero=>
  intro listed a w hsz hf hcl H
  have hall:∀ k,k<ops.size→listed.getD k false=true:=by
   intro k hk
   cases hlk:listed.getD k false with
   | true=>rfl
   | false=>
    have h0:(List.range ops.size).filter (fun i=>!listed.getD i true)=[]:=by
     exact qez (by omega)
    have:k∈(List.range ops.size).filter (fun i=>!listed.getD i true):=by
     simp only [List.mem_filter,List.mem_range,hk,true_and]
     rw [qag] at hlk ⊢
     rw [Array.getElem?_eq_getElem (by omega)] at hlk ⊢
     simp at hlk ⊢
     exact hlk
    rw [h0] at this; simp at this
  refine ⟨?_,hq a w (H.mono fun f hf=>?_)⟩
  ·unfold Region.ready
   rw [List.filter_eq_nil_iff]
   intro i hi
   have hi':i<ops.size:=by simpa using hi
   have:=hall i hi'
   rw [qag] at this
   rw [qag]
   rw [Array.getElem?_eq_getElem (by omega)] at this ⊢
   simp at this ⊢
   simp [this]
  ·rcases hfin f hf with ⟨a1,a2⟩ | ⟨j,x,a1,a2,a3,a4⟩
   ·refine .inl ⟨a1,fun i _ hk=>?_⟩
    obtain ⟨x,hx,hk⟩:=hk
    exact a2 i (by simpa using lts hx) ⟨x,hx,hk⟩
   ·refine .inr ⟨j,x,hall j (lts a2),a2,a3,fun i _ hj hk=>?_⟩
    obtain ⟨y,hy,hk⟩:=hk
    exact a4 i (by simpa using lts hy) hj ⟨y,hy,hk⟩
 | succ fuel ih=>
  intro listed a w hsz hf hcl H
  have key:∀ k,k<ops.size→listed.getD k false=false∨listed.getD k false=true:=fun k _=>by cases listed.getD k false <;> simp
  have toT:∀ k,k<ops.size→listed.getD k true=listed.getD k false:=by
   intro k hk
   rw [qag,qag,Array.getElem?_eq_getElem (by omega)]
   rfl
  refine ⟨fun hr=>?_,?_⟩
  · -- nothing is ready: all is done
   have hall:∀ k,k<ops.size→listed.getD k false=true:=by
    intro k
    induction k using Nat.strongRecOn with
    | _ k ihk=>
     intro hk
     rcases key k hk with h | h
     ·exfalso
      have:k∈Region.ready .any ops listed:=by
       unfold Region.ready
       simp only [List.mem_filter,List.mem_range,hk,true_and,qba]
       refine ⟨by rw [toT k hk,h]; rfl,?_⟩
       obtain ⟨o,ho1,ho2⟩:=hopl k hk
       rw [ho2]
       simp only [Option.map_some,Option.getD_some]
       rw [← Array.all_toList]
       simp only [qat,Bool.or_eq_true,Bool.not_eq_true']
       intro e he
       cases hb:Region.binds .any e with
       | false=>left; rfl
       | true=>
        right
        have hd:e.on∈depsOf o:=by
         simp only [depsOf,List.mem_map,List.mem_filter]
         exact ⟨e,⟨he,hb⟩,rfl⟩
        have:=hdeps' k o ho1 _ hd
        exact ihk e.on this (by omega)
      rw [hr] at this; simp at this
     ·exact h
   refine hq a w (H.mono fun f hf=>?_)
   rcases hfin f hf with ⟨a1,a2⟩ | ⟨j,x,a1,a2,a3,a4⟩
   ·refine .inl ⟨a1,fun i _ hk=>?_⟩
    obtain ⟨x,hx,hk⟩:=hk
    exact a2 i (by simpa using lts hx) ⟨x,hx,hk⟩
   ·refine .inr ⟨j,x,hall j (lts a2),a2,a3,fun i _ hj hk=>?_⟩
    obtain ⟨y,hy,hk⟩:=hk
    exact a4 i (by simpa using lts hy) hj ⟨y,hy,hk⟩
  ·intro k hk
   unfold Region.ready at hk
   simp only [List.mem_filter,List.mem_range,qba] at hk
   obtain ⟨hkl,hkn,hkd⟩:=hk
   obtain ⟨o,ho1,ho2⟩:=hopl k hkl
   obtain ⟨x,hx⟩:=hrc k hkl
   have hkn':listed.getD k false=false:=by rw [toT k hkl] at hkn; simpa using hkn
   rw [ho2] at hkd
   simp only [Option.map_some,Option.getD_some] at hkd
   rw [← Array.all_toList] at hkd
   simp only [qat,Bool.or_eq_true,Bool.not_eq_true'] at hkd
   have hready:∀ d∈depsOf o,listed.getD d false=true:=by
    intro d hd
    simp only [depsOf,List.mem_map,List.mem_filter] at hd
    obtain ⟨e,⟨he,hb⟩,rfl⟩:=hd
    rcases hkd e he with h | h
    ·rw [hb] at h; simp at h
    ·exact h
   -- what must come ahead of k has been done; what must come behind it has not
   have hbef:∀ i,((befs [] ops.toList).getD k 0).testBit i=true→listed.getD i false=true:=
    befs_closed (S:=fun i=>listed.getD i false=true) hdeps' hcl ops.toList [] [] rfl rfl (fun k _ h=>by simp at h) k o ho1 hready
   have hbeh:∀ i y,rs[i]?=some y→listed.getD i false=true→k<i→((befs [] ops.toList).getD i 0).testBit k=true→False:=by
    intro i y hy hi _ hb
    obtain ⟨oi,hoi,_⟩:=hopl i (lts hy)
    have:=befs_closed (S:=fun i=>listed.getD i false=true) hdeps' hcl ops.toList [] [] rfl rfl (fun k _ h=>by simp at h) i oi hoi (hcl i oi hi hoi) k hb
    rw [hkn'] at this; simp at this
   obtain ⟨⟨stj,h,h1⟩,h2,h3,h4,h5⟩:=hA k x o hx ho1
   have hneeds:∀ f∈x.q.sm.needs,avail st rs (fun i=>listed.getD i false=true) f:=by
    intro f hf
    have later:∀ i,listed.getD i false=true→k<i→¬ kl rs i f:=by
     rintro i hi hlt ⟨y,hy,hk⟩
     refine hbeh i y hy hi hlt (conf_spec hconf hx hy hlt ?_)
     simp only [conf,Bool.or_eq_true,List.any_eq_true]
     exact .inl (.inl (.inr ⟨f,hf,hk⟩))
    rcases h3 f hf with ⟨a1,a2⟩ | ⟨j,y,a1,a2,a3,a4⟩
    ·refine .inl ⟨a1,fun i hi=>?_⟩
     rcases Nat.lt_trichotomy i k with q | q | q
     ·exact a2 i q
     ·subst q; have hi':listed.getD i false=true:=hi; rw [hkn'] at hi'; simp at hi'
     ·exact later i hi q
    ·have a1':j<k:=a1
     refine .inr ⟨j,y,hbef j (conf_spec hconf a2 hx a1' ?_),a2,a3,fun i hi hj=>?_⟩
     ·simp only [conf,Bool.or_eq_true,List.any_eq_true]
      exact .inl (.inl (.inl ⟨f,a3,by simpa using hf⟩))
     ·rcases Nat.lt_trichotomy i k with q | q | q
      ·exact a4 i q hj
      ·subst q; have hi':listed.getD i false=true:=hi; rw [hkn'] at hi'; simp at hi'
      ·exact later i hi q
   have hfresh:∀ j,j<x.q.it.p.np→Fresh (avail st rs (fun i=>listed.getD i false=true)) (x.cnt+j):=by
    intro j hj
    have hno:∀ f,avail st rs (fun i=>listed.getD i false=true) f→x.cnt+j∉f.ments:=by
     rintro f (⟨a1,_⟩ | ⟨i,y,a1,a2,a3,_⟩) hm
     ·simp only [bdOK,qat,qde] at hbd
      have:=hbd f a1 _ hm
      omega
     ·rcases Nat.lt_trichotomy i k with q | q | q
      ·have:=hment y (List.mem_of_getElem? a2) f a3 _ hm
       have:=recs_cnt ops.toList qs cnt i k y x (by rw [hrs]; exact a2) (by rw [hrs]; exact hx) q
       omega
      ·subst q; have a1':listed.getD i false=true:=a1; rw [hkn'] at a1'; simp at a1'
      ·refine hbeh i y a2 a1 q (conf_spec hconf hx a2 q ?_)
       simp only [conf,Bool.or_eq_true,List.any_eq_true]
       exact .inr ⟨f,a3,x.cnt+j,hm,by simp [Rc.pushes]; omega⟩
    exact ⟨fun s hf=>hno _ hf (by simp [Fact.ments]),fun t l hf hm=>hno _ hf (by simpa [Fact.ments] using hm)⟩
   refine item_sound hs hc h1 H hfresh hneeds h4 ho2 fun a' w' H'=>?_
   have hset:∀ i,(listed.setIfInBounds k true).getD i false=true↔(i=k∨listed.getD i false=true):=by
    intro i
    simp only [qag,Array.getElem?_setIfInBounds]
    by_cases hik:k=i
    ·subst hik; simp [show k<listed.size by omega]
    ·simp only [if_neg hik]
     constructor
     ·intro h; exact .inr h
     ·rintro (h | h)
      ·exact (hik h.symm).elim
      ·exact h
   refine ih _ a' w' (by simpa using hsz) ?_ ?_ (H'.mono fun f hf=>?_)
   · -- one less is left
    have hsub:((List.range ops.size).filter fun i=>!(listed.setIfInBounds k true).getD i true).length<((List.range ops.size).filter fun i=>!listed.getD i true).length:=by
     have e:((List.range ops.size).filter fun i=>!(listed.setIfInBounds k true).getD i true)=((List.range ops.size).filter fun i=>!listed.getD i true).filter (fun i=>decide (i≠k)):=by
      rw [List.filter_filter]
      apply List.filter_congr
      intro i hi
      have hi':i<ops.size:=by simpa using hi
      simp only [qag,Array.getElem?_setIfInBounds]
      by_cases hik:k=i
      ·subst hik; simp [show k<listed.size by omega]
      ·have:i≠k:=fun e=>hik e.symm
       simp [if_neg hik,this]
     rw [e]
     have hmem:k∈(List.range ops.size).filter fun i=>!listed.getD i true:=by
      simp only [List.mem_filter,List.mem_range,hkl,true_and]
      exact hkn
     exact List.length_filter_lt_length_iff_exists.2 ⟨k,hmem,by simp⟩
    omega
   ·intro i oi hi hoi d hd
    rw [hset] at hi ⊢
    right
    rcases hi with rfl | hi
    ·rw [ho1] at hoi; injection hoi with hoi; subst hoi; exact hready d hd
    ·exact hcl i oi hi hoi d hd
   · -- the facts
    rcases hf with ⟨a1,a2⟩ | ⟨j,y,a1,a2,a3,a4⟩
    ·have hk1:avail st rs (fun i=>listed.getD i false=true) f:=.inl ⟨a1,fun i hi=>a2 i ((hset i).2 (.inr hi))⟩
     have hk2:¬ x.kills f=true:=fun q=>a2 k ((hset k).2 (.inl rfl)) ⟨x,hx,q⟩
     rw [← h2]
     exact Rc.kills_next hk1 hk2
    ·rcases (hset j).1 a1 with rfl | b1
     ·rw [hx] at a2; injection a2 with a2; subst a2
      exact .inr a3
     ·have hk1:avail st rs (fun i=>listed.getD i false=true) f:=.inr ⟨j,y,b1,a2,a3,fun i hi=>a4 i ((hset i).2 (.inr hi))⟩
      have hk2:¬ x.kills f=true:=by
       intro q
       rcases Nat.lt_trichotomy j k with hlt | hlt | hlt
       ·exact a4 k ((hset k).2 (.inl rfl)) hlt ⟨x,hx,q⟩
       ·subst hlt; have b1':listed.getD j false=true:=b1; rw [hkn'] at b1'; simp at b1'
       ·refine hbeh j y a2 b1 hlt (conf_spec hconf hx a2 hlt ?_)
        simp only [conf,Bool.or_eq_true,List.any_eq_true]
        exact .inl (.inr ⟨f,a3,q⟩)
      rw [← h2]
      exact Rc.kills_next hk1 hk2
end
end Go.Cat
namespace Go.Cat
abbrev VT:=List (Nat×Sh)
abbrev HL:=List (Nat×List Nat)
def stFrom (L:Nat):Nat→VT→List Fact
 | _,[]=>[]
 | i,(t,s)::r=>(if L.testBit i then [.sl t (.is i []),.en i s] else [])++stFrom L (i+1) r
def stOf (vt:VT) (L:Nat):List Fact:=stFrom L 0 vt
theorem mem_stFrom {L:Nat} {f:Fact}:∀ {vt:VT} {i:Nat},f∈stFrom L i vt↔∃ j t s,vt[j]?=some (t,s)∧L.testBit (i+j)=true∧(f=.sl t (.is (i+j) [])∨f=.en (i+j) s)
 | [],i=>by simp [stFrom]
 | (t,s)::r,i=>by
  simp only [stFrom,qma,mem_stFrom (vt:=r)]
  constructor
  ·rintro (h | ⟨j,t',s',h1,h2,h3⟩)
   ·split at h
    ·rename_i hL
     refine ⟨0,t,s,by simp,hL,?_⟩
     simpa using h
    ·simp at h
   ·exact ⟨j+1,t',s',by simpa using h1,by rwa [show i+(j+1)=i+1+j from by omega],by rwa [show i+(j+1)=i+1+j from by omega]⟩
  ·rintro ⟨j,t',s',h1,h2,h3⟩
   cases j with
   | zero=>
    simp only [List.getElem?_cons_zero,qsj,qpj] at h1
    obtain ⟨rfl,rfl⟩:=h1
    left
    simp only [Nat.add_zero] at h2 h3
    rw [if_pos h2]
    simpa using h3
   | succ j=>
    right
    exact ⟨j,t',s',by simpa using h1,by rwa [show i+1+j=i+(j+1) from by omega],by rwa [show i+1+j=i+(j+1) from by omega]⟩
theorem mem_stOf {vt:VT} {L:Nat} {f:Fact}:f∈stOf vt L↔∃ i t s,vt[i]?=some (t,s)∧L.testBit i=true∧(f=.sl t (.is i [])∨f=.en i s):=by
 unfold stOf
 rw [mem_stFrom]
 simp
theorem stOf_mono {vt:VT} {L L':Nat} (h:∀ i,L'.testBit i=true→L.testBit i=true):∀ f,f∈stOf vt L'→f∈stOf vt L:=by
 intro f hf
 obtain ⟨i,t,s,h1,h2,h3⟩:=mem_stOf.1 hf
 exact mem_stOf.2 ⟨i,t,s,h1,h i h2,h3⟩
def subB (a b:Nat):Bool:=a &&& b == a
theorem subB_bit {a b:Nat} (h:subB a b=true) (i:Nat) (ha:a.testBit i=true):b.testBit i=true:=by
 have h':a &&& b=a:=by simpa [subB] using h
 have:=congrArg (fun x=>Nat.testBit x i) h'
 simp only [Nat.testBit_and,ha,Bool.true_and] at this
 exact this
theorem Holds.congr {c:Cx} {vt:VT} {L:Nat} {E E':Nat→D} {a:Act} {w:World} (h:Holds c (·∈stOf vt L) E a w) (hE:∀ i t s,vt[i]?=some (t,s)→L.testBit i=true→E' i=E i):
  Holds c (·∈stOf vt L) E' a w:=by
 obtain ⟨⟨vs,Bs,H⟩,hfix⟩:=h
 refine ⟨⟨vs,Bs,?_,H.nodup,H.mine,H.apart,?_,H.agr,H.os,H.tape,H.output,H.defers,H.size⟩,hfix⟩
 ·intro n s hf
  obtain ⟨i,t,s',h1,h2,h3⟩:=mem_stOf.1 hf
  have:=H.own n s hf
  rcases h3 with h3 | h3
  ·simp at h3
  ·injection h3 with e1 e2
   subst e1 e2
   rw [hE n t s h1 h2]; exact this
 ·intro t l hf
  obtain ⟨i,t',s',h1,h2,h3⟩:=mem_stOf.1 hf
  have:=H.loc t l hf
  rcases h3 with h3 | h3
  ·injection h3 with e1 e2
   subst e1 e2
   refine ⟨fun _=>this.1 (by simp [gdOK]),fun q=>(q (by simp [gdOK])).elim⟩
  ·simp at h3
def Sh.isO:Sh→Bool
 | .v=>false
 | .y=>false
 | _=>true
theorem Sh.notO {s:Sh} (h:¬ s.isO=true):s=.v∨s=.y:=by
 cases s <;> simp [Sh.isO] at h ⊢
def outOf (st:List Fact) (mask:Nat):Nat→VT→Option (List (Option Nat))
 | _,[]=>some []
 | i,(t,s)::r=>(outOf st mask (i+1) r).bind fun o=>
  if mask.testBit i then
   match findSl st t with
   | some (.is n [])=>match findEn st n with
    | some s'=>if s'=s∨(s=.v∧s'.okF=true)∨(s=.y∧s'.okF=true) then some (some n::o) else none
    | none=>none
   | _=>none
  else some (none::o)
def ownOut:List (Option Nat)→VT→List Nat
 | some n::o,(_,s)::r=>if s.isO=true then n::ownOut o r else ownOut o r
 | none::o,_::r=>ownOut o r
 | _,_=>[]
def rdOut:List (Option Nat)→VT→List Nat
 | some n::o,(_,s)::r=>if s.isO=true then rdOut o r else n::rdOut o r
 | none::o,_::r=>rdOut o r
 | _,_=>[]
def proH (st:List Fact) (cnt:Nat) (h:List Nat):Option (List Sq×List Fact×Nat×List Nat):=match h with
 | k::_=>if 500000≤k∧k<600000 then trGhs st cnt h else some ([],st,cnt,h)
 | []=>some ([],st,cnt,[])
def trReg (cf:CF) (sg:Nat→Option Sg) (vt:VT) (ops:Array Oper) (draw:Bool) (L:Nat) (h:Nat×List Nat):Option S:=
 (proH (stOf vt L) vt.length h.2).bind fun pr=>(trSeq cf sg ops ops.toList pr.2.1 pr.2.2.1 pr.2.2.2).bind fun r=>
  (outOf r.2.1 h.1 0 vt).bind fun out=>
   if mentsOK vt.length ((pr.1++r.1).map (·.it))=true∧(!draw || drawOK pr.2.1 pr.2.2.1 ops.toList r.1)=true∧(ownOut out vt).Nodup∧((ownOut out vt).all fun n=>!(rdOut out vt).contains n)=true then
    some (.reg ((pr.1++r.1).map (·.it)) out)
   else none
theorem proH_spec {c:Cx} {E:Nat→D} {K:Nat→List D→List D→Prop} {st st':List Fact} {cnt cnt':Nat} {h h':List Nat} {r:List Sq} (hp:proH st cnt h=some (r,st',cnt',h')):
  cnt'=cnt+nps (r.map (·.it))∧(ItsOK K E cnt (r.map (·.it))→∀ {a:Act} {w:World},Holds c (·∈st) E a w→Holds c (·∈st') E a w):=by
 unfold proH at hp
 split at hp
 ·split at hp
  ·exact ⟨trGhs_cnt hp,fun hE _ _ H=>ghs_sound hp hE H⟩
  ·simp only [qsj,qpj] at hp
   obtain ⟨rfl,rfl,rfl,_⟩:=hp
   exact ⟨by simp [nps],fun _ _ _ H=>H⟩
 ·simp only [qsj,qpj] at hp
  obtain ⟨rfl,rfl,rfl,_⟩:=hp
  exact ⟨by simp [nps],fun _ _ _ H=>H⟩
theorem outOf_spec {st:List Fact} {mask:Nat}:∀ {vt:VT} {i:Nat} {out:List (Option Nat)},outOf st mask i vt=some out→out.length=vt.length∧
  ∀ j t s,vt[j]?=some (t,s)→mask.testBit (i+j)=true→∃ n s',out[j]?=some (some n)∧Fact.sl t (.is n [])∈st∧Fact.en n s'∈st∧(s'=s∨(s=.v∧s'.okF=true)∨(s=.y∧s'.okF=true))
 | [],i,out,h=>by simp only [outOf,qsj] at h; subst h; simp
 | (t,s)::r,i,out,h=>by
  simp only [outOf,qbs] at h
  obtain ⟨o,h1,h⟩:=h
  obtain ⟨e1,e2⟩:=outOf_spec h1
  split at h
  ·rename_i hm
   split at h
   ·rename_i n hl
    split at h
    ·rename_i s' hs'
     split at h
     ·rename_i hc
      simp only [qsj] at h
      subst h
      refine ⟨by simp [e1],fun j t2 s2 hj hb=>?_⟩
      cases j with
      | zero=>
       simp only [List.getElem?_cons_zero,qsj,qpj] at hj
       obtain ⟨rfl,rfl⟩:=hj
       exact ⟨n,s',by simp,findSl_mem hl,findEn_mem hs',hc⟩
      | succ j=>
       obtain ⟨n2,s3,q1,q2,q3,q4⟩:=e2 j t2 s2 (by simpa using hj) (by rwa [show i+1+j=i+(j+1) from by omega])
       exact ⟨n2,s3,by simpa using q1,q2,q3,q4⟩
     ·simp at h
    ·simp at h
   ·simp at h
  ·rename_i hm
   simp only [qsj] at h
   subst h
   refine ⟨by simp [e1],fun j t2 s2 hj hb=>?_⟩
   cases j with
   | zero=>simp at hb; exact (hm hb).elim
   | succ j=>
    obtain ⟨n2,s3,q1,q2,q3,q4⟩:=e2 j t2 s2 (by simpa using hj) (by rwa [show i+1+j=i+(j+1) from by omega])
    exact ⟨n2,s3,by simpa using q1,q2,q3,q4⟩
theorem ownOut_mem:∀ {out:List (Option Nat)} {vt:VT} {j n t:Nat} {s:Sh},s.isO=true→out[j]?=some (some n)→vt[j]?=some (t,s)→n∈ownOut out vt
 | [],_,_,_,_,_=>fun _ h=>by simp at h
 | _::_,[],_,_,_,_=>fun _ _ h=>by simp at h
 | o::out,(t',s')::vt,0,n,t,s=>fun hs h1 h2=>by
  simp at h1 h2
  obtain ⟨rfl,rfl⟩:=h2
  subst h1
  simp [ownOut,hs]
 | o::out,(t',s')::vt,j+1,n,t,s=>fun hs h1 h2=>by
  have:=ownOut_mem (out:=out) (vt:=vt) hs (by simpa using h1) (by simpa using h2)
  cases o with
  | none=>simpa [ownOut] using this
  | some m=>
   simp only [ownOut]
   split
   ·exact qmc _ this
   ·exact this
theorem rdOut_mem:∀ {out:List (Option Nat)} {vt:VT} {j n t:Nat} {s:Sh},out[j]?=some (some n)→vt[j]?=some (t,s)→s=.v∨s=.y→n∈rdOut out vt
 | [],_,_,_,_,_=>fun h=>by simp at h
 | _::_,[],_,_,_,_=>fun _ h=>by simp at h
 | o::out,(t',s')::vt,0,n,t,s=>fun h1 h2 h3=>by
  simp at h1 h2
  obtain ⟨rfl,rfl⟩:=h2
  subst h1
  rcases h3 with rfl | rfl <;> simp [rdOut,Sh.isO]
 | o::out,(t',s')::vt,j+1,n,t,s=>fun h1 h2 h3=>by
  have:=rdOut_mem (out:=out) (vt:=vt) (by simpa using h1) (by simpa using h2) h3
  cases o with
  | none=>simpa [rdOut] using this
  | some m=>
   simp only [rdOut]
   split
   ·exact this
   ·exact qmc _ this
theorem ownOut_inj:∀ {out:List (Option Nat)} {vt:VT},(ownOut out vt).Nodup→∀ {j k n t u:Nat} {s r:Sh},s.isO=true→r.isO=true→out[j]?=some (some n)→vt[j]?=some (t,s)→out[k]?=some (some n)→vt[k]?=some (u,r)→j=k
 | [],_=>fun _=>by simp
 | _::_,[]=>fun _=>by simp
 | o::out,(t',s')::vt=>fun hn=>by
  intro j k n t u s r hs hr h1 h2 h3 h4
  have tl:(ownOut out vt).Nodup:=by
   cases o with
   | none=>simpa [ownOut] using hn
   | some m=>
    simp only [ownOut] at hn
    split at hn
    ·exact (List.nodup_cons.1 hn).2
    ·exact hn
  cases j with
  | zero=>
   cases k with
   | zero=>rfl
   | succ k=>
    simp at h1 h2
    obtain ⟨rfl,rfl⟩:=h2
    subst h1
    have:=ownOut_mem (out:=out) (vt:=vt) hr (by simpa using h3) (by simpa using h4)
    simp only [ownOut,hs,if_true] at hn
    exact ((List.nodup_cons.1 hn).1 this).elim
  | succ j=>
   cases k with
   | zero=>
    simp at h3 h4
    obtain ⟨rfl,rfl⟩:=h4
    subst h3
    have:=ownOut_mem (out:=out) (vt:=vt) hs (by simpa using h1) (by simpa using h2)
    simp only [ownOut,hr,if_true] at hn
    exact ((List.nodup_cons.1 hn).1 this).elim
   | succ k=>
    have:=ownOut_inj tl (j:=j) (k:=k) (n:=n) (t:=t) (u:=u) (s:=s) (r:=r) hs hr (by simpa using h1) (by simpa using h2) (by simpa using h3) (by simpa using h4)
    omega
theorem outE_get {out:List (Option Nat)} {e:Env} {j n:Nat} (h:out[j]?=some (some n)):Env.E (outE out e) j=e.E n:=by
 simp [Env.E,outE,qgd,h]
theorem out_sound {c:Cx} {st:List Fact} {e:Env} {a:Act} {w:World} {vt:VT} {mask:Nat} {out:List (Option Nat)} (h:Holds c (·∈st) e.E a w) (ho:outOf st mask 0 vt=some out)
  (hn:(ownOut out vt).Nodup) (hd:∀ n∈ownOut out vt,n∉rdOut out vt):Holds c (·∈stOf vt mask) (Env.E (outE out e)) a w:=by
 obtain ⟨⟨vs,Bs,H⟩,hfix⟩:=h
 refine ⟨?_,hfix⟩
 obtain ⟨_,hspec⟩:=outOf_spec ho
 -- what a variable in its shape owns
 let ix:Nat→Nat:=fun i=>match out[i]? with | some (some n)=>n | _=>0
 let own?:Nat→Bool:=fun i=>match vt[i]? with | some (_,s)=>s.isO | _=>false
 have get:∀ i t s,vt[i]?=some (t,s)→mask.testBit i=true→∃ n s',out[i]?=some (some n)∧ix i=n∧Fact.sl t (.is n [])∈st∧Fact.en n s'∈st∧(s'=s∨(s=.v∧s'.okF=true)∨(s=.y∧s'.okF=true)):=by
  intro i t s h1 h2
  obtain ⟨n,s',q1,q2,q3,q4⟩:=hspec i t s h1 (by simpa using h2)
  exact ⟨n,s',q1,by simp [ix,q1],q2,q3,q4⟩
 let Bs':Nat→List Nat:=fun i=>if own? i then Bs (ix i) else []
 have ownB:∀ i t s,vt[i]?=some (t,s)→s.isO=true→Bs' i=Bs (ix i):=by
  intro i t s h hs; simp [Bs',own?,h,hs]
 have rdB:∀ i t s,vt[i]?=some (t,s)→s=.v∨s=.y→Bs' i=[]:=by
  intro i t s h hs; rcases hs with rfl | rfl <;> simp [Bs',own?,h,Sh.isO]
 have hO:∀ b,OB (·∈stOf vt mask) Bs' b→OB (·∈st) Bs b:=by
  rintro b ⟨i,s,hf,hb⟩
  obtain ⟨i',t,s',h1,h2,h3⟩:=mem_stOf.1 hf
  rcases h3 with h3 | h3
  ·simp at h3
  ·injection h3 with e1 e2
   subst e1 e2
   by_cases hs:s.isO=true
   ·rw [ownB i t s h1 hs] at hb
    obtain ⟨n,s2,q1,q2,q3,q4,q5⟩:=get i t _ h1 h2
    exact ⟨n,s2,q4,q2 ▸ hb⟩
   ·rw [rdB i t _ h1 (Sh.notO hs)] at hb; simp at hb
 refine ⟨fun i=>vs (ix i),Bs',?_,?_,?_,?_,?_,H.agr,H.os,H.tape,H.output,H.defers,H.size⟩
 ·intro i s hf
  obtain ⟨i',t,s',h1,h2,h3⟩:=mem_stOf.1 hf
  rcases h3 with h3 | h3
  ·simp at h3
  ·injection h3 with e1 e2
   subst e1 e2
   obtain ⟨n,s2,q1,q2,q3,q4,q5⟩:=get i t _ h1 h2
   rw [outE_get q1,q2]
   have hown:=H.own n s2 q4
   have fz:s=.v∨s=.y→s2.okF=true→Rd c.fid w.heap (fun b=>OB (·∈stOf vt mask) Bs' b∨c.Xb b) (e.E n) (vs n):=by
    intro hs q5
    refine Own.freeze (fun b _ q=>q.imp (hO b) id) s2 _ _ _ q5 ?_ hown
    rintro b hb (⟨j,s3,hf3,hb3⟩ | hx)
    ·obtain ⟨j',t3,s4,k1,k2,k3⟩:=mem_stOf.1 hf3
     rcases k3 with k3 | k3
     ·simp at k3
     ·injection k3 with e1 e2
      subst e1 e2
      by_cases hs3:s3.isO=true
      ·rw [ownB j t3 s3 k1 hs3] at hb3
       obtain ⟨m,s5,r1,r2,r3,r4,r5⟩:=get j t3 _ k1 k2
       rw [r2] at hb3
       have hne:n≠m:=by
        rintro rfl
        exact hd n (ownOut_mem hs3 r1 k1) (rdOut_mem q1 h1 hs)
       exact H.apart n s2 m s5 q4 r4 hne b hb hb3
      ·rw [rdB j t3 _ k1 (Sh.notO hs3)] at hb3; simp at hb3
    ·have:=c.hX b hx
     rcases H.mine n s2 q4 b hb with q | q
     ·omega
     ·exact this.2 q
   rcases q5 with rfl | ⟨rfl,q5⟩ | ⟨rfl,q5⟩
   ·have:=Own.ext (Agr.refl (fun _=>False) _) (fun _ _ q=>q.elim) (fun b _=>hO b) _ _ _ _ (fun _ _ q=>q) hown
    by_cases hs2:s2.isO=true
    ·rw [ownB i t s2 h1 hs2,q2]; exact this
    ·rcases Sh.notO hs2 with rfl | rfl
     ·rw [rdB i t _ h1 (.inl rfl)]; simp only [Own] at this ⊢; exact ⟨trivial,this.2⟩
     ·rw [rdB i t _ h1 (.inr rfl)]; simp only [Own] at this ⊢; exact ⟨trivial,this.2⟩
   ·rw [rdB i t _ h1 (.inl rfl)]
    simp only [Own]
    exact ⟨trivial,fz (.inl rfl) q5⟩
   ·rw [rdB i t _ h1 (.inr rfl)]
    simp only [Own]
    exact ⟨trivial,(fz (.inr rfl) q5).mono fun b _ q=>.inl q⟩
 ·intro i s hf
  obtain ⟨i',t,s',h1,h2,h3⟩:=mem_stOf.1 hf
  rcases h3 with h3 | h3
  ·simp at h3
  ·injection h3 with e1 e2
   subst e1 e2
   obtain ⟨n,s2,q1,q2,q3,q4,q5⟩:=get i t _ h1 h2
   by_cases hs:s.isO=true
   ·rw [ownB i t s h1 hs,q2]; exact H.nodup n s2 q4
   ·rw [rdB i t _ h1 (Sh.notO hs)]; exact List.nodup_nil
 ·intro i s hf b hb
  obtain ⟨n,s2,q4,hb2⟩:=hO b ⟨i,s,hf,hb⟩
  exact H.mine n s2 q4 b hb2
 ·intro i s j r hf hg hne b hb hb2
  obtain ⟨i',t,s',h1,h2,h3⟩:=mem_stOf.1 hf
  obtain ⟨j',t2,r',k1,k2,k3⟩:=mem_stOf.1 hg
  rcases h3 with h3 | h3
  ·simp at h3
  rcases k3 with k3 | k3
  ·simp at k3
  injection h3 with e1 e2
  subst e1 e2
  injection k3 with e1 e2
  subst e1 e2
  obtain ⟨n,s2,q1,q2,q3,q4,q5⟩:=get i t _ h1 h2
  obtain ⟨m,r2,p1,p2,p3,p4,p5⟩:=get j t2 _ k1 k2
  by_cases hs:s.isO=true
  ·by_cases hr:r.isO=true
   ·rw [ownB i t s h1 hs,q2] at hb
    rw [ownB j t2 r k1 hr,p2] at hb2
    have:n≠m:=by
     rintro rfl
     exact hne (ownOut_inj hn hs hr q1 h1 p1 k1)
    exact H.apart n s2 m r2 q4 p4 this b hb hb2
   ·rw [rdB j t2 _ k1 (Sh.notO hr)] at hb2; simp at hb2
  ·rw [rdB i t _ h1 (Sh.notO hs)] at hb; simp at hb
 ·intro t l hf
  obtain ⟨i,t',s',h1,h2,h3⟩:=mem_stOf.1 hf
  rcases h3 with h3 | h3
  ·injection h3 with e1 e2
   subst e1 e2
   obtain ⟨n,s2,q1,q2,q3,q4,q5⟩:=get i t _ h1 h2
   have:=H.loc t _ q3
   refine ⟨fun _=>?_,fun q=>(q (by simp [gdOK])).elim⟩
   show a.tmps[t]?=some (vs (ix i))
   rw [q2]; exact this.1 (by simp [gdOK])
  ·simp at h3
def trRegL (cf:CF) (sg:Nat→Option Sg) (vt:VT) (l:List (Nat×Array Oper×List Nat)) (L mask:Nat):Option S:=
 (trRegsL cf sg l (stOf vt L) vt.length).bind fun r=>(outOf r.2.1 mask 0 vt).bind fun out=>
  if mentsOK vt.length (r.1.map (·.it))=true∧(ownOut out vt).Nodup∧((ownOut out vt).all fun n=>!(rdOut out vt).contains n)=true then
   some (.reg (r.1.map (·.it)) out)
  else none
section
variable {cf:CF} {sg:Nat→Option Sg} {c:Cx} {K:Nat→List D→List D→Prop}
theorem regL_sound (hs:Sound cf sg K) (hc:cf.Fits c) {vt:VT} {l:List (Nat×Array Oper×List Nat)} {L mask:Nat} {s:S} (ht:trRegL cf sg vt l L mask=some s)
  {Q:X→Env→Prop} {e:Env} (hQ:wpS K s Q e) (hl:e.length=vt.length) {a:Act} {w:World} (H:Holds c (·∈stOf vt L) e.E a w) {d:Code} {Qc:Exit→Act→World→Prop}
  (hk:∀ e' a' w',e'.length=vt.length→Q .n e'→Holds c (·∈stOf vt mask) e'.E a' w'→d.wp c.P Qc a' w'):(chainC l d).wp c.P Qc a w:=by
 unfold trRegL at ht
 simp only [qbs] at ht
 obtain ⟨⟨qs,st',cnt'⟩,k1,out,k3,ht⟩:=ht
 simp only at k3 ht
 split at ht
 ·rename_i hcond
  obtain ⟨hments,hnd,hdis⟩:=hcond
  simp only [qsj] at ht
  subst ht
  simp only [wpS] at hQ
  obtain ⟨t,q1,q2,q3⟩:=wpIts_ok _ e (by rw [hl]; exact hments) hQ
  rw [hl] at q3
  have H1:Holds c (·∈stOf vt L) (Env.E (e++t)) a w:=H.congr fun i tt s hi _=>by
   have:i<e.length:=by
    rw [hl]
    rcases qlg i vt.length with q | q
    ·exact q
    ·rw [qgn q] at hi; simp at hi
   exact E_append this
  refine regsL_sound hs hc l _ _ _ _ _ k1 q3 a w H1 fun a2 w2 H3=>?_
  refine hk _ a2 w2 ?_ q1 (out_sound H3 k3 hnd ?_)
  ·rw [← (outOf_spec k3).1]; simp [outE]
  ·intro n hn
   simp only [qat,Bool.not_eq_true',List.contains_eq_mem,decide_eq_false_iff_not] at hdis
   exact hdis n hn
 ·simp at ht
theorem regG_sound (hs:Sound cf sg K) (hc:cf.Fits c) {vt:VT} {id:Nat} {ops:Array Oper} {hh:List Nat} {L mask:Nat} {s:S} (ht:trRegL cf sg vt [(id,ops,hh)] L mask=some s)
  {Q:X→Env→Prop} {e:Env} (hQ:wpS K s Q e) (hl:e.length=vt.length) {a:Act} {w:World} (H:Holds c (·∈stOf vt L) e.E a w) {Qc:Exit→Act→World→Prop}
  (hk:∀ e' a' w',e'.length=vt.length→Q .n e'→Holds c (·∈stOf vt mask) e'.E a' w'→Qc .normal a' w'):(Code.region id ops false).wp c.P Qc a w:=by
 unfold trRegL at ht
 simp only [qbs] at ht
 obtain ⟨⟨qs,st',cnt'⟩,k1,out,k3,ht⟩:=ht
 simp only at k3 ht
 split at ht
 ·rename_i hcond
  obtain ⟨hments,hnd,hdis⟩:=hcond
  simp only [qsj] at ht
  subst ht
  simp only [wpS] at hQ
  obtain ⟨t,q1,q2,q3⟩:=wpIts_ok _ e (by rw [hl]; exact hments) hQ
  rw [hl] at q3
  have H1:Holds c (·∈stOf vt L) (Env.E (e++t)) a w:=H.congr fun i tt s hi _=>by
   have:i<e.length:=by
    rw [hl]
    rcases qlg i vt.length with q | q
    ·exact q
    ·rw [qgn q] at hi; simp at hi
   exact E_append this
  simp only [trRegsL,qbs,qms,qpj] at k1
  obtain ⟨⟨r1,st1,c1⟩,h1,⟨r2,st2,c2⟩,⟨rfl,rfl,rfl⟩,rfl,h3⟩:=k1
  simp only [List.append_nil] at q3
  refine wp_region ?_
  rw [List.range_eq_range']
  have:=seqG_sound hs hc (Q:=Qc) ops.toList 0 _ _ _ _ _ _ h1 (fun j o hj=>by simpa using hj) q3 a w H1 fun a2 w2 H3=>by
   simp only [qpj] at h3
   obtain ⟨rfl,rfl⟩:=h3
   refine hk _ a2 w2 ?_ q1 (out_sound H3 k3 hnd ?_)
   ·rw [← (outOf_spec k3).1]; simp [outE]
   ·intro n hn
    simp only [qat,Bool.not_eq_true',List.contains_eq_mem,decide_eq_false_iff_not] at hdis
    exact hdis n hn
  simpa using this
 ·simp at ht
end
def trReg2 (cf:CF) (sg:Nat→Option Sg) (vt:VT) (o1 o2:Array Oper) (L:Nat) (h1 h2:Nat×List Nat):Option S:=
 (trSeq cf sg o1 o1.toList (stOf vt L) vt.length h1.2.tail).bind fun r=>(trSeq cf sg o2 o2.toList r.2.1 r.2.2 h2.2).bind fun q=>
  (outOf q.2.1 h2.1 0 vt).bind fun out=>
   if mentsOK vt.length (r.1.map (·.it)++q.1.map (·.it))=true∧(ownOut out vt).Nodup∧((ownOut out vt).all fun n=>!(rdOut out vt).contains n)=true then
    some (.reg (r.1.map (·.it)++q.1.map (·.it)) out)
   else none
section
variable {cf:CF} {sg:Nat→Option Sg} {c:Cx} {K:Nat→List D→List D→Prop}
theorem reg2_sound (hs:Sound cf sg K) (hc:cf.Fits c) {vt:VT} {o1 o2:Array Oper} {L:Nat} {h1 h2:Nat×List Nat} {s:S} (ht:trReg2 cf sg vt o1 o2 L h1 h2=some s)
  {Q:X→Env→Prop} {e:Env} (hQ:wpS K s Q e) (hl:e.length=vt.length) {a:Act} {w:World} (H:Holds c (·∈stOf vt L) e.E a w) {i1 i2:Nat} {b:Code} {Qc:Exit→Act→World→Prop}
  (hk:∀ e' a' w',e'.length=vt.length→Q .n e'→Holds c (·∈stOf vt h2.1) e'.E a' w'→b.wp c.P Qc a' w'):(Code.seq (.region i1 o1 false) (.seq (.region i2 o2 false) b)).wp c.P Qc a w:=by
 unfold trReg2 at ht
 simp only [qbs] at ht
 obtain ⟨⟨qs,st',cnt'⟩,k1,⟨qs2,st2,cnt2⟩,k2,out,k3,ht⟩:=ht
 simp only at k2 k3 ht
 split at ht
 ·rename_i hcond
  obtain ⟨hments,hnd,hdis⟩:=hcond
  simp only [qsj] at ht
  subst ht
  simp only [wpS] at hQ
  obtain ⟨t,q1,q2,q3⟩:=wpIts_ok _ e (by rw [hl]; exact hments) hQ
  rw [hl] at q3
  obtain ⟨q4,q5⟩:=q3.split
  have hcnt:=trSeq_cnt k1
  rw [← hcnt] at q5
  have H1:Holds c (·∈stOf vt L) (Env.E (e++t)) a w:=H.congr fun i tt s hi _=>by
   have:i<e.length:=by
    rw [hl]
    rcases qlg i vt.length with q | q
    ·exact q
    ·rw [qgn q] at hi; simp at hi
   exact E_append this
  refine wp_seq (wp_region ?_)
  rw [List.range_eq_range']
  have:=seq_sound hs hc (Q:=Exit.then ((Code.seq (.region i2 o2 false) b).wp c.P Qc) Qc) o1.toList 0 _ _ _ _ _ _ k1 (fun j o hj=>by simpa using hj) q4 a w H1 fun a1 w1 H2=>by
   refine wp_seq (wp_region ?_)
   rw [List.range_eq_range']
   have:=seq_sound hs hc (Q:=Exit.then (b.wp c.P Qc) Qc) o2.toList 0 _ _ _ _ _ _ k2 (fun j o hj=>by simpa using hj) q5 a1 w1 H2 fun a2 w2 H3=>by
    refine hk _ a2 w2 ?_ q1 (out_sound H3 k3 hnd ?_)
    ·rw [← (outOf_spec k3).1]; simp [outE]
    ·intro n hn
     simp only [qat,Bool.not_eq_true',List.contains_eq_mem,decide_eq_false_iff_not] at hdis
     exact hdis n hn
   simpa using this
  simpa using this
 ·simp at ht
theorem reg_sound (hs:Sound cf sg K) (hc:cf.Fits c) (hm:cf.P.follows .mixedOrders=true) {vt:VT} {ops:Array Oper} {draw:Bool} {L:Nat} {h:Nat×List Nat} {s:S} (ht:trReg cf sg vt ops draw L h=some s)
  {Q:X→Env→Prop} {e:Env} (hQ:wpS K s Q e) (hl:e.length=vt.length) {a:Act} {w:World} (H:Holds c (·∈stOf vt L) e.E a w) {id:Nat} {Qc:Exit→Act→World→Prop}
  (hk:∀ e' a' w',e'.length=vt.length→Q .n e'→Holds c (·∈stOf vt h.1) e'.E a' w'→Qc .normal a' w'):(Code.region id ops draw).wp c.P Qc a w:=by
 unfold trReg at ht
 simp only [qbs] at ht
 obtain ⟨⟨qp,st0,cnt0,hh0⟩,h0,⟨qs,st',cnt'⟩,h1,out,h2,ht⟩:=ht
 simp only at h1 h2 ht
 split at ht
 ·rename_i hcond
  obtain ⟨hments,hdraw,hnd,hdis⟩:=hcond
  simp only [qsj] at ht
  subst ht
  simp only [wpS] at hQ
  obtain ⟨t,q1,q2,q3⟩:=wpIts_ok _ e (by rw [hl]; exact hments) hQ
  rw [hl] at q3
  obtain ⟨p1,p2⟩:=proH_spec (c:=c) (K:=K) (E:=Env.E (e++t)) h0
  rw [List.map_append] at q3
  obtain ⟨q4,q3⟩:=q3.split
  rw [← p1] at q3
  have H1:Holds c (·∈st0) (Env.E (e++t)) a w:=p2 q4 <| H.congr fun i tt s hi _=>by
   have:i<e.length:=by
    rw [hl]
    rcases qlg i vt.length with q | q
    ·exact q
    ·rw [qgn q] at hi; simp at hi
   exact E_append this
  have fin:∀ a' w',Holds c (·∈st') (Env.E (e++t)) a' w'→Qc .normal a' w':=by
   intro a' w' H'
   refine hk _ a' w' ?_ q1 (out_sound H' h2 hnd ?_)
   ·rw [← (outOf_spec h2).1]; simp [outE]
   ·intro n hn
    simp only [qat,Bool.not_eq_true',List.contains_eq_mem,decide_eq_false_iff_not] at hdis
    exact hdis n hn
  cases draw with
  | false=>
   refine wp_region ?_
   have:=seq_sound hs hc (Q:=Qc) ops.toList 0 _ _ _ _ _ _ h1 (fun j o hj=>by simpa using hj) q3 a w H1 fin
   rw [List.range_eq_range']
   simpa using this
  | true=>
   simp only [Bool.not_true,Bool.false_or] at hdraw
   refine wp_region_any (by rw [hc.P]; exact hm) ?_
   obtain ⟨⟨vs,Bs,H2⟩,hfix⟩:=H1
   have H3:Holds c (·∈st0) (Env.E (e++t)) a { w with drawn:=w.drawn+1 }:=
    ⟨⟨vs,Bs,H2.own,H2.nodup,H2.mine,H2.apart,H2.loc,H2.agr,H2.os,H2.tape,H2.output,H2.defers,H2.size⟩,hfix⟩
   refine draw_sound hs hc h1 hdraw q3 fin ops.size _ a _ (by simp) ?_ ?_ (H3.mono fun f hf=>?_)
   ·exact Nat.le_trans (List.length_filter_le _ _) (by simp)
   ·intro k o hk
    rw [qag,Array.getElem?_replicate] at hk
    split at hk <;> simp at hk
   ·rcases hf with ⟨f1,_⟩ | ⟨j,r,f1,_⟩
    ·exact f1
    ·have f1':(Array.replicate ops.size false).getD j false=true:=f1
     rw [qag,Array.getElem?_replicate] at f1'
     split at f1' <;> simp at f1'
 ·simp at ht
end
end Go.Cat
namespace Go.Cat
def ghostH:Nat×List Nat→Bool
 | (_,k::_)=>k == 77776
 | _=>false
def mergeH:HL→Bool
 | (_,k::_)::_=>k == 77777 || k == 77778
 | _=>false
abbrev Tr:=Option (S×HL×Option Nat×List (Nat×Nat))
def meetL (o:Option Nat) (L:Nat):Option Nat:=match o with | none=>some L | some a=>some (a &&& L)
def meetO (a b:Option Nat):Option Nat:=match a,b with | none,b=>b | a,none=>a | some x,some y=>some (x &&& y)
def idxOf (vt:VT) (t:Nat):Option Nat:=vt.findIdx? (fun x=>x.1 == t)
def loopTr (body:HL→Nat→Tr) (hs:HL):Nat→Nat→Option (Nat×S×HL×List (Nat×Nat))
 | 0,_=>none
 | n+1,L=>(body hs L).bind fun r=>match r.2.2.1 with
  | none=>some (L,r.1,r.2.1,r.2.2.2)
  | some L1=>if subB L L1 then some (L,r.1,r.2.1,r.2.2.2) else loopTr body hs n (L &&& L1)
def wrT (t:Nat):Code→Bool
 | .region _ ops _=>ops.toList.any fun o=>o.dst == some t
 | .seq a b=>wrT t a || wrT t b
 | .cond _ a b=>wrT t a || wrT t b
 | _=>false
def keepT (t:Nat):Code→Code→Bool
 | .skip,y=>wrT t y
 | _,_=>false
theorem keepT_spec {t:Nat} {x y:Code} (h:keepT t x y=true):x=.skip:=by
 cases x <;> first | rfl | simp [keepT] at h
def backS (m L i:Nat) (b:Bool):S:=.reg [⟨[],[],.cs .v (.b b)⟩] ((List.range m).map fun j=>if j=i then some m else if L.testBit j=true then some j else none)
section
variable (cf:CF) (sg:Nat→Option Sg) (vt:VT) (res:List Nat)
def trS:Code→HL→Nat→Tr
 | .skip,hs,L=>some (.skip,hs,some L,[])
 | .region id ops draw,h::hs,L=>if ghostH h=true then (if draw=true then none else (trRegL cf sg vt [(id,ops,h.2.tail)] L h.1).map fun s=>(s,hs,some h.1,[]))
  else (trReg cf sg vt ops draw L h).map fun s=>(s,hs,some h.1,[])
 | .seq a b,hs,L=>if mergeH hs=true then match a,b,hs with
  | .region i1 o1 false,.seq (.region i2 o2 false) (.seq (.region i3 o3 false) (.seq (.region i4 o4 false) (.seq (.region i5 o5 false) (.seq (.region i6 o6 false) d)))),h1::h2::h3::h4::h5::h6::hs'=>
   (trRegL cf sg vt [(i1,o1,h1.2.tail),(i2,o2,h2.2),(i3,o3,h3.2),(i4,o4,h4.2),(i5,o5,h5.2),(i6,o6,h6.2)] L h6.1).bind fun s=>(trS d hs' h6.1).map fun q=>(.seq s q.1,q.2.1,q.2.2.1,q.2.2.2)
  | .region _ o1 false,.seq (.region _ o2 false) d,h1::h2::hs'=>(trReg2 cf sg vt o1 o2 L h1 h2).bind fun s=>(trS d hs' h2.1).map fun q=>(.seq s q.1,q.2.1,q.2.2.1,q.2.2.2)
  | _,_,_=>none
  else (trS a hs L).bind fun r=>match r.2.2.1 with
  | none=>some (.seq r.1 .skip,r.2.1,none,r.2.2.2)
  | some L1=>(trS b r.2.1 L1).map fun q=>(.seq r.1 q.1,q.2.1,q.2.2.1,r.2.2.2++q.2.2.2)
 | .cond (.tmp t) x y,hs,L=>(idxOf vt t).bind fun i=>
  if L.testBit i then if keepT t x y=true then (trS y hs (L ^^^ 2 ^ i)).map fun q=>(.cond i (backS vt.length L i true) q.1,q.2.1,meetO (some L) q.2.2.1,q.2.2.2)
  else if keepT t y x=true then (trS x hs (L ^^^ 2 ^ i)).map fun r=>(.cond i r.1 (backS vt.length L i false),r.2.1,meetO r.2.2.1 (some L),r.2.2.2)
  else (trS x hs (L ^^^ 2 ^ i)).bind fun r=>(trS y r.2.1 (L ^^^ 2 ^ i)).map fun q=>(.cond i r.1 q.1,q.2.1,meetO r.2.2.1 q.2.2.1,r.2.2.2++q.2.2.2)
  else none
 | .cond (.const (.bool b)) x y,hs,L=>(trS x hs L).bind fun r=>(trS y r.2.1 L).map fun q=>if b=true then (r.1,q.2.1,r.2.2.1,r.2.2.2) else (q.1,q.2.1,q.2.2.1,q.2.2.2)
 | .block id b,hs,L=>(trS b hs L).map fun r=>
  (.block id r.1,r.2.1,(r.2.2.2.filter (fun x=>x.1 == id)).foldl (fun o x=>meetL o x.2) r.2.2.1,r.2.2.2.filter (fun x=>x.1 != id))
 | .loop b,hs,L=>(loopTr (trS b) hs 5 L).map fun r=>(.loop r.2.1,r.2.2.1,none,r.2.2.2)
 | .exit id,hs,L=>some (.exit id,hs,none,[(id,L)])
 | .ret,hs,L=>if res.all (fun i=>L.testBit i) then some (.ret,hs,none,[]) else none
 | _,_,_=>none
end
def rOK (res:List Nat) (L:Nat):Prop:=∀ i∈res,L.testBit i=true
theorem exists_least {J:Nat→Prop} (h:∃ n,J n):∃ n,J n∧∀ m,m<n→¬ J m:=by
 obtain ⟨n,hn⟩:=h
 induction n using Nat.strongRecOn with
 | _ n ih=>
  by_cases hm:∃ m,m<n∧J m
  ·obtain ⟨m,h1,h2⟩:=hm
   exact ih m h1 h2
  ·exact ⟨n,hn,fun m h1 h2=>hm ⟨m,h1,h2⟩⟩
theorem loopTr_spec {body:HL→Nat→Tr} {hs:HL}:∀ {n L:Nat} {r:Nat×S×HL×List (Nat×Nat)},loopTr body hs n L=some r→subB r.1 L=true∧∃ nb,body hs r.1=some (r.2.1,r.2.2.1,nb,r.2.2.2)∧∀ L1,nb=some L1→subB r.1 L1=true
 | 0,_,_=>fun h=>by simp [loopTr] at h
 | n+1,L,r=>fun h=>by
  simp only [loopTr,qbs] at h
  obtain ⟨⟨s,h2,nb,ex⟩,h1,h⟩:=h
  simp only at h
  split at h
  ·simp only [qsj] at h
   subst h
   exact ⟨by simp [subB],none,h1,fun L1 he=>by simp at he⟩
  ·rename_i L1
   split at h
   ·rename_i hsub
    simp only [qsj] at h
    subst h
    refine ⟨by simp [subB],some L1,h1,fun L2 he=>?_⟩
    injection he with he; subst he; exact hsub
   ·obtain ⟨k1,k2⟩:=loopTr_spec h
    refine ⟨?_,k2⟩
    have hb:∀ i,r.1.testBit i=true→L.testBit i=true:=fun i hi=>by
     have:=subB_bit k1 i hi
     rw [Nat.testBit_and,qba] at this
     exact this.1
    simp only [subB,beq_iff_eq]
    apply Nat.eq_of_testBit_eq
    intro i
    rw [Nat.testBit_and]
    cases hi:r.1.testBit i with
    | false=>rfl
    | true=>rw [hb i hi]; rfl
theorem foldl_meet {id:Nat}:∀ {exs:List (Nat×Nat)} {o:Option Nat} {L:Nat},((id,L)∈exs∨o=some L)→∃ L',exs.foldl (fun o x=>meetL o x.2) o=some L'∧∀ i,L'.testBit i=true→L.testBit i=true
 | [],o,L=>fun h=>by
  simp only [qnm,false_or] at h
  exact ⟨L,by simp [h],fun _ h=>h⟩
 | (k,M)::exs,o,L=>fun h=>by
  simp only [List.foldl_cons]
  have step:∀ N,(meetL o M=some N)→(∀ i,N.testBit i=true→L.testBit i=true)→∃ L',exs.foldl (fun o x=>meetL o x.2) (meetL o M)=some L'∧∀ i,L'.testBit i=true→L.testBit i=true:=by
   intro N hN hb
   obtain ⟨L',e1,e2⟩:=foldl_meet (id:=id) (exs:=exs) (o:=meetL o M) (L:=N) (.inr hN)
   exact ⟨L',e1,fun i hi=>hb i (e2 i hi)⟩
  rcases h with h | h
  ·rcases qmn.1 h with h | h
   ·injection h with h1 h2
    subst h2
    cases o with
    | none=>exact step L rfl fun _ h=>h
    | some A=>
     refine step (A &&& L) rfl fun i hi=>?_
     rw [Nat.testBit_and,qba] at hi; exact hi.2
   ·exact foldl_meet (id:=id) (.inl h)
  ·subst h
   refine step (L &&& M) rfl fun i hi=>?_
   rw [Nat.testBit_and,qba] at hi; exact hi.1
def xe:X→Exit
 | .n=>.normal
 | .ex id=>.exit id
 | .r=>.ret
section
variable {cf:CF} {sg:Nat→Option Sg} {c:Cx} {K:Nat→List D→List D→Prop} {vt:VT} {res:List Nat}
theorem idxOf_spec {t i:Nat} (h:idxOf vt t=some i):∃ s,vt[i]?=some (t,s):=by
 unfold idxOf at h
 obtain ⟨h1,h2,_⟩:=List.findIdx?_eq_some_iff_getElem.1 h
 refine ⟨vt[i].2,?_⟩
 rw [qge h1]
 have:vt[i].1=t:=by simpa using h2
 rw [← this]
theorem set_E {e:Env} {i j:Nat} (h:j≠i):Env.E (e.set i .u) j=e.E j:=by
 simp [Env.E,qgd,List.getElem?_set_ne (Ne.symm h)]
theorem backS_sound {L i m:Nat} {b:Bool} {Q:X→Env→Prop} {e:Env} (h:wpS K (backS m L i b) Q (e.set i .u)) (hl:e.length=m) (hi:i<m) (hb:Env.E e i=.b b):
  ∃ e':Env,e'.length=m∧Q .n e'∧∀ j,j<m→L.testBit j=true→Env.E e' j=Env.E e j:=by
 simp only [backS,wpS,wpIts,wpIt,gdE,wpPr,evP] at h
 refine ⟨_,?_,h,fun j hj hL=>?_⟩
 ·simp [outE]
 ·have e1:∀ o:Option Nat,((List.range m).map fun j=>if j=i then some m else if L.testBit j=true then some j else none)[j]?=some o→Env.E (outE ((List.range m).map fun j=>if j=i then some m else if L.testBit j=true then some j else none) (e.set i .u++[.b b])) j=match o with | some n=>Env.E (e.set i .u++[.b b]) n | none=>.u:=by
   intro o ho
   show (outE _ _).getD j .u=_
   rw [qgd,outE,List.getElem?_map,ho]
   cases o <;> rfl
  have e2:((List.range m).map fun j=>if j=i then some m else if L.testBit j=true then some j else none)[j]?=some (if j=i then some m else some j):=by
   rw [List.getElem?_map,List.getElem?_range hj,Option.map_some,if_pos hL]
  rw [e1 _ e2]
  by_cases q:j=i
  ·subst q
   rw [if_pos rfl,hb]
   simp [Env.E,qgd,← hl]
  ·rw [if_neg q]
   show Env.E (e.set i .u++[.b b]) j=Env.E e j
   simp only [Env.E,qgd]
   rw [qgl (by simpa [hl] using hj),List.getElem?_set_ne (Ne.symm q)]
theorem trS_sound (hs:Sound cf sg K) (hc:cf.Fits c) (hm:cf.P.follows .mixedOrders=true):∀ (code:Code) (hh:HL) (L:Nat) (s:S) (hh':HL) (nrm:Option Nat) (exs:List (Nat×Nat)),
  trS cf sg vt res code hh L=some (s,hh',nrm,exs)→∀ (Q:X→Env→Prop) (e:Env) (a:Act) (w:World) (Qc:Exit→Act→World→Prop),wpS K s Q e→e.length=vt.length→Holds c (·∈stOf vt L) e.E a w→
  (∀ x e' a' w',e'.length=vt.length→Q x e'→(∃ L',(match x with | .n=>nrm=some L' | .ex id=>(id,L')∈exs | .r=>rOK res L')∧Holds c (·∈stOf vt L') e'.E a' w')→Qc (xe x) a' w')→
  code.wp c.P Qc a w
 | .skip,hh,L,s,hh',nrm,exs=>fun ht Q e a w Qc hQ hl H hk=>by
  simp only [trS,qsj,qpj] at ht
  obtain ⟨rfl,rfl,rfl,rfl⟩:=ht
  exact wp_skip (hk .n e a w hl hQ ⟨L,rfl,H⟩)
 | .region id ops draw,[],L,s,hh',nrm,exs=>fun ht=>by simp [trS] at ht
 | .region id ops draw,h::hh,L,s,hh',nrm,exs=>fun ht Q e a w Qc hQ hl H hk=>by
  unfold trS at ht
  split at ht
  ·split at ht
   ·cases ht
   ·rename_i hd
    simp only [qms,qpj] at ht
    obtain ⟨s',h1,rfl,rfl,rfl,rfl⟩:=ht
    have:draw=false:=by simpa using hd
    subst this
    exact regG_sound hs hc h1 hQ hl H fun e' a' w' hl' hq H'=>hk .n e' a' w' hl' hq ⟨h.1,rfl,H'⟩
  simp only [qms,qpj] at ht
  obtain ⟨s',h1,rfl,rfl,rfl,rfl⟩:=ht
  exact reg_sound hs hc hm h1 hQ hl H fun e' a' w' hl' hq H'=>hk .n e' a' w' hl' hq ⟨h.1,rfl,H'⟩
 | .seq x y,hh,L,s,hh',nrm,exs=>fun ht Q e a w Qc hQ hl H hk=>by
  unfold trS at ht
  split at ht
  ·split at ht
   ·rename_i i1 o1 i2 o2 i3 o3 i4 o4 i5 o5 i6 o6 d h1 h2 h3 h4 h5 h6 hs' _
    simp only [qbs,qms,qpj] at ht
    obtain ⟨s1,hr,⟨s2,hx3,n3,e3⟩,hd,rfl,rfl,rfl,rfl⟩:=ht
    simp only [wpS] at hQ
    refine regL_sound hs hc (d:=d) hr hQ hl H fun e' a' w' hl' hq H'=>?_
    exact trS_sound hs hc hm d hs' h6.1 _ _ _ _ hd Q e' a' w' Qc hq hl' H' hk
   ·rename_i i1 o1 i2 o2 d h1 h2 hs' _ _
    simp only [qbs,qms,qpj] at ht
    obtain ⟨s1,hr,⟨s2,h3,n3,e3⟩,hd,rfl,rfl,rfl,rfl⟩:=ht
    simp only [wpS] at hQ
    refine reg2_sound hs hc hr hQ hl H fun e' a' w' hl' hq H'=>?_
    exact trS_sound hs hc hm d hs' h2.1 _ _ _ _ hd Q e' a' w' Qc hq hl' H' hk
   ·cases ht
  simp only [qbs] at ht
  obtain ⟨⟨s1,h1,n1,e1⟩,hx,ht⟩:=ht
  simp only at ht
  split at ht
  ·simp only [qsj,qpj] at ht
   obtain ⟨rfl,rfl,rfl,rfl⟩:=ht
   simp only [wpS] at hQ
   refine wp_seq (trS_sound hs hc hm x hh L _ _ _ _ hx _ e a w _ hQ hl H ?_)
   rintro z e' a' w' hl' hq ⟨L',hz,H'⟩
   cases z with
   | n=>simp at hz
   | ex id=>exact hk (.ex id) e' a' w' hl' hq ⟨L',hz,H'⟩
   | r=>exact hk .r e' a' w' hl' hq ⟨L',hz,H'⟩
  ·rename_i L1
   simp only [qms,qpj] at ht
   obtain ⟨⟨s2,h2,n2,e2⟩,hy,rfl,rfl,rfl,rfl⟩:=ht
   simp only [wpS] at hQ
   refine wp_seq (trS_sound hs hc hm x hh L _ _ _ _ hx _ e a w _ hQ hl H ?_)
   rintro z e' a' w' hl' hq ⟨L',hz,H'⟩
   cases z with
   | n=>
    injection hz with hz
    subst hz
    refine trS_sound hs hc hm y _ _ _ _ _ _ hy Q e' a' w' Qc hq hl' H' ?_
    rintro z2 e3 a3 w3 hl3 hq3 ⟨L3,hz3,H3⟩
    refine hk z2 e3 a3 w3 hl3 hq3 ⟨L3,?_,H3⟩
    cases z2 with
    | n=>exact hz3
    | ex id=>exact qar _ hz3
    | r=>exact hz3
   | ex id=>exact hk (.ex id) e' a' w' hl' hq ⟨L',qal _ hz,H'⟩
   | r=>exact hk .r e' a' w' hl' hq ⟨L',hz,H'⟩
 | .cond (.tmp t) x y,hh,L,s,hh',nrm,exs=>fun ht Q e a w Qc hQ hl H hk=>by
  simp only [trS,qbs] at ht
  obtain ⟨i,hi,ht⟩:=ht
  split at ht
  ·rename_i hL
   obtain ⟨sh,hvt⟩:=idxOf_spec hi
   have H0:=H
   obtain ⟨⟨vs,Bs,HG⟩,hfix⟩:=H
   have f1:=HG.own i sh (mem_stOf.2 ⟨i,t,sh,hvt,hL,.inr rfl⟩)
   have f2:=(HG.loc t _ (mem_stOf.2 ⟨i,t,sh,hvt,hL,.inl rfl⟩)).1 (by simp [gdOK])
   have hsub:∀ j,(L ^^^ 2 ^ i).testBit j=true→L.testBit j=true∧j≠i:=by
    intro j hj
    rw [Nat.testBit_xor,Nat.testBit_two_pow] at hj
    by_cases hij:i=j
    ·subst hij; simp [hL] at hj
    ·simp [hij] at hj; exact ⟨hj,fun q=>hij q.symm⟩
   have H':Holds c (·∈stOf vt (L ^^^ 2 ^ i)) (Env.E (e.set i .u)) a w:=
    (Holds.mono ⟨⟨vs,Bs,HG⟩,hfix⟩ (stOf_mono fun j hj=>(hsub j hj).1)).congr fun j _ _ _ hj=>set_E (hsub j hj).2
   have him:i<vt.length:=by
    rcases qlg i vt.length with q | q
    ·exact q
    ·rw [qgn q] at hvt; cases hvt
   have hback:∀ {b:Bool},wpS K (backS vt.length L i b) Q (e.set i .u)→e.E i=.b b→∃ e':Env,e'.length=vt.length∧Q .n e'∧Holds c (·∈stOf vt L) e'.E a w:=by
    intro b hw hb
    obtain ⟨e',q1,q2,q3⟩:=backS_sound hw hl him hb
    refine ⟨e',q1,q2,H0.congr fun j t s hj hLj=>q3 j ?_ hLj⟩
    rcases qlg j vt.length with q | q
    ·exact q
    ·rw [qgn q] at hj; cases hj
   split at ht
   ·rename_i hkp
    obtain rfl:=keepT_spec hkp
    simp only [qms,qpj] at ht
    obtain ⟨⟨s2,h2,n2,e2⟩,hy,rfl,rfl,rfl,rfl⟩:=ht
    simp only [wpS] at hQ
    split at hQ
    ·rename_i hb
     rw [hb] at f1
     have hv:a.eval (.tmp t)=.bool true:=by
      rw [f1.bool] at f2; simp [Act.eval,f2]
     obtain ⟨e',q1,q2,q3⟩:=hback hQ hb
     refine wp_cond_true hv (wp_skip ?_)
     cases n2 with
     | none=>exact hk .n e' a w q1 q2 ⟨L,by simp [meetO],q3⟩
     | some M=>
      refine hk .n e' a w q1 q2 ⟨L &&& M,by simp [meetO],q3.mono (stOf_mono fun j hj=>?_)⟩
      rw [Nat.testBit_and,qba] at hj; exact hj.1
    ·rename_i hb
     rw [hb] at f1
     have hv:a.eval (.tmp t)=.bool false:=by
      rw [f1.bool] at f2; simp [Act.eval,f2]
     refine wp_cond_false hv (trS_sound hs hc hm y hh _ _ _ _ _ hy Q _ a w Qc hQ (by simpa using hl) H' ?_)
     rintro z e' a' w' hl' hq ⟨L',hz,H2⟩
     cases z with
     | n=>
      have hz':n2=some L':=hz
      refine hk .n e' a' w' hl' hq ⟨L &&& L',by simp [meetO,hz'],H2.mono (stOf_mono fun j hj=>?_)⟩
      rw [Nat.testBit_and,qba] at hj; exact hj.2
     | ex id=>exact hk (.ex id) e' a' w' hl' hq ⟨L',hz,H2⟩
     | r=>exact hk .r e' a' w' hl' hq ⟨L',hz,H2⟩
    ·exact hQ.elim
   split at ht
   ·rename_i hkp
    obtain rfl:=keepT_spec hkp
    simp only [qms,qpj] at ht
    obtain ⟨⟨s1,h1,n1,e1⟩,hx,rfl,rfl,rfl,rfl⟩:=ht
    simp only [wpS] at hQ
    split at hQ
    ·rename_i hb
     rw [hb] at f1
     have hv:a.eval (.tmp t)=.bool true:=by
      rw [f1.bool] at f2; simp [Act.eval,f2]
     refine wp_cond_true hv (trS_sound hs hc hm x hh _ _ _ _ _ hx Q _ a w Qc hQ (by simpa using hl) H' ?_)
     rintro z e' a' w' hl' hq ⟨L',hz,H2⟩
     cases z with
     | n=>
      have hz':n1=some L':=hz
      refine hk .n e' a' w' hl' hq ⟨L' &&& L,by simp [meetO,hz'],H2.mono (stOf_mono fun j hj=>?_)⟩
      rw [Nat.testBit_and,qba] at hj; exact hj.1
     | ex id=>exact hk (.ex id) e' a' w' hl' hq ⟨L',hz,H2⟩
     | r=>exact hk .r e' a' w' hl' hq ⟨L',hz,H2⟩
    ·rename_i hb
     rw [hb] at f1
     have hv:a.eval (.tmp t)=.bool false:=by
      rw [f1.bool] at f2; simp [Act.eval,f2]
     obtain ⟨e',q1,q2,q3⟩:=hback hQ hb
     refine wp_cond_false hv (wp_skip ?_)
     cases n1 with
     | none=>exact hk .n e' a w q1 q2 ⟨L,by simp [meetO],q3⟩
     | some M=>
      refine hk .n e' a w q1 q2 ⟨M &&& L,by simp [meetO],q3.mono (stOf_mono fun j hj=>?_)⟩
      rw [Nat.testBit_and,qba] at hj; exact hj.2
    ·exact hQ.elim
   simp only [qbs,qms,qpj] at ht
   obtain ⟨⟨s1,h1,n1,e1⟩,hx,⟨s2,h2,n2,e2⟩,hy,rfl,rfl,rfl,rfl⟩:=ht
   simp only [wpS] at hQ
   split at hQ
   ·rename_i hb
    rw [hb] at f1
    have hv:a.eval (.tmp t)=.bool true:=by
     rw [f1.bool] at f2; simp [Act.eval,f2]
    refine wp_cond_true hv (trS_sound hs hc hm x hh _ _ _ _ _ hx Q _ a w Qc hQ (by simpa using hl) H' ?_)
    rintro z e' a' w' hl' hq ⟨L',hz,H2⟩
    cases z with
    | n=>
     cases n2 with
     | none=>
      have hz':n1=some L':=hz
      exact hk .n e' a' w' hl' hq ⟨L',by simp [meetO,hz'],H2⟩
     | some M=>
      have hz':n1=some L':=hz
      refine hk .n e' a' w' hl' hq ⟨L' &&& M,by simp [meetO,hz'],H2.mono (stOf_mono fun j hj=>?_)⟩
      rw [Nat.testBit_and,qba] at hj; exact hj.1
    | ex id=>exact hk (.ex id) e' a' w' hl' hq ⟨L',qal _ hz,H2⟩
    | r=>exact hk .r e' a' w' hl' hq ⟨L',hz,H2⟩
   ·rename_i hb
    rw [hb] at f1
    have hv:a.eval (.tmp t)=.bool false:=by
     rw [f1.bool] at f2; simp [Act.eval,f2]
    refine wp_cond_false hv (trS_sound hs hc hm y _ _ _ _ _ _ hy Q _ a w Qc hQ (by simpa using hl) H' ?_)
    rintro z e' a' w' hl' hq ⟨L',hz,H2⟩
    cases z with
    | n=>
     have hz':n2=some L':=hz
     cases n1 with
     | none=>exact hk .n e' a' w' hl' hq ⟨L',by simp [meetO,hz'],H2⟩
     | some M=>
      refine hk .n e' a' w' hl' hq ⟨M &&& L',by simp [meetO,hz'],H2.mono (stOf_mono fun j hj=>?_)⟩
      rw [Nat.testBit_and,qba] at hj; exact hj.2
    | ex id=>exact hk (.ex id) e' a' w' hl' hq ⟨L',qar _ hz,H2⟩
    | r=>exact hk .r e' a' w' hl' hq ⟨L',hz,H2⟩
   ·exact hQ.elim
  ·simp at ht
 | .block id b,hh,L,s,hh',nrm,exs=>fun ht Q e a w Qc hQ hl H hk=>by
  simp only [trS,qms,qpj] at ht
  obtain ⟨⟨s1,h1,n1,e1⟩,hb,rfl,rfl,rfl,rfl⟩:=ht
  simp only [wpS] at hQ
  refine wp_block (trS_sound hs hc hm b hh L _ _ _ _ hb _ e a w _ hQ hl H ?_)
  rintro z e' a' w' hl' hq ⟨L',hz,H'⟩
  cases z with
  | n=>
   have hz':n1=some L':=hz
   obtain ⟨L2,q1,q2⟩:=foldl_meet (id:=id) (exs:=e1.filter (fun x=>x.1 == id)) (o:=n1) (L:=L') (.inr hz')
   exact hk .n e' a' w' hl' hq ⟨L2,q1,H'.mono (stOf_mono q2)⟩
  | ex j=>
   have hz':(j,L')∈e1:=hz
   by_cases hj:j=id
   ·subst hj
    have hq':Q .n e':=by simpa using hq
    obtain ⟨L2,q1,q2⟩:=foldl_meet (id:=j) (exs:=e1.filter (fun x=>x.1 == j)) (o:=n1) (L:=L') (.inl (by simp [hz']))
    simp only [xe,Exit.inBlock,if_true]
    exact hk .n e' a' w' hl' hq' ⟨L2,q1,H'.mono (stOf_mono q2)⟩
   ·have hq':Q (.ex j) e':=by simpa [hj] using hq
    simp only [xe,Exit.inBlock,if_neg hj]
    exact hk (.ex j) e' a' w' hl' hq' ⟨L',by simp [hz',hj],H'⟩
  | r=>exact hk .r e' a' w' hl' hq ⟨L',hz,H'⟩
 | .loop b,hh,L,s,hh',nrm,exs=>fun ht Q e a w Qc hQ hl H hk=>by
  simp only [trS,qms,qpj] at ht
  obtain ⟨⟨Lh,s1,h1,e1⟩,hb,rfl,rfl,rfl,rfl⟩:=ht
  obtain ⟨k1,nb,k2,k3⟩:=loopTr_spec hb
  simp only at k1 k2 k3
  simp only [wpS] at hQ
  let J:Act→World→Nat→Prop:=fun a w n=>∃ e,wpLoop (wpS K s1) n Q e∧e.length=vt.length∧Holds c (·∈stOf vt Lh) e.E a w
  let I:Act→World→Prop:=fun a w=>∃ n,J a w n
  open Classical in
  let μ:Act→World→Nat:=fun a w=>if h:∃ n,J a w n then Classical.choose (exists_least h) else 0
  have hμ:∀ a w,I a w→J a w (μ a w)∧∀ m,m < μ a w→¬ J a w m:=by
   intro a w h
   have h':∃ n,J a w n:=h
   simp only [μ,dif_pos h']
   exact Classical.choose_spec (exists_least h')
  obtain ⟨n,hn⟩:=hQ
  refine wp_loop I μ ⟨n,e,hn,hl,H.mono (stOf_mono (subB_bit k1))⟩ ?_
  intro a w hI
  obtain ⟨⟨e,hw,hl2,H2⟩,hmin⟩:=hμ a w hI
  generalize hμn:μ a w=n at*
  cases n with
  | zero=>simp [wpLoop] at hw
  | succ n=>
   simp only [wpLoop] at hw
   refine trS_sound hs hc hm b hh Lh _ _ _ _ k2 _ e a w _ hw hl2 H2 ?_
   rintro z e' a' w' hl' hq ⟨L',hz,H'⟩
   cases z with
   | n=>
    have hJ:J a' w' n:=⟨e',hq,hl',H'.mono (stOf_mono (subB_bit (k3 L' hz)))⟩
    refine ⟨⟨n,hJ⟩,?_⟩
    have:=hμ a' w' ⟨n,hJ⟩
    have hle:¬ n < μ a' w':=fun q=>this.2 n q hJ
    show μ a' w' < n+1
    omega
   | ex id=>exact hk (.ex id) e' a' w' hl' hq ⟨L',hz,H'⟩
   | r=>exact hk .r e' a' w' hl' hq ⟨L',hz,H'⟩
 | .exit id,hh,L,s,hh',nrm,exs=>fun ht Q e a w Qc hQ hl H hk=>by
  simp only [trS,qsj,qpj] at ht
  obtain ⟨rfl,rfl,rfl,rfl⟩:=ht
  exact wp_exit (hk (.ex id) e a w hl hQ ⟨L,by simp,H⟩)
 | .ret,hh,L,s,hh',nrm,exs=>fun ht Q e a w Qc hQ hl H hk=>by
  simp only [trS] at ht
  split at ht
  ·rename_i hr
   simp only [qsj,qpj] at ht
   obtain ⟨rfl,rfl,rfl,rfl⟩:=ht
   exact wp_ret (hk .r e a w hl hQ ⟨L,fun i hi=>qat.1 hr i hi,H⟩)
  ·simp at ht
 | .cond (.const v) x y,hh,L,s,hh',nrm,exs=>fun ht Q e a w Qc hQ hl H hk=>by
  cases v with
  | bool b=>
   simp only [trS,qbs,qms] at ht
   obtain ⟨⟨s1,h1,n1,e1⟩,hx,⟨s2,h2,n2,e2⟩,hy,heq⟩:=ht
   cases b with
   | true=>
    simp only [if_true,qpj] at heq
    obtain ⟨rfl,rfl,rfl,rfl⟩:=heq
    exact wp_cond_true rfl (trS_sound hs hc hm x hh _ _ _ _ _ hx Q _ a w Qc hQ hl H hk)
   | false=>
    simp only [qft,if_false,qpj] at heq
    obtain ⟨rfl,rfl,rfl,rfl⟩:=heq
    exact wp_cond_false rfl (trS_sound hs hc hm y _ _ _ _ _ _ hy Q _ a w Qc hQ hl H hk)
  | _=>simp [trS] at ht
 | .cond (.global _) _ _,_,_,_,_,_,_=>fun ht=>by simp [trS] at ht
 | .cond (.func _) _ _,_,_,_,_,_,_=>fun ht=>by simp [trS] at ht
 | .rangeFunc ..,_,_,_,_,_,_=>fun ht=>by simp [trS] at ht
 | .scope _,_,_,_,_,_,_=>fun ht=>by simp [trS] at ht
 | .label _,_,_,_,_,_,_=>fun ht=>by simp [trS] at ht
 | .goto _,_,_,_,_,_,_=>fun ht=>by simp [trS] at ht
 | .refuse _,_,_,_,_,_,_=>fun ht=>by simp [trS] at ht
end
structure IF where
 cl:List (Nat×Nat)
 np:Nat
 nv:Nat
 res:List Nat
 body:S
def cellsOK (cl:List (Nat×Nat)) (rs:List D):Bool:=cl.all fun x=>match rs[x.1]? with
 | some d=>lenG x.2 d
 | none=>false
def Body (K:Nat→List D→List D→Prop) (f:IF) (ds rs:List D):Prop:=
 (ds.length=f.np∧cellsOK f.cl rs=true)∧wpS K f.body (fun x e=>(match x with | .ex _=>False | _=>True)∧rs=f.res.map e.E) (ds++List.replicate (f.nv-f.np) .u)
def resIdx (P:Program) (vt:VT):List ResultVar→Option (List (Nat×Option Nat))
 | []=>some []
 | .tmp t::r=>(idxOf vt t).bind fun i=>(resIdx P vt r).map ((i,none)::·)
 | .cell t ty::r=>(structN P ty).bind fun n=>(idxOf vt t).bind fun i=>(resIdx P vt r).map ((i,some n)::·)
def clS:Option (Nat×Nat×List Nat)→List Nat
 | none=>[]
 | some x=>x.1::x.2.2
def parsOK (vt:VT) (ps:List Sh):Bool:=ps.zipIdx.all fun x=>vt[x.2]? == some (x.2,x.1)
def outSh:Option Nat→Sh→Option Sh
 | none,q=>some q
 | some _,.b s=>some (.a s)
 | some _,_=>none
def shOK (vt:VT) (rx:List (Nat×Option Nat)) (qs:List Sh):Bool:=rx.length == qs.length&&(rx.zip qs).all fun x=>((vt[x.1.1]?).bind fun y=>outSh x.1.2 y.2) == some x.2
def clOf (rx:List (Nat×Option Nat)):List (Nat×Nat):=rx.zipIdx.filterMap fun x=>x.1.2.map fun n=>(x.2,n)
def nrmOK (res:List Nat):Option Nat→Bool
 | some L=>res.all (fun i=>L.testBit i)
 | none=>true
def trF (cf:CF) (sg:Nat→Option Sg) (vt:VT) (hl:HL) (fn:Func) (s:Sg):Option IF:=
 match fn.body with
 | none=>none
 | some code=>(resIdx cf.P vt fn.results.toList).bind fun rx=>(trS cf sg vt (rx.map (·.1)++s.io) code hl (2 ^ s.ps.length-1)).bind fun r=>
  if s.ps.length≤vt.length∧s.ps.length≤fn.ntmps∧parsOK vt s.ps=true∧shOK vt (rx++s.io.map fun i=>(i,none)) s.outs=true∧(rx.map (·.1)++s.io).Nodup∧r.2.2.2=[]∧nrmOK (rx.map (·.1)++s.io) r.2.2.1=true∧cf.nt=fn.ntmps∧
    ((s.io++clS s.fb).all fun i=>cf.fx.contains i&&decide (i<s.ps.length))=true∧rx.length=s.qs.length∧cf.cl=s.fb then
   some ⟨clOf rx,s.ps.length,vt.length,rx.map (·.1)++s.io,r.1⟩
  else none
theorem resIdx_spec {P:Program} {vt:VT}:∀ {l:List ResultVar} {res:List (Nat×Option Nat)},resIdx P vt l=some res→l.length=res.length∧
  ∀ (j:Nat) (x:Nat×Option Nat),res[j]?=some x→∃ t s,vt[x.1]?=some (t,s)∧((x.2=none∧l[j]?=some (ResultVar.tmp t))∨∃ n ty,x.2=some n∧structN P ty=some n∧l[j]?=some (ResultVar.cell t ty))
 | [],res,h=>by simp only [resIdx,qsj] at h; subst h; simp
 | .tmp t::l,res,h=>by
  simp only [resIdx,qbs,qms] at h
  obtain ⟨i,hi,r,hr,rfl⟩:=h
  obtain ⟨e1,e2⟩:=resIdx_spec hr
  refine ⟨by simp [e1],fun j k hj=>?_⟩
  cases j with
  | zero=>
   simp at hj; subst hj
   obtain ⟨s,hs⟩:=idxOf_spec hi
   exact ⟨t,s,hs,.inl ⟨rfl,by simp⟩⟩
  | succ j=>simpa using e2 j k (by simpa using hj)
 | .cell t ty::l,res,h=>by
  simp only [resIdx,qbs,qms] at h
  obtain ⟨n,hn,i,hi,r,hr,rfl⟩:=h
  obtain ⟨e1,e2⟩:=resIdx_spec hr
  refine ⟨by simp [e1],fun j k hj=>?_⟩
  cases j with
  | zero=>
   simp at hj; subst hj
   obtain ⟨s,hs⟩:=idxOf_spec hi
   exact ⟨t,s,hs,.inr ⟨n,ty,rfl,hn,by simp⟩⟩
  | succ j=>simpa using e2 j k (by simpa using hj)
theorem clOf_ok {rx:List (Nat×Option Nat)} {rs:List D} (h:cellsOK (clOf rx) rs=true) {j i n:Nat} (hj:rx[j]?=some (i,some n)):∃ xs,rs[j]?=some (.g xs)∧xs.length=n:=by
 simp only [cellsOK,qat] at h
 have:=h (j,n) (by
  unfold clOf
  refine List.mem_filterMap.2 ⟨((i,some n),j),?_,rfl⟩
  rw [List.mem_iff_getElem?]
  exact ⟨j,by simp [List.getElem?_zipIdx,hj]⟩)
 simp only at this
 split at this
 ·rename_i d hd
  unfold lenG at this
  split at this
  ·rename_i xs; exact ⟨xs,hd,by simpa using this⟩
  ·cases this
 ·cases this
theorem testBit_ones {n i:Nat}:(2 ^ n-1).testBit i=decide (i<n):=Nat.testBit_two_pow_sub_one n i
theorem EachS.of {α:Type} {R:Sh→D→Value→List Nat→Prop} {E:α→D} {vs:α→Value} {Bs:α→List Nat}:∀ (res:List α) (qs:List Sh),res.length=qs.length→
  (∀ (j:Nat) (i:α) (q:Sh),res[j]?=some i→qs[j]?=some q→R q (E i) (vs i) (Bs i))→EachS R qs (res.map E) (res.map vs) (res.flatMap Bs)
 | [],[],_,_=>by simp [EachS]
 | i::res,q::qs,hl,h=>by
  simp only [List.map_cons,List.flatMap_cons,EachS]
  exact ⟨Bs i,res.flatMap Bs,rfl,h 0 i q (by simp) (by simp),EachS.of res qs (by simpa using hl) fun j k r h1 h2=>h (j+1) k r (by simpa using h1) (by simpa using h2)⟩
 | [],_::_,hl,_=>by simp at hl
 | _::_,[],hl,_=>by simp at hl
theorem run_results {P:Program} {w:World} {tm:Array Value}:∀ (l:List ResultVar) (vals:List Value),l.length=vals.length→
  (∀ (j:Nat) (v:Value),vals[j]?=some v→(∃ t,l[j]?=some (ResultVar.tmp t)∧tm.getD t undef=v)∨∃ t ty,l[j]?=some (ResultVar.cell t ty)∧(do loadVar ty (← asAddr (tm.getD t undef)):Sem Value).run P w=.ok v w)→
  (l.mapM (fun (x:ResultVar)=>match x with | .tmp t=>(Pure.pure (tm.getD t undef):Sem Value) | .cell a t=>do loadVar t (← asAddr (tm.getD a undef)))).run P w=.ok vals w
 | [],[],_,_=>rfl
 | r::l,v::vals,hl,h=>by
  rw [List.mapM_cons,Sem.run_bind]
  have ih:=run_results l vals (by simpa using hl) fun j v hj=>by simpa using h (j+1) v (by simpa using hj)
  rcases h 0 v (by simp) with ⟨t,h1,h2⟩ | ⟨t,ty,h1,h2⟩
  ·simp only [List.getElem?_cons_zero,qsj] at h1
   subst h1
   simp only [Sem.run_pure,Result.andThen,Sem.run_bind]
   rw [ih]
   simp [h2]
  ·simp only [List.getElem?_cons_zero,qsj] at h1
   subst h1
   simp only [h2,Result.andThen,Sem.run_bind]
   rw [ih]
   simp
 | [],_::_,hl,_=>by simp at hl
 | _::_,[],hl,_=>by simp at hl
section
variable {cf:CF} {sg:Nat→Option Sg} {K:Nat→List D→List D→Prop} {vt:VT}
theorem tupled_of (l:List Value):tupled (if h:l.toArray.size=1 then l.toArray[0] else .tuple l.toArray) l:=by
 match l with
 | []=>simp [tupled]
 | [x]=>simp [tupled]
 | x::y::l=>simp [tupled]
theorem fst_inj {α β:Type}:∀ {l:List (α×β)},l.Pairwise (fun a b=>a.1≠b.1)→∀ x∈l,∀ y∈l,x≠y→x.1≠y.1
 | [],_,x,hx,_,_,_=>by simp at hx
 | a::l,h,x,hx,y,hy,hne=>by
  obtain ⟨h1,h2⟩:=List.pairwise_cons.1 h
  rcases qmn.1 hx with rfl | hx2
  ·rcases qmn.1 hy with rfl | hy2
   ·exact (hne rfl).elim
   ·exact h1 y hy2
  ·rcases qmn.1 hy with rfl | hy2
   ·exact fun e=>h1 x hx2 e.symm
   ·exact fst_inj h2 x hx2 y hy2 hne
theorem con_of_body (hs:Sound cf sg K) (hm:cf.P.follows .mixedOrders=true) (hgof:∀ f k,cf.gof f=some k→cf.fid k=f) {hl:HL} {fn:Func} {s:Sg} {f:IF} {fi:FuncId}
  (ht:trF cf sg vt hl fn s=some f) (hfn:cf.P.funcs[fi]?=some fn) {ds rs:List D} (hb:Body K f ds rs):Con cf.P cf.fid fi s ds rs:=by
 intro w X args B hB hX hargs hfbc
 unfold trF at ht
 split at ht
 ·simp at ht
 ·rename_i code hcode
  simp only [qbs] at ht
  obtain ⟨rx,hres,⟨st,hl2,nrm,exs⟩,htr,ht⟩:=ht
  split at ht
  ·rename_i hcond
   obtain ⟨c1,c2,c3,c4,c5,c6,c7,c8,c9,c10,c11⟩:=hcond
   simp only [qat,qba,List.contains_eq_mem,qde] at c9
   simp only [qsj] at ht
   subst ht
   subst c6
   obtain ⟨⟨hdl,hcl⟩,hwp⟩:=hb
   obtain ⟨l1,l2,bf,k1,k2,k3,k4⟩:=EachS.fn hargs hB
   let c:Cx:=⟨cf.P,cf.fid,w,(·∈B),X,cf.nt,(s.io++clS s.fb).map fun i=>(i,args.getD i undef),hX⟩
   have hc:cf.Fits c:=⟨rfl,rfl,rfl,hgof,by
    intro x hx
    obtain ⟨i,hi,rfl⟩:=List.mem_map.1 hx
    exact (c9 i hi).1,by
    intro m k cs hcl
    rw [c11] at hcl
    rw [hcl] at hfbc
    obtain ⟨b,hs,e,fz,q1,q2,q3,q4⟩:=hfbc
    refine ⟨b,hs,e,fz,fun i=>args.getD i undef,?_,?_,q2,q3,q4⟩
    ·refine List.mem_map.2 ⟨m,qar _ (by rw [hcl]; simp [clS]),?_⟩
     simp [qgd,q1]
    ·intro t ht
     exact List.mem_map.2 ⟨t,qar _ (by rw [hcl]; simp [clS,ht]),rfl⟩⟩
   let a0:Act:={ tmps:=args.toArray++Array.replicate (fn.ntmps-args.toArray.size) undef,defers:=[] }
   let e0:Env:=ds++List.replicate (vt.length-s.ps.length) D.u
   have he0:e0.length=vt.length:=by simp [e0]; omega
   have pv:∀ i t sh,vt[i]?=some (t,sh)→(2 ^ s.ps.length-1).testBit i=true→i<s.ps.length∧t=i∧s.ps[i]?=some sh:=by
    intro i t sh h1 h2
    rw [testBit_ones] at h2
    have hi:i<s.ps.length:=by simpa using h2
    simp only [parsOK,qat] at c3
    have:=c3 (s.ps[i],i) (List.mem_zipIdx_iff_getElem?.2 (by simp [hi]))
    simp only [beq_iff_eq] at this
    rw [h1] at this
    simp only [qsj,qpj] at this
    exact ⟨hi,this.1,by rw [this.2]; simp [hi]⟩
   have getE:∀ i,i<ds.length→e0.E i=ds.getD i .u:=by
    intro i hi
    simp [Env.E,e0,qgd,qgl hi]
   have H0:Holds c (·∈stOf vt (2 ^ s.ps.length-1)) e0.E a0 w:=by
    refine ⟨⟨fun i=>args.getD i undef,bf,?_,?_,?_,?_,?_,Agr.refl _ _,rfl,rfl,rfl,rfl,?_⟩,?fixed⟩
    case fixed=>
     intro x hx
     obtain ⟨i,hi,rfl⟩:=List.mem_map.1 hx
     have hil:=(c9 i hi).2
     show (args.toArray++Array.replicate (fn.ntmps-args.toArray.size) undef)[i]?=_
     rw [Array.getElem?_append_left (by simp; omega)]
     simp [qgd,show i<args.length by omega]
    ·intro n sh hf
     obtain ⟨i,t,s',h1,h2,h3⟩:=mem_stOf.1 hf
     rcases h3 with h3 | h3
     ·simp at h3
     ·injection h3 with e1 e2
      subst e1 e2
      obtain ⟨q1,q2,q3⟩:=pv n t sh h1 h2
      rw [getE n (by omega)]
      have:=k1 n sh (ds.getD n .u) (args.getD n undef) q3 (by simp [qgd,show n<ds.length by omega]) (by simp [qgd,show n<args.length by omega])
      refine Own.ext (Agr.refl (fun _=>False) _) (fun _ _ q=>q.elim) (fun b _ hb=>?_) _ _ _ _ (fun _ _ q=>q) this
      obtain ⟨m,r,hm,hbm⟩:=hb
      obtain ⟨i2,t2,s2,g1,g2,g3⟩:=mem_stOf.1 hm
      rcases g3 with g3 | g3
      ·simp at g3
      ·injection g3 with e1 e2
       subst e1 e2
       exact (k2 m (by have:=(pv m t2 r g1 g2).1; omega)).2 b hbm
    ·intro n sh hf
     obtain ⟨i,t,s',h1,h2,h3⟩:=mem_stOf.1 hf
     rcases h3 with h3 | h3
     ·simp at h3
     ·injection h3 with e1 e2
      subst e1 e2
      exact (k2 n (by have:=(pv n t sh h1 h2).1; omega)).1
    ·intro n sh hf b hb
     obtain ⟨i,t,s',h1,h2,h3⟩:=mem_stOf.1 hf
     rcases h3 with h3 | h3
     ·simp at h3
     ·injection h3 with e1 e2
      subst e1 e2
      exact .inr ((k2 n (by have:=(pv n t sh h1 h2).1; omega)).2 b hb)
    ·intro n sh m r hf hg hne b hb hb2
     obtain ⟨i,t,s',h1,h2,h3⟩:=mem_stOf.1 hf
     obtain ⟨i2,t2,s2,g1,g2,g3⟩:=mem_stOf.1 hg
     rcases h3 with h3 | h3
     ·simp at h3
     rcases g3 with g3 | g3
     ·simp at g3
     injection h3 with e1 e2
     subst e1 e2
     injection g3 with e1 e2
     subst e1 e2
     have p1:=(pv n t sh h1 h2).1
     have p2:=(pv m t2 r g1 g2).1
     exact k3 n m (by omega) (by omega) hne b hb hb2
    ·intro t l hf
     obtain ⟨i,t',s',h1,h2,h3⟩:=mem_stOf.1 hf
     rcases h3 with h3 | h3
     ·injection h3 with e1 e2
      subst e1 e2
      obtain ⟨q1,q2,q3⟩:=pv i t s' h1 h2
      subst q2
      refine ⟨fun _=>?_,fun q=>(q (by simp [gdOK])).elim⟩
      show (args.toArray++Array.replicate (fn.ntmps-args.toArray.size) undef)[t]?=_
      rw [Array.getElem?_append_left (by simp; omega)]
      simp [qgd,show t<args.length by omega]
     ·simp at h3
    ·show (args.toArray++Array.replicate (fn.ntmps-args.toArray.size) undef).size=cf.nt
     simp; omega
   refine calls_of_wp hfn hcode ?_
   refine trS_sound hs hc hm code hl _ _ _ _ _ htr _ e0 a0 w _ hwp he0 H0 ?_
   rintro z e' a' w' hl' ⟨hz1,hz2⟩ ⟨L',hz,⟨vs,Bs,H⟩,hfix⟩
   have hrL:(∃ id,z=.ex id)∨rOK (rx.map (·.1)++s.io) L':=by
    cases z with
    | n=>
     right
     have hz':nrm=some L':=hz
     simp only [hz',nrmOK] at c7
     exact fun i hi=>qat.1 c7 i hi
    | ex id=>exact .inl ⟨id,rfl⟩
    | r=>exact .inr hz
   rcases hrL with ⟨id,rfl⟩ | hrL
   ·exact hz1.elim
   have hres2:=resIdx_spec hres
   simp only [shOK,qba,beq_iff_eq,qat] at c4
   obtain ⟨ro,hro⟩:∃ ro:List (Nat×Option Nat),ro=rx++s.io.map fun i=>(i,none):=⟨_,rfl⟩
   have hro1:rx.map (·.1)++s.io=ro.map (·.1):=by rw [hro]; simp [List.map_map,Function.comp_def]
   rw [hro1] at c5 hrL
   have hz2:rs=(rx.map (·.1)++s.io).map e'.E:=hz2
   rw [hro1] at hz2
   rw [← hro] at c4
   have rfact:∀ (j:Nat) (x:Nat×Option Nat),ro[j]?=some x→∃ t q q',vt[x.1]?=some (t,q)∧outSh x.2 q=some q'∧s.outs[j]?=some q'∧Fact.en x.1 q∈stOf vt L'∧Fact.sl t (.is x.1 [])∈stOf vt L':=by
    intro j x hj
    have hL:=hrL x.1 (List.mem_map.2 ⟨x,List.mem_of_getElem? hj,rfl⟩)
    have hjl:j<ro.length:=by
     rcases qlg j ro.length with q | q
     ·exact q
     ·rw [qgn q] at hj; simp at hj
    have hjq:s.outs[j]?=some (s.outs[j]'(by omega)):=by simp
    have:=c4.2 (x,s.outs[j]'(by omega)) (by
     rw [List.mem_iff_getElem?]
     exact ⟨j,by simp [List.getElem?_zip_eq_some,hj]⟩)
    cases hvi:vt[x.1]? with
    | none=>rw [hvi] at this; simp at this
    | some tq=>
     obtain ⟨t,q⟩:=tq
     rw [hvi] at this
     simp only [Option.bind_some] at this
     exact ⟨t,q,_,rfl,this,hjq,mem_stOf.2 ⟨x.1,t,q,hvi,hL,.inr rfl⟩,mem_stOf.2 ⟨x.1,t,q,hvi,hL,.inl rfl⟩⟩
   have hv:∀ x,x∈ro→∃ q,Fact.en x.1 q∈stOf vt L':=by
    intro x hi
    obtain ⟨j,hj⟩:=List.mem_iff_getElem?.1 hi
    obtain ⟨t,q,_,_,_,_,h3,_⟩:=rfact j x hj
    exact ⟨q,h3⟩
   -- each result: its value,its blocks
   let U:Nat×Option Nat→Value:=fun x=>match x.2 with
    | none=>vs x.1
    | some _=>match vs x.1 with
     | .pointer (some ⟨b,_,_⟩)=>match w'.heap[b]? with
      | some (.cells cs _ _)=>.agg cs
      | _=>undef
     | _=>undef
   let C:Nat×Option Nat→List Nat:=fun x=>match x.2 with
    | none=>Bs x.1
    | some _=>(Bs x.1).tail
   have hCB:∀ x,∀ b∈C x,b∈Bs x.1:=by
    intro x b hb
    obtain ⟨i,k⟩:=x
    cases k with
    | none=>exact hb
    | some n=>exact List.mem_of_mem_tail hb
   have hroN:ro.Nodup:=(List.pairwise_map.1 c5).imp fun h e=>h (congrArg _ e)
   have hinj:∀ x∈ro,∀ y∈ro,x≠y→x.1≠y.1:=fst_inj (List.pairwise_map.1 c5)
   have hBn:(ro.flatMap C).Nodup:=by
    have key:∀ l:List (Nat×Option Nat),(∀ x∈l,x∈ro)→l.Nodup→(l.flatMap C).Nodup:=by
     intro l
     induction l with
     | nil=>intro _ _; simp
     | cons x l ih=>
      intro hm hn
      obtain ⟨n1,n2⟩:=List.nodup_cons.1 hn
      simp only [List.flatMap_cons]
      obtain ⟨s1,hs1⟩:=hv x (hm x (List.mem_cons_self ..))
      refine List.nodup_append.2 ⟨?_,ih (fun y hy=>hm y (qmc _ hy)) n2,fun b hb b' hb' e=>?_⟩
      ·have h0:=H.nodup x.1 s1 hs1
       obtain ⟨i,k⟩:=x
       cases k with
       | none=>exact h0
       | some n=>exact List.Nodup.sublist (List.tail_sublist _) h0
      ·subst e
       obtain ⟨y,hy,hb2⟩:=List.mem_flatMap.1 hb'
       obtain ⟨s2,hs2⟩:=hv y (hm y (qmc _ hy))
       exact H.apart x.1 s1 y.1 s2 hs1 hs2 (hinj x (hm x (List.mem_cons_self ..)) y (hm y (qmc _ hy)) (fun e=>n1 (e ▸ hy))) b (hCB x b hb) (hCB y b hb2)
    exact key ro (fun _ h=>h) hroN
   have hio:s.io.map vs=s.io.map fun i=>args.getD i undef:=by
    apply List.map_congr_left
    intro i hi
    have hmem:(i,none)∈ro:=by rw [hro]; exact qar _ (List.mem_map.2 ⟨i,hi,rfl⟩)
    obtain ⟨j,hj⟩:=List.mem_iff_getElem?.1 hmem
    obtain ⟨t,q,_,h1,_,_,_,h4⟩:=rfact j _ hj
    obtain ⟨_,rfl,_⟩:=pv i t q h1 (by rw [testBit_ones]; simpa using (c9 i (qal _ hi)).2)
    have e1:=(H.loc t _ h4).1 (by simp [gdOK])
    have e2:=hfix (t,args.getD t undef) (List.mem_map.2 ⟨t,qal _ hi,rfl⟩)
    rw [e1] at e2
    injection e2
   -- a struct in its box
   have cell:∀ (j i n:Nat),ro[j]?=some (i,some n)→∃ q xs b cs e B',Fact.en i (.b q)∈stOf vt L'∧s.outs[j]?=some (.a q)∧e'.E i=.g xs∧xs.length=n∧vs i=.pointer (some ⟨b,0,none⟩)∧w'.heap[b]?=some (.cells cs e (0,0))∧cs.size=n∧Bs i=b::B'∧
     Each (Own cf.fid w'.heap (OB (·∈stOf vt L') Bs) X q) xs cs.toList B':=by
    intro j i n hj
    obtain ⟨t,q,q',h1,h2,h3,h4,h5⟩:=rfact j _ hj
    cases q with
    | b q=>
     simp only [outSh,qsj] at h2
     subst h2
     have hown:=H.own i _ h4
     simp only [Own] at hown
     obtain ⟨xs,b,cs,e,fz,B',k1,k2,k3,k4,k5,k6,k7⟩:=hown
     have hfz:fz=(0,0):=k5
     subst hfz
     have hjr:rx[j]?=some (i,some n):=by
      rw [hro] at hj
      rcases qlg j rx.length with r | r
      ·rwa [qgl r] at hj
      ·rw [qgr r] at hj
       simp only [List.getElem?_map,qms,qpj] at hj
       obtain ⟨_,_,_,h⟩:=hj
       cases h
     obtain ⟨ys,z1,z2⟩:=clOf_ok hcl hjr
     have hrs:rs[j]?=some (e'.E i):=by rw [hz2]; simp [hj]
     rw [hrs,k1] at z1
     injection z1 with z1
     injection z1 with z1
     subst z1
     exact ⟨q,xs,b,cs,e,B',h4,h3,k1,z2,k3,k4,by omega,k2,k7⟩
    | _=>simp [outSh] at h2
   have hUc:∀ (i n:Nat) (b:Nat) (cs:Array Value) (e:TypeId),vs i=.pointer (some ⟨b,0,none⟩)→w'.heap[b]?=some (.cells cs e (0,0))→U (i,some n)=.agg cs:=by
    intro i n b cs e h1 h2
    simp only [U,h1,h2]
   have hEach:EachS (Own cf.fid w'.heap (·∈ro.flatMap C) X) s.outs rs (rx.map U++s.io.map fun i=>args.getD i undef) (ro.flatMap C):=by
    have hmapU:rx.map U++(s.io.map fun i=>args.getD i undef)=ro.map U:=by
     rw [hro,List.map_append,← hio]
     simp [List.map_map,Function.comp_def,U]
    rw [hmapU,hz2,List.map_map]
    refine EachS.of ro s.outs c4.1 fun j x q h1 h2=>?_
    have hO:∀ b,b∈ro.flatMap C→OB (·∈stOf vt L') Bs b:=by
     intro b hb
     obtain ⟨m,hm,hb⟩:=List.mem_flatMap.1 hb
     obtain ⟨r,hr⟩:=hv m hm
     exact ⟨m.1,r,hr,hCB m b hb⟩
    obtain ⟨i,k⟩:=x
    cases k with
    | none=>
     obtain ⟨t,q0,q',_,h3,h4,h5,_⟩:=rfact j _ h1
     simp only [outSh,qsj] at h3
     subst h3
     rw [h2] at h4; injection h4 with h4; subst h4
     exact Own.ext (Agr.refl (fun _=>False) _) (fun _ _ q=>q.elim) (fun b _ hb=>hO b hb) _ _ _ _ (fun _ _ q=>q) (H.own i q h5)
    | some n=>
     obtain ⟨q0,xs,b,cs,e,B',z1,z2,z3,z4,z5,z6,z7,z8,z9⟩:=cell j i n h1
     rw [h2] at z2; injection z2 with z2; subst z2
     rw [hUc i n b cs e z5 z6]
     show Own cf.fid w'.heap (·∈ro.flatMap C) X (.a q0) (e'.E i) (.agg cs) (Bs i).tail
     rw [z3,z8]
     simp only [Own,List.tail_cons]
     refine ⟨xs,cs,rfl,rfl,by omega,Each.imp (fun d v B1 _ r=>?_) z9⟩
     exact Own.ext (Agr.refl (fun _=>False) _) (fun _ _ q=>q.elim) (fun b _ hb=>hO b hb) _ _ _ _ (fun _ _ q=>q) r
   have hvals:∀ (j:Nat) (v:Value),(rx.map U)[j]?=some v→(∃ t,fn.results.toList[j]?=some (ResultVar.tmp t)∧a'.tmps.getD t undef=v)∨∃ t ty,fn.results.toList[j]?=some (ResultVar.cell t ty)∧(do loadVar ty (← asAddr (a'.tmps.getD t undef)):Sem Value).run cf.P w'=.ok v w':=by
    intro j v hj
    simp only [List.getElem?_map,qms] at hj
    obtain ⟨x,hi,rfl⟩:=hj
    obtain ⟨t,s1,h1,h7⟩:=hres2.2 j x hi
    have hj2:ro[j]?=some x:=by
     rw [hro,qgl]
     ·exact hi
     ·rcases qlg j rx.length with q | q
      ·exact q
      ·rw [qgn q] at hi; simp at hi
    obtain ⟨t2,q,q',h1',_,_,_,h6⟩:=rfact j x hj2
    rw [h1] at h1'
    simp only [qsj,qpj] at h1'
    obtain ⟨rfl,rfl⟩:=h1'
    have hl:=(H.loc t _ h6).1 (by simp [gdOK])
    have hg:a'.tmps.getD t undef=vs x.1:=by simp [qag,hl]
    rcases h7 with ⟨h7,h8⟩ | ⟨n,ty,h7,h8,h9⟩
    ·left
     refine ⟨t,h8,?_⟩
     rw [hg]
     obtain ⟨i,k⟩:=x
     simp only at h7
     subst h7
     rfl
    ·right
     refine ⟨t,ty,h9,?_⟩
     obtain ⟨i,k⟩:=x
     simp only at h7
     subst h7
     obtain ⟨q0,xs,b,cs,e,B',z1,z2,z3,z4,z5,z6,z7,z8,z9⟩:=cell j i n hj2
     rw [hUc i n b cs e z5 z6,hg,z5]
     obtain ⟨fs,inf,y1,y2,y3,_,_⟩:=structN_spec h8
     have:=run_loadVar_row (P:=cf.P) w' b e ty cs (0,0) (.struct fs) z6 y1 rfl (by simp [y2,y3,z7])
     simpa [asAddr] using this
   have hrun:(results fn a'.tmps).run cf.P w'=.ok (if h:(rx.map U).toArray.size=1 then (rx.map U).toArray[0] else .tuple (rx.map U).toArray) w':=by
    unfold results
    rw [Sem.run_bind]
    have e1:=run_results (P:=cf.P) (w:=w') (tm:=a'.tmps) fn.results.toList (rx.map U) (by simp [hres2.1]) hvals
    rw [Array.mapM_eq_mapM_toList,Sem.run_map]
    erw [e1]
    rfl
   have hQ:∃ v,(results fn a'.tmps).run cf.P w'=.ok v w'∧∃ v_1 vs_1 B',Ending.returned v=.returned v_1∧tupled v_1 vs_1∧vs_1.length=s.qs.length∧Agr (·∈B) w.heap w'.heap∧w'.os=w.os∧w'.tape=w.tape∧w'.output=w.output∧
     B'.Nodup∧(∀ b∈B',b∈B∨w.heap.size≤b)∧EachS (Own cf.fid w'.heap (·∈B') X) s.outs rs (vs_1++s.io.map fun i=>args.getD i undef) B':=by
    refine ⟨_,hrun,_,rx.map U,ro.flatMap C,rfl,?_,by simp [c10],H.agr,H.os,H.tape,H.output,hBn,?_,hEach⟩
    ·exact tupled_of _
    ·intro b hb
     obtain ⟨m,hm,hb⟩:=List.mem_flatMap.1 hb
     obtain ⟨r,hr⟩:=hv m hm
     exact (H.mine m.1 r hr b (hCB m b hb)).symm
   cases z with
   | n=>exact ⟨H.defers,hQ⟩
   | ex id=>exact hz1.elim
   | r=>exact ⟨H.defers,hQ⟩
  ·simp at ht
end
end Go.Cat
namespace Go.Cat
structure Row where
 k:Nat
 f:Nat
 s:Sg
def rowOf (tab:List Row) (k:Nat):Option Row:=tab.find? fun r=>r.k == k
def fidOf (tab:List Row) (k:Nat):Nat:=match rowOf tab k with | some r=>r.f | none=>0
def gofOf (tab:List Row) (f:Nat):Option Nat:=(tab.find? fun r=>r.f == f).map (·.k)
def sgOf (tab:List Row) (k:Nat):Option Sg:=(rowOf tab k).map (·.s)
def entersB (P:Program) (f:Nat):Bool:=match P.funcs[f]? with
 | some fn => fn.body.isSome && fn.name != "runtime.NumGoroutine"
 | none=>false
def tabOK (P:Program) (tab:List Row):Bool:=tab.all fun r=>(fidOf tab r.k == r.f)&&entersB P r.f
def cfOf (P:Program) (tab:List Row) (nt:Nat) (io:List Nat:=[]) (fb:Option (Nat×Nat×List Nat):=none):CF:=⟨P,fidOf tab,gofOf tab,nt,io++clS fb,fb⟩
def KS (P:Program) (tab:List Row):Nat→List D→List D→Prop:=fun k ds rs=>∃ r,rowOf tab k=some r∧Con P (fidOf tab) r.f r.s ds rs
theorem enters {P:Program} {f:Nat} (h:entersB P f=true) (args:Array Value) (w:World):(callFunc f args).run P w=.ok (.enter f args) w:=by
 unfold entersB at h
 split at h
 ·rename_i fn hf
  simp only [qba,bne_iff_ne] at h
  unfold callFunc
  rw [Sem.run_bind]
  simp only [run_program,Result.andThen,hf]
  rw [if_neg (by simpa using h.2),if_neg (by cases hb:fn.body <;> simp [hb] at h ⊢)]
  rfl
 ·simp at h
theorem row_mem {tab:List Row} {k:Nat} {r:Row} (h:rowOf tab k=some r):r∈tab∧r.k=k:=by
 refine ⟨List.mem_of_find?_eq_some h,?_⟩
 have:=List.find?_some h
 simpa using this
theorem KS.sound {P:Program} {tab:List Row} {nt:Nat} {io:List Nat} {fb:Option (Nat×Nat×List Nat)} (h:tabOK P tab=true):Sound (cfOf P tab nt io fb) (sgOf tab) (KS P tab):=by
 simp only [tabOK,qat,qba] at h
 constructor
 ·rintro k ds rs s ⟨r,hr,hc⟩ hs
  simp only [sgOf,hr,Option.map_some,qsj] at hs
  subst hs
  show Con P (fidOf tab) (fidOf tab k) r.s ds rs
  simp only [fidOf,hr]
  exact hc
 ·intro k s hs args w
  simp only [sgOf,qms] at hs
  obtain ⟨r,hr,_⟩:=hs
  show (callFunc (fidOf tab k) args).run P w=_
  have:fidOf tab k=r.f:=by simp only [fidOf,hr]
  rw [show (cfOf P tab nt io fb).fid k=r.f from this,show fidOf tab k=r.f from this]
  exact enters (h r (row_mem hr).1).2 args w
theorem KS.of_body {P:Program} {tab:List Row} (h:tabOK P tab=true) (hm:P.follows .mixedOrders=true) {k nt:Nat} {io:List Nat} {fb:Option (Nat×Nat×List Nat)} {r:Row} {vt:VT} {hl:HL} {fn:Func} {f:IF} (hr:rowOf tab k=some r)
  (ht:trF (cfOf P tab nt io fb) (sgOf tab) vt hl fn r.s=some f) (hfn:P.funcs[r.f]?=some fn) {ds rs:List D} (hb:Body (KS P tab) f ds rs):KS P tab k ds rs:=by
 refine ⟨r,hr,con_of_body (cf:=cfOf P tab nt io fb) (KS.sound h) hm ?_ ht hfn hb⟩
 intro g j hg
 simp only [cfOf,gofOf,qms] at hg
 obtain ⟨x,hx,rfl⟩:=hg
 have h1:=List.mem_of_find?_eq_some hx
 have h2:x.f=g:=by simpa using List.find?_some hx
 simp only [tabOK,qat,qba] at h
 have:=(h x h1).1
 show fidOf tab x.k=g
 rw [← h2]
 simpa using this
end Go.Cat
namespace Go.Cat
def fNat {α:Type} (n:Nat) (k:Nat→α):α:=match n with
 | 0=>k 0
 | m+1=>k (m+1)
theorem fNat_eq {α:Type} (n:Nat) (k:Nat→α):fNat n k=k n:=by cases n <;> rfl
def fInt {α:Type} (n:Int) (k:Int→α):α:=match n with
 | .ofNat m=>fNat m fun m=>k (.ofNat m)
 | .negSucc m=>fNat m fun m=>k (.negSucc m)
theorem fInt_eq {α:Type} (n:Int) (k:Int→α):fInt n k=k n:=by cases n <;> simp [fInt,fNat_eq]
def fBool {α:Type} (b:Bool) (k:Bool→α):α:=match b with
 | true=>k true
 | false=>k false
theorem fBool_eq {α:Type} (b:Bool) (k:Bool→α):fBool b k=k b:=by cases b <;> rfl
noncomputable def fNats {α:Type} (l:List Nat):(List Nat→α)→α:=
 List.rec (motive:=fun _=>(List Nat→α)→α) (fun k=>k []) (fun n _ ih k=>fNat n fun n=>ih fun l=>k (n::l)) l
theorem fNats_eq {α:Type}:∀ (l:List Nat) (k:List Nat→α),fNats l k=k l
 | [],_=>rfl
 | n::l,k=>by
  show fNat n (fun n=>fNats l fun l=>k (n::l))=_
  rw [fNat_eq,fNats_eq l]
noncomputable def fD {α:Type} (d:D):(D→α)→α:=
 D.rec (motive_1:=fun _=>(D→α)→α) (motive_2:=fun _=>(List D→α)→α)
  (fun k=>k .u) (fun q n k=>fInt n fun n=>k (.i q n)) (fun x k=>fBool x fun x=>k (.b x)) (fun x k=>fNats x fun x=>k (.s x))
  (fun _ ih k=>ih fun xs=>k (.l xs)) (fun _ ih k=>ih fun xs=>k (.g xs)) (fun k=>k .z) (fun _ ih k=>ih fun xs=>k (.p xs)) (fun n _ ih k=>ih fun xs=>k (.f n xs))
  (fun k=>k []) (fun _ _ ih1 ih2 k=>ih1 fun d=>ih2 fun l=>k (d::l)) d
mutual
theorem fD_eq {α:Type}:∀ (d:D) (k:D→α),fD d k=k d
 | .u,k=>rfl
 | .i q n,k=>(fInt_eq n fun n=>k (.i q n) :)
 | .b x,k=>(fBool_eq x fun x=>k (.b x) :)
 | .s x,k=>(fNats_eq x fun x=>k (.s x) :)
 | .l xs,k=>fDr_eq xs _
 | .g xs,k=>fDr_eq xs _
 | .z,k=>rfl
 | .p xs,k=>fDr_eq xs _
 | .f n xs,k=>fDr_eq xs _
theorem fDr_eq {α:Type}:∀ (l:List D) (k:List D→α),(D.rec_1 (motive_1:=fun _=>(D→α)→α) (motive_2:=fun _=>(List D→α)→α)
  (fun k=>k .u) (fun q n k=>fInt n fun n=>k (.i q n)) (fun x k=>fBool x fun x=>k (.b x)) (fun x k=>fNats x fun x=>k (.s x))
  (fun _ ih k=>ih fun xs=>k (.l xs)) (fun _ ih k=>ih fun xs=>k (.g xs)) (fun k=>k .z) (fun _ ih k=>ih fun xs=>k (.p xs)) (fun n _ ih k=>ih fun xs=>k (.f n xs))
  (fun k=>k []) (fun _ _ ih1 ih2 k=>ih1 fun d=>ih2 fun l=>k (d::l)) l:(List D→α)→α) k=k l
 | [],k=>rfl
 | d::l,k=>(fD_eq d _).trans (fDr_eq l _)
end
def fV {α:Type} (d:D) (k:D→α):α:=match d with
 | .u=>k .u
 | .i q n=>k (.i q n)
 | .b x=>k (.b x)
 | .s x=>k (.s x)
 | .l xs=>k (.l xs)
 | .g xs=>k (.g xs)
 | .z=>k .z
 | .p xs=>k (.p xs)
 | .f n xs=>k (.f n xs)
theorem fV_eq {α:Type} (d:D) (k:D→α):fV d k=k d:=by cases d <;> rfl
noncomputable def fVs {α:Type} (l:List D):(List D→α)→α:=
 List.rec (motive:=fun _=>(List D→α)→α) (fun k=>k []) (fun d _ ih k=>fV d fun d=>ih fun l=>k (d::l)) l
theorem fVs_eq {α:Type}:∀ (l:List D) (k:List D→α),fVs l k=k l
 | [],k=>rfl
 | d::l,k=>(fV_eq d fun d=>fVs l fun l=>k (d::l)).trans (fVs_eq l fun l=>k (d::l))
noncomputable def fT {α:Type} (d:D) (k:D→α):α:=match d with
 | .i q n=>fInt n fun n=>k (.i q n)
 | .b x=>fBool x fun x=>k (.b x)
 | .l xs=>fVs xs fun xs=>k (.l xs)
 | d=>fD d k
theorem fT_eq {α:Type} (d:D) (k:D→α):fT d k=k d:=by
 unfold fT
 split
 ·exact fInt_eq _ _
 ·exact fBool_eq _ _
 ·exact fVs_eq _ _
 ·exact fD_eq _ _
def deep:Pr→Bool
 | .up _ [_] _=>false
 | .up _ _ _=>true
 | .mk _ _ _=>true
 | _=>false
theorem wrap_id {n:Int} (h1:-9223372036854775808≤n) (h2:n≤9223372036854775807):IntKind.wrap .i64 n=n:=by
 simp [IntKind.wrap,IntKind.bits,IntKind.signed] at*
 omega
def wrapF (k:IntKind) (n:Int):Int:=match k,n with
 | .i64,.ofNat m=>if Nat.ble m 9223372036854775807 then .ofNat m else IntKind.wrap .i64 (.ofNat m)
 | .i64,.negSucc m=>if Nat.ble m 9223372036854775807 then .negSucc m else IntKind.wrap .i64 (.negSucc m)
 | .u8,.ofNat m=>.ofNat (Nat.mod m 256)
 | k,n=>k.wrap n
theorem wrapF_eq (k:IntKind) (n:Int):wrapF k n=k.wrap n:=by
 unfold wrapF
 split
 ·split
  ·rename_i m h
   have:=Nat.le_of_ble_eq_true h
   simp [IntKind.wrap,IntKind.bits,IntKind.signed]; omega
  ·rfl
 ·split
  ·rename_i m h
   have:=Nat.le_of_ble_eq_true h
   exact (wrap_id (by omega) (by omega)).symm
  ·rfl
 ·rename_i m
  show ((m % 256:Nat):Int)=_
  unfold IntKind.wrap
  simp only [IntKind.bits,IntKind.signed]
  simp
 ·rfl
def leF:Int→Int→Bool
 | .ofNat a,.ofNat b=>Nat.ble a b
 | .negSucc _,.ofNat _=>true
 | .ofNat _,.negSucc _=>false
 | .negSucc a,.negSucc b=>Nat.ble b a
theorem leF_eq (a b:Int):leF a b=decide (a≤b):=by
 unfold leF
 split
 ·rw [Bool.eq_iff_iff]; simp [Nat.ble_eq]
 ·rw [Bool.eq_iff_iff]; simp; omega
 ·rw [Bool.eq_iff_iff]; simp; omega
 ·rw [Bool.eq_iff_iff]; simp [Nat.ble_eq]; omega
def eqF:Int→Int→Bool
 | .ofNat a,.ofNat b=>Nat.beq a b
 | .negSucc a,.negSucc b=>Nat.beq a b
 | _,_=>false
theorem eqF_eq (a b:Int):eqF a b=(a == b):=by
 unfold eqF
 split
 ·rw [Bool.eq_iff_iff]; simp [Nat.beq_eq]; omega
 ·rw [Bool.eq_iff_iff]; simp [Nat.beq_eq]
 ·rename_i h1 h2
  rw [Bool.eq_iff_iff]
  constructor
  ·simp
  ·intro h
   have:a=b:=by simpa using h
   subst this
   cases a with
   | ofNat n=>exact (h1 n n rfl rfl).elim
   | negSucc n=>exact (h2 n n rfl rfl).elim
def addF:Int→Int→Int
 | .ofNat a,.ofNat b=>.ofNat (Nat.add a b)
 | a,b=>Int.add a b
theorem addF_eq (a b:Int):addF a b=a+b:=by unfold addF; split <;> rfl
def mulF:Int→Int→Int
 | .ofNat a,.ofNat b=>.ofNat (Nat.mul a b)
 | a,b=>Int.mul a b
theorem mulF_eq (a b:Int):mulF a b=a*b:=by unfold mulF; split <;> rfl
def intF (op:BinOp) (k:IntKind) (a b:Int):Option D:=
 match op with
 | .add=>some (.i k (wrapF k (addF a b)))
 | .sub=>some (.i k (wrapF k (Int.sub a b)))
 | .mul=>some (.i k (wrapF k (mulF a b)))
 | .quo=>bif eqF b (.ofNat 0) then none else some (.i k (wrapF k (Int.tdiv a b)))
 | .rem=>bif eqF b (.ofNat 0) then none else some (.i k (Int.tmod a b))
 | .eql=>some (.b (eqF a b))
 | .neq=>some (.b (!eqF a b))
 | .lss=>some (.b (!leF b a))
 | .leq=>some (.b (leF a b))
 | .gtr=>some (.b (!leF a b))
 | .geq=>some (.b (leF b a))
 | op=>intD op k a b
theorem intF_eq (op:BinOp) (k:IntKind) (a b:Int):intF op k a b=intD op k a b:=by
 have hs:Int.sub a b=a-b:=rfl
 have hz:eqF b (.ofNat 0)=decide (b=0):=by rw [eqF_eq]; rw [Bool.eq_iff_iff]; simp
 unfold intF
 split <;> simp only [intD,wrapF_eq,addF_eq,mulF_eq,hs,leF_eq,eqF_eq]
 ·rw [← eqF_eq,hz]; by_cases h:b=0 <;> simp [h]
 ·rw [← eqF_eq,hz]; by_cases h:b=0 <;> simp [h]
 ·simp [bne]
 ·simp only [qsj,D.b.injEq]; rw [Bool.eq_iff_iff]; simp
 ·simp only [qsj,D.b.injEq]; rw [Bool.eq_iff_iff]; simp
def kindF:IntKind→IntKind→Bool
 | .i64,.i64=>true
 | .u8,.u8=>true
 | a,b=>decide (a=b)
theorem kindF_eq (a b:IntKind):kindF a b=decide (a=b):=by unfold kindF; split <;> simp
noncomputable def at_ (n:Nat) (l:List D):D:=List.rec (motive:=fun _=>Nat→D) (fun _=>.u) (fun d _ ih n=>Nat.rec (motive:=fun _=>D) d (fun m _=>ih m) n) l n
theorem at_eq:∀ (n:Nat) (l:List D),at_ n l=l.getD n .u
 | n,[]=>by cases n <;> rfl
 | 0,d::_=>rfl
 | n+1,_::l=>(at_eq n l).trans rfl
noncomputable def look (r:List D) (c n:Nat):D:=bif Nat.ble c n then .u else at_ (Nat.pred (Nat.sub c n)) r
theorem look_eq {r:List D} {c:Nat} (h:r.length=c) (n:Nat):look r c n=(r.reverse).getD n .u:=by
 unfold look
 cases hb:Nat.ble c n with
 | true=>
  have:=Nat.le_of_ble_eq_true hb
  rw [cond_true,qgd,qgn (by simp; omega)]; rfl
 | false=>
  have:¬ c≤n:=fun h=>by rw [show Nat.ble c n=true by simpa using h] at hb; cases hb
  rw [cond_false,at_eq,qgd,qgd,List.getElem?_reverse (by omega)]
  congr 2
  show c-n-1=_
  omega
section
variable (F:Nat→List D→Option (List D))
def beqB:Bool→Bool→Bool
 | true,b=>b
 | false,true=>false
 | false,false=>true
noncomputable def evG (E:Nat→D) (l:List (Nat×Bool)):Option Bool:=
 List.rec (motive:=fun _=>Option Bool) (some true) (fun x _ ih=>match E x.1 with
  | .b y=>bif beqB y x.2 then ih else some false
  | _=>none) l
theorem evG_eq (E:Nat→D):∀ (l:List (Nat×Bool)),evG E l=gdE E l
 | []=>rfl
 | (n,want)::r=>by
  show (match E n with | .b y=>bif beqB y want then evG E r else some false | _=>none)=_
  simp only [gdE]
  split
  ·rename_i x h; rw [h]
   cases x <;> cases want <;> simp [evG_eq E r,beqB]
  ·rename_i h
   split
   ·rename_i x hx; exact absurd hx (h x)
   ·rfl
noncomputable def nth (l:List D) (n:Nat):Option D:=List.rec (motive:=fun _=>Nat→Option D) (fun _=>none) (fun d _ ih n=>Nat.rec (motive:=fun _=>Option D) (some d) (fun m _=>ih m) n) l n
theorem nth_eq:∀ (l:List D) (n:Nat),nth l n=l[n]?
 | [],n=>rfl
 | d::l,0=>rfl
 | d::l,n+1=>(nth_eq l n).trans (by simp)
noncomputable def setN (l:List D) (n:Nat) (x:D):List D:=List.rec (motive:=fun _=>Nat→List D) (fun _=>[]) (fun d l ih n=>Nat.rec (motive:=fun _=>List D) (x::l) (fun m _=>d::ih m) n) l n
theorem setN_eq (x:D):∀ (l:List D) (n:Nat),setN l n x=l.set n x
 | [],n=>rfl
 | d::l,0=>rfl
 | d::l,n+1=>(congrArg (d::·) (setN_eq x l n)).trans (by simp)
def natOf:D→Option Nat
 | .i _ (.ofNat m)=>some m
 | _=>none
noncomputable def ixF (d i:D):Option D:=match d,natOf i with
 | .l xs,some m=>(nth xs m).bind known
 | _,_=>none
theorem ixF_eq (d i:D):ixF d i=ixD d i:=by
 unfold ixF ixD natOf
 cases d <;> cases i <;> try rfl
 rename_i xs k n
 cases n with
 | ofNat m=>simp [nth_eq]
 | negSucc m=>simp
noncomputable def evQ (E:Nat→D):Pr→Option D
 | .bi op a b=>match ev E a,ev E b with
  | .i k a,.i k' b=>match op with
   | .shl=>binD .shl (.i k a) (.i k' b)
   | .shr=>binD .shr (.i k a) (.i k' b)
   | op=>bif kindF k k' then intF op k a b else none
  | a,b=>binD op a b
 | .cv k a=>match ev E a with
  | .i _ n=>some (.i k (wrapF k n))
  | _=>none
 | .ix a [] i=>ixF (ev E a) (ev E i)
 | .iy a i=>(ixF (ev E a) (ev E i)).bind flatD
 | .up n [pe] a=>bif (ev E a).one then (PE.ev E pe).bind fun i=>match E n with
   | .l xs=>(nth xs i).bind fun _=>some (.l (setN xs i (ev E a)))
   | .g xs=>(nth xs i).bind fun _=>some (.g (setN xs i (ev E a)))
   | _=>none
  else none
 | p=>evP E p
theorem evQ_eq (E:Nat→D) (p:Pr):evQ E p=evP E p:=by
 unfold evQ
 split
 ·rename_i op a b
  simp only [evP]
  split
  ·rename_i k x k' y h1 h2
   rw [h1,h2]
   split
   ·rfl
   ·rfl
   ·rename_i h3 h4
    rw [kindF_eq]
    simp only [binD]
    by_cases hk:k=k' <;> simp [hk,intF_eq]
  ·rfl
 ·rename_i k a
  simp only [evP]
  split
  ·rename_i h; rw [h,wrapF_eq]
  ·rename_i h
   split
   ·rename_i n hn; exact absurd hn (h _ _)
   ·rfl
 ·rename_i a i
  simp [evP,pathD,getP,ixF_eq]
 ·simp only [evP,ixF_eq]
 ·rename_i n pe a
  simp only [evP,List.mapM_cons,List.mapM_nil,Option.bind_eq_bind,Option.pure_def]
  cases (ev E a).one with
  | false=>simp
  | true=>
   simp only [cond_true,if_true]
   cases PE.ev E pe with
   | none=>simp
   | some i=>
    simp only [Option.bind_some]
    split
    ·rename_i xs h
     rw [h]
     simp only [setP,nth_eq,setN_eq]
     cases xs[i]? <;> simp
    ·rename_i xs h
     rw [h]
     simp only [setP,nth_eq,setN_eq]
     cases xs[i]? <;> simp
    ·rename_i h h'
     cases hE:E n with
     | l xs=>exact absurd hE (h xs)
     | g xs=>exact absurd hE (h' xs)
     | _=>simp [setP]
 ·rfl
noncomputable def pushN (l:List D):List D→List D:=List.rec (motive:=fun _=>List D→List D) (fun r=>r) (fun d _ ih r=>ih (d::r)) l
theorem pushN_eq:∀ (l r:List D),pushN l r=l.reverse++r
 | [],r=>rfl
 | d::l,r=>(pushN_eq l (d::r)).trans (by simp)
noncomputable def us (n:Nat):List D→List D:=Nat.rec (motive:=fun _=>List D→List D) (fun r=>r) (fun _ ih r=>ih (.u::r)) n
theorem us_eq:∀ (n:Nat) (r:List D),us n r=List.replicate n .u++r
 | 0,r=>rfl
 | n+1,r=>(us_eq n (.u::r)).trans (by
  rw [List.replicate_succ']
  simp)
noncomputable def lenN (l:List D):Nat→Nat:=List.rec (motive:=fun _=>Nat→Nat) (fun n=>n) (fun _ _ ih n=>ih (n+1)) l
theorem lenN_eq:∀ (l:List D) (n:Nat),lenN l n=l.length+n
 | [],n=>by simp [lenN]
 | _::l,n=>(lenN_eq l (n+1)).trans (by simp; omega)
noncomputable def evArgs (E:Nat→D) (l:List A):List D:=List.rec (motive:=fun _=>List D) [] (fun a _ ih=>ev E a::ih) l
theorem evArgs_eq (E:Nat→D):∀ (l:List A),evArgs E l=l.map (ev E)
 | []=>rfl
 | a::l=>congrArg (ev E a::·) (evArgs_eq E l)
noncomputable def evIt {α:Type} (it:It) (r:List D) (c:Nat) (k:List D→Nat→Option α):Option α:=
 match evG (look r c) it.g with
 | some true=>match it.p with
  | .nop=>k r c
  | .ca g xs m=>fVs (evArgs (look r c) xs) fun ds=>(F g ds).bind fun rs=>bif Nat.beq (lenN rs 0) m then fNat (Nat.add c m) fun c'=>k (pushN rs r) c' else none
  | .cd ..=>none
  | .sp ..=>none
  | .sw ..=>none
  | .tk n=>(tkD (look r c n)).bind fun d=>fV d fun d=>fNat (Nat.succ (Nat.succ c)) fun c'=>k (.g [.u]::d::r) c'
  | p=>(evQ (look r c) p).bind fun d=>(bif deep p then fD d else fT d) fun d=>fNat (Nat.succ c) fun c'=>k (d::r) c'
 | some false=>fNat (Nat.add c it.p.np) fun c'=>(match it.z with | []=>k (us it.p.np r) c' | z=>k (pushN (skE (look r c) z it.p.np) r) c')
 | none=>none
noncomputable def evIts {α:Type} (its:List It) (r:List D) (c:Nat) (k:List D→Nat→Option α):Option α:=
 List.rec (motive:=fun _=>List D→Nat→Option α) k (fun it _ ih r c=>evIt F it r c ih) its r c
noncomputable def outF (E:Nat→D) (l:List (Option Nat)):List D:=List.rec (motive:=fun _=>List D) [] (fun x _ ih=>(match x with | some n=>E n | none=>.u)::ih) l
theorem outF_eq (e:Env):∀ (l:List (Option Nat)),outF e.E l=outE l e
 | []=>rfl
 | some n::l=>congrArg (e.E n::·) (outF_eq e l)
 | none::l=>congrArg (D.u::·) (outF_eq e l)
noncomputable def evLoop (R:Env→Option (X×Env)) (n:Nat):Env→Option (X×Env):=
 Nat.rec (motive:=fun _=>Env→Option (X×Env)) (fun _=>none) (fun _ ih e=>(R e).bind fun r=>match r with
  | (.n,e1)=>ih e1
  | r=>some r) n
noncomputable def evS (n:Nat) (s:S):Env→Option (X×Env):=
 S.rec (motive:=fun _=>Env→Option (X×Env)) (fun e=>some (.n,e))
  (fun its out e=>fNat (lenN e 0) fun c=>evIts F its (pushN e []) c fun r c=>fVs (outF (look r c) out) fun e2=>some (.n,e2))
  (fun _ _ ia ib e=>(ia e).bind fun r=>match r with
   | (.n,e1)=>ib e1
   | r=>some r)
  (fun c _ _ ix iy e=>match at_ c e with
   | .b true=>fVs (setN e c .u) fun e=>ix e
   | .b false=>fVs (setN e c .u) fun e=>iy e
   | _=>none)
  (fun id _ ib e=>(ib e).bind fun r=>match r with
   | (.ex j,e1)=>bif Nat.beq j id then some (.n,e1) else some (.ex j,e1)
   | r=>some r)
  (fun _ ib e=>evLoop ib n e)
  (fun id e=>some (.ex id,e)) (fun e=>some (.r,e)) s
end
variable {F:Nat→List D→Option (List D)} {K:Nat→List D→List D→Prop}
theorem skE_nil {E:Nat→D}:∀ (n:Nat),skE E [] n=List.replicate n .u
 | 0=>rfl
 | n+1=>by rw [skE,skE_nil n]; rfl
theorem evIt_sound {α:Type} (hF:∀ g ds rs,F g ds=some rs→K g ds rs) {it:It} {r:List D} {c:Nat} {k:List D→Nat→Option α} {x:α} (hc:r.length=c) {Q:Env→Prop} (h:evIt F it r c k=some x)
  (q:∀ r' c',r'.length=c'→k r' c'=some x→Q r'.reverse):wpIt K it r.reverse Q:=by
 have hE:look r c=Env.E r.reverse:=funext fun n=>look_eq hc n
 unfold evIt at h
 unfold wpIt
 rw [hE,evG_eq] at h
 split at h
 ·rename_i hg; rw [hg]
  split at h
  ·rename_i hp; rw [hp]; exact q _ _ hc h
  ·rename_i g xs m hp; rw [hp]
   simp only [fVs_eq,qbs,evArgs_eq,fNat_eq,lenN_eq] at h
   obtain ⟨rs,h1,h2⟩:=h
   cases hb:Nat.beq (rs.length+0) m with
   | false=>rw [hb,cond_false] at h2; cases h2
   | true=>
    rw [hb,cond_true] at h2
    have hm:rs.length=m:=by simpa using Nat.eq_of_beq_eq_true hb
    refine ⟨rs,hF _ _ _ h1,hm,?_⟩
    have:=q _ _ ?_ h2
    ·rw [pushN_eq] at this; simpa using this
    ·rw [pushN_eq]; simp only [qla,List.length_reverse,hm,hc]; show _=c+m; omega
  ·cases h
  ·cases h
  ·cases h
  ·rename_i n hp; rw [hp]
   simp only [qbs,fV_eq,fNat_eq] at h
   obtain ⟨d,h1,h2⟩:=h
   have:=q _ _ (by simp [hc]) h2
   show match tkD (Env.E r.reverse n) with | some d=>Q (r.reverse++[d,.g [.u]]) | none=>False
   rw [h1]; simpa using this
  ·rename_i p h1 h2 h5 h7 h8 h6
   have hfd:∀ (d:D) (k:D→Option α),(bif deep it.p then fD d else fT d) k=k d:=fun d k=>by cases deep it.p <;> simp [fD_eq,fT_eq]
   simp only [qbs,hfd,fNat_eq,evQ_eq] at h
   obtain ⟨d,h3,h4⟩:=h
   have:=q _ _ (by simp [hc]) h4
   show wpPr K it.p r.reverse Q
   unfold wpPr
   split
   ·rename_i hp; exact (h1 hp).elim
   ·rename_i hp; exact (h2 _ _ _ hp).elim
   ·rename_i hp; exact (h5 _ _ _ _ hp).elim
   ·rename_i hp; exact (h6 _ hp).elim
   ·rename_i hp; exact (h7 _ _ _ hp).elim
   ·rename_i hp; exact (h8 _ hp).elim
   ·rw [h3]; simpa using this
 ·rename_i hg; rw [hg]
  simp only [fNat_eq] at h
  split at h
  ·rename_i hz
   have:=q _ _ ?_ h
   ·rw [hz,skE_nil]; rw [us_eq] at this; simpa using this
   ·rw [us_eq]; simp only [qla,List.length_replicate,hc]; show _=c+_; omega
  ·rename_i z hz
   have:=q _ _ ?_ h
   ·rw [pushN_eq] at this; simpa using this
   ·rw [pushN_eq]; simp only [qla,List.length_reverse,skE_length,hc]; show _=c+_; omega
 ·cases h
theorem evIts_sound {α:Type} (hF:∀ g ds rs,F g ds=some rs→K g ds rs):∀ {its:List It} {r:List D} {c:Nat} {k:List D→Nat→Option α} {x:α} (_:r.length=c) {Q:Env→Prop} (_:evIts F its r c k=some x)
  (_:∀ r' c',r'.length=c'→k r' c'=some x→Q r'.reverse),wpIts K its r.reverse Q
 | [],r,c,k,x,hc,Q,h,q=>q _ _ hc h
 | it::its,r,c,k,x,hc,Q,h,q=>evIt_sound hF hc h fun r' c' hc' h'=>evIts_sound hF hc' h' q
theorem evLoop_succ (R:Env→Option (X×Env)) (n:Nat) (e:Env):evLoop R (n+1) e=(R e).bind fun r=>match r with
  | (.n,e1)=>evLoop R n e1
  | r=>some r:=rfl
theorem evS_skip (n:Nat) (e:Env):evS F n .skip e=some (.n,e):=rfl
theorem evS_reg (n:Nat) (its:List It) (out:List (Option Nat)) (e:Env):evS F n (.reg its out) e=fNat (lenN e 0) fun c=>evIts F its (pushN e []) c fun r c=>fVs (outF (look r c) out) fun e2=>some (.n,e2):=rfl
theorem evS_seq (n:Nat) (a b:S) (e:Env):evS F n (.seq a b) e=(evS F n a e).bind fun r=>match r with
  | (.n,e1)=>evS F n b e1
  | r=>some r:=rfl
theorem evS_cond (n c:Nat) (a b:S) (e:Env):evS F n (.cond c a b) e=match at_ c e with
  | .b true=>fVs (setN e c .u) fun e=>evS F n a e
  | .b false=>fVs (setN e c .u) fun e=>evS F n b e
  | _=>none:=rfl
theorem evS_block (n id:Nat) (b:S) (e:Env):evS F n (.block id b) e=(evS F n b e).bind fun r=>match r with
  | (.ex j,e1)=>bif Nat.beq j id then some (.n,e1) else some (.ex j,e1)
  | r=>some r:=rfl
theorem evS_loop (n:Nat) (b:S) (e:Env):evS F n (.loop b) e=evLoop (evS F n b) n e:=rfl
theorem evS_exit (n id:Nat) (e:Env):evS F n (.exit id) e=some (.ex id,e):=rfl
theorem evS_ret (n:Nat) (e:Env):evS F n .ret e=some (.r,e):=rfl
theorem evLoop_sound {R:Env→Option (X×Env)} {W:(X→Env→Prop)→Env→Prop} (hR:∀ e x e' Q,R e=some (x,e')→Q x e'→W Q e):∀ (n:Nat) {e e':Env} {x:X} {Q:X→Env→Prop},
  evLoop R n e=some (x,e')→Q x e'→wpLoop W n Q e
 | 0,_,_,_,_,h,_=>by cases h
 | n+1,e,e',x,Q,h,q=>by
  simp only [evLoop_succ,qbs] at h
  obtain ⟨⟨y,e1⟩,h1,h2⟩:=h
  refine hR _ _ _ _ h1 ?_
  cases y with
  | n=>exact evLoop_sound hR n h2 q
  | ex j=>simp only [qsj,qpj] at h2; obtain ⟨rfl,rfl⟩:=h2; exact q
  | r=>simp only [qsj,qpj] at h2; obtain ⟨rfl,rfl⟩:=h2; exact q
theorem evS_sound (hF:∀ g ds rs,F g ds=some rs→K g ds rs) (n:Nat):∀ (s:S) {e e':Env} {x:X} {Q:X→Env→Prop} (_:evS F n s e=some (x,e')) (_:Q x e'),wpS K s Q e
 | .skip,e,e',x,Q,h,q=>by simp only [evS_skip,qsj,qpj] at h; obtain ⟨rfl,rfl⟩:=h; exact q
 | .reg its out,e,e',x,Q,h,q=>by
  simp only [evS_reg,fNat_eq,fVs_eq,lenN_eq,pushN_eq] at h
  have:=evIts_sound (r:=e.reverse++[]) (Q:=fun e1=>Q .n (outE out e1)) hF (by simp) h ?_
  ·simp only [List.append_nil,List.reverse_reverse] at this
   exact this
  ·intro r' c' hc' h'
   simp only [qsj,qpj] at h'
   obtain ⟨rfl,rfl⟩:=h'
   have hE:look r' c'=Env.E r'.reverse:=funext fun n=>look_eq hc' n
   rw [hE,outF_eq] at q
   exact q
 | .seq a b,e,e',x,Q,h,q=>by
  simp only [evS_seq,qbs] at h
  obtain ⟨⟨y,e1⟩,h1,h2⟩:=h
  refine evS_sound hF n a h1 ?_
  cases y with
  | n=>exact evS_sound hF n b h2 q
  | ex j=>simp only [qsj,qpj] at h2; obtain ⟨rfl,rfl⟩:=h2; exact q
  | r=>simp only [qsj,qpj] at h2; obtain ⟨rfl,rfl⟩:=h2; exact q
 | .cond c a b,e,e',x,Q,h,q=>by
  simp only [evS_cond,fVs_eq,at_eq,setN_eq] at h
  simp only [wpS]
  change (match e.E c with | .b true=>_ | .b false=>_ | _=>_)=_ at h
  split at h
  ·rename_i hg; rw [hg]; exact evS_sound hF n a h q
  ·rename_i hg; rw [hg]; exact evS_sound hF n b h q
  ·cases h
 | .block id b,e,e',x,Q,h,q=>by
  simp only [evS_block,qbs] at h
  obtain ⟨⟨y,e1⟩,h1,h2⟩:=h
  refine evS_sound hF n b h1 ?_
  cases y with
  | n=>simp only [qsj,qpj] at h2; obtain ⟨rfl,rfl⟩:=h2; exact q
  | ex j=>
   simp only at h2
   cases hb:Nat.beq j id with
   | true=>
    rw [hb,cond_true] at h2
    have hj:=Nat.eq_of_beq_eq_true hb
    simp only [qsj,qpj] at h2; obtain ⟨rfl,rfl⟩:=h2
    show if j=id then _ else _
    rw [if_pos hj]; exact q
   | false=>
    rw [hb,cond_false] at h2
    have hj:=Nat.ne_of_beq_eq_false hb
    simp only [qsj,qpj] at h2; obtain ⟨rfl,rfl⟩:=h2
    show if j=id then _ else _
    rw [if_neg hj]; exact q
  | r=>simp only [qsj,qpj] at h2; obtain ⟨rfl,rfl⟩:=h2; exact q
 | .loop b,e,e',x,Q,h,q=>by
  simp only [evS_loop] at h
  exact ⟨n,evLoop_sound (W:=wpS K b) (fun e x e' Q h q=>evS_sound hF n b h q) n h q⟩
 | .exit id,e,e',x,Q,h,q=>by simp only [evS_exit,qsj,qpj] at h; obtain ⟨rfl,rfl⟩:=h; exact q
 | .ret,e,e',x,Q,h,q=>by simp only [evS_ret,qsj,qpj] at h; obtain ⟨rfl,rfl⟩:=h; exact q
noncomputable def evB (F:Nat→List D→Option (List D)) (n:Nat) (f:IF) (ds:List D):Option (List D):=
 if ds.length=f.np then (evS F n f.body (ds++List.replicate (f.nv-f.np) .u)).bind fun r=>match r with
  | (.ex _,_)=>none
  | (_,e)=>bif cellsOK f.cl (f.res.map fun n=>at_ n e) then some (f.res.map fun n=>at_ n e) else none
 else none
theorem evB_sound (hF:∀ g ds rs,F g ds=some rs→K g ds rs) {n:Nat} {f:IF} {ds rs:List D} (h:evB F n f ds=some rs):Body K f ds rs:=by
 unfold evB at h
 split at h
 ·rename_i hl
  simp only [qbs] at h
  obtain ⟨⟨x,e⟩,h1,h2⟩:=h
  have h3:(∀ j,x≠.ex j)∧cellsOK f.cl rs=true∧rs=f.res.map fun n=>at_ n e:=by
   cases x with
   | ex j=>cases h2
   | n=>
    simp only at h2
    cases hc:cellsOK f.cl (f.res.map fun n=>at_ n e) with
    | true=>rw [hc,cond_true,qsj] at h2; exact ⟨by simp,by rw [← h2]; exact hc,h2.symm⟩
    | false=>rw [hc,cond_false] at h2; cases h2
   | r=>
    simp only at h2
    cases hc:cellsOK f.cl (f.res.map fun n=>at_ n e) with
    | true=>rw [hc,cond_true,qsj] at h2; exact ⟨by simp,by rw [← h2]; exact hc,h2.symm⟩
    | false=>rw [hc,cond_false] at h2; cases h2
  obtain ⟨h4,h5,h6⟩:=h3
  refine ⟨⟨hl,h5⟩,evS_sound hF n _ h1 ?_⟩
  have he:rs=f.res.map (Env.E e):=h6.trans (List.map_congr_left fun n _=>at_eq n e)
  cases x with
  | ex j=>exact (h4 j rfl).elim
  | n=>exact ⟨trivial,he⟩
  | r=>exact ⟨trivial,he⟩
 ·cases h
noncomputable def evF (T:Nat→Option IF) (n d:Nat):Nat→List D→Option (List D):=
 Nat.rec (motive:=fun _=>Nat→List D→Option (List D)) (fun _ _=>none) (fun _ ih k ds=>(T k).bind fun f=>evB ih n f ds) d
theorem evF_sound {T:Nat→Option IF} (hT:∀ k f ds rs,T k=some f→Body K f ds rs→K k ds rs) (n:Nat):∀ (d k:Nat) (ds rs:List D),evF T n d k ds=some rs→K k ds rs
 | 0,_,_,_,h=>by cases h
 | d+1,k,ds,rs,h=>by
  change ((T k).bind fun f=>evB (evF T n d) n f ds)=some rs at h
  simp only [qbs] at h
  obtain ⟨f,h1,h2⟩:=h
  exact hT _ _ _ _ h1 (evB_sound (evF_sound hT n d) h2)
end Go.Cat
namespace Go.Cat
class Has (K:Nat→List D→List D→Prop) (k:Nat) (f:outParam IF):Prop where
 h:∀ ds rs,Body K f ds rs→K k ds rs
class HasAll (K:Nat→List D→List D→Prop) (l:List (Nat×IF)):Prop where
 h:∀ k f,(k,f)∈l→∀ ds rs,Body K f ds rs→K k ds rs
instance {K:Nat→List D→List D→Prop}:HasAll K []:=⟨by simp⟩
instance {K:Nat→List D→List D→Prop} {k:Nat} {f:IF} {l:List (Nat×IF)} [a:Has K k f] [b:HasAll K l]:HasAll K ((k,f)::l):=by
 refine ⟨fun k' f' h=>?_⟩
 rcases qmn.1 h with h | h
 ·cases h; exact a.h
 ·exact b.h _ _ h
noncomputable def tableOf (l:List (Nat×IF)) (k:Nat):Option IF:=
 List.rec (motive:=fun _=>Option IF) none (fun x _ ih=>bif Nat.beq x.1 k then some x.2 else ih) l
theorem tableOf_mem {k:Nat} {f:IF}:∀ {l:List (Nat×IF)},tableOf l k=some f→(k,f)∈l
 | [],h=>by cases h
 | (j,g)::r,h=>by
  change (bif Nat.beq j k then some g else tableOf r k)=some f at h
  cases hb:Nat.beq j k with
  | true=>rw [hb,cond_true] at h; cases h; rw [Nat.eq_of_beq_eq_true hb]; simp
  | false=>rw [hb,cond_false] at h; exact qmc _ (tableOf_mem h)
theorem run {K:Nat→List D→List D→Prop} (l:List (Nat×IF)) [HasAll K l] (n d k:Nat) {ds rs:List D} (h:evF (tableOf l) n d k ds=some rs):K k ds rs:=
 evF_sound (fun k f ds rs hk hb=>HasAll.h k f (tableOf_mem hk) ds rs hb) n d k ds rs h
end Go.Cat
namespace Go.Cat
section
variable {K:Nat→List D→List D→Prop}
theorem wpPr_mono {p:Pr} {e:Env} {Q Q':Env→Prop} (hQ:∀ e,Q e→Q' e) (h:wpPr K p e Q):wpPr K p e Q':=by
 unfold wpPr at*
 split at h
 ·exact hQ _ h
 ·obtain ⟨rs,h1,h2,h3⟩:=h; exact ⟨rs,h1,h2,hQ _ h3⟩
 ·obtain ⟨h0,rs,h1,h2,h3⟩:=h; exact ⟨h0,rs,h1,h2,hQ _ h3⟩
 ·split at h
  ·exact hQ _ h
  ·exact h.elim
 ·split at h
  ·exact hQ _ h
  ·exact h.elim
 ·split at h
  ·exact hQ _ h
  ·exact h.elim
 ·split at h
  ·exact hQ _ h
  ·exact h.elim
theorem wpIts_mono:∀ {its:List It} {e:Env} {Q Q':Env→Prop} (_:∀ e,Q e→Q' e) (_:wpIts K its e Q),wpIts K its e Q'
 | [],e,Q,Q',hQ,h=>hQ _ h
 | it::its,e,Q,Q',hQ,h=>by
  simp only [wpIts,wpIt] at*
  split at h
  ·exact wpPr_mono (fun e h=>wpIts_mono hQ h) h
  ·exact wpIts_mono hQ h
  ·exact h
theorem wpLoop_mono {R:(X→Env→Prop)→Env→Prop} (hR:∀ Q Q' e,(∀ x e,Q x e→Q' x e)→R Q e→R Q' e):∀ (n:Nat) {e:Env} {Q Q':X→Env→Prop} (_:∀ x e,Q x e→Q' x e) (_:wpLoop R n Q e),wpLoop R n Q' e
 | 0,_,_,_,_,h=>h.elim
 | n+1,e,Q,Q',hQ,h=>by
  simp only [wpLoop] at*
  refine hR _ _ _ ?_ h
  intro x e h
  cases x with
  | n=>exact wpLoop_mono hR n hQ h
  | ex j=>exact hQ _ _ h
  | r=>exact hQ _ _ h
theorem wpS_mono:∀ (s:S) {e:Env} {Q Q':X→Env→Prop} (_:∀ x e,Q x e→Q' x e) (_:wpS K s Q e),wpS K s Q' e
 | .skip,e,Q,Q',hQ,h=>hQ _ _ h
 | .reg its out,e,Q,Q',hQ,h=>wpIts_mono (fun e h=>hQ _ _ h) h
 | .seq a b,e,Q,Q',hQ,h=>by
  refine wpS_mono a ?_ h
  intro x e h
  cases x with
  | n=>exact wpS_mono b hQ h
  | ex j=>exact hQ _ _ h
  | r=>exact hQ _ _ h
 | .cond c a b,e,Q,Q',hQ,h=>by
  simp only [wpS] at*
  split at h
  ·exact wpS_mono a hQ h
  ·exact wpS_mono b hQ h
  ·exact h
 | .block id b,e,Q,Q',hQ,h=>by
  refine wpS_mono b ?_ h
  intro x e h
  cases x with
  | n=>exact hQ _ _ h
  | ex j=>
   show if j=id then _ else _
   have h':if j=id then Q .n e else Q (.ex j) e:=h
   split
   ·rename_i hj; rw [if_pos hj] at h'; exact hQ _ _ h'
   ·rename_i hj; rw [if_neg hj] at h'; exact hQ _ _ h'
  | r=>exact hQ _ _ h
 | .loop b,e,Q,Q',hQ,h=>by
  obtain ⟨n,h⟩:=h
  exact ⟨n,wpLoop_mono (R:=wpS K b) (fun Q Q' e hQ h=>wpS_mono b hQ h) n hQ h⟩
 | .exit id,e,Q,Q',hQ,h=>hQ _ _ h
 | .ret,e,Q,Q',hQ,h=>hQ _ _ h
theorem loop_by {b:S} {Q:X→Env→Prop} {e:Env} (I:Nat→Env→Prop) (m:Nat) (h0:I m e)
  (step:∀ m e,I m e→wpS K b (fun x e'=>match x with | .n=>∃ m',m' < m∧I m' e' | x=>Q x e') e):wpS K (.loop b) Q e:=by
 suffices ∀ (m:Nat) (e:Env),I m e→∃ n,wpLoop (wpS K b) n Q e by exact this m e h0
 intro m
 induction m using Nat.strongRecOn with
 | ind m ih=>
  intro e hI
  have hs:=step m e hI
  -- all rounds that may follow have a bound; take the number for each,and the largest: by choice of one end,since a body may end in many ways,the bound is m
  suffices ∀ (m:Nat) (e:Env),I m e→wpLoop (wpS K b) (m+1) Q e from ⟨m+1,this m e hI⟩
  clear hs hI ih e m
  intro m
  induction m using Nat.strongRecOn with
  | ind m ih=>
   intro e hI
   simp only [wpLoop]
   refine wpS_mono b ?_ (step m e hI)
   intro x e h
   cases x with
   | n=>
    obtain ⟨m',hm,h⟩:=h
    have:=ih m' hm e h
    exact wpLoop_le (by omega) this
   | ex j=>exact h
   | r=>exact h
where
 wpLoop_le {b:S} {Q:X→Env→Prop}:∀ {n n':Nat} {e:Env} (_:n≤n') (_:wpLoop (wpS K b) n Q e),wpLoop (wpS K b) n' Q e
  | 0,_,_,_,h=>h.elim
  | n+1,0,_,hn,_=>by omega
  | n+1,n'+1,e,hn,h=>by
   simp only [wpLoop] at*
   refine wpS_mono b ?_ h
   intro x e h
   cases x with
   | n=>exact wpLoop_le (by omega) h
   | ex j=>exact h
   | r=>exact h
end
noncomputable def allB (n:Nat) (p:Nat→Bool):Bool:=Nat.rec (motive:=fun _=>Bool) true (fun n ih=>bif p n then ih else false) n
theorem allB_spec {p:Nat→Bool}:∀ {n:Nat},allB n p=true→∀ i,i<n→p i=true
 | 0,_,i,hi=>by omega
 | n+1,h,i,hi=>by
  change (bif p n then allB n p else false)=true at h
  cases hp:p n with
  | false=>rw [hp,cond_false] at h; cases h
  | true=>
  rw [hp,cond_true] at h
  rcases qlg i n with k | k
  ·exact allB_spec h i k
  ·have:i=n:=by omega
   subst this; exact hp
end Go.Cat
namespace Go.Cat
section
variable (K:Nat→List D→List D→Prop)
def seqQ (b:S) (Q:X→Env→Prop):X→Env→Prop
 | .n,e=>wpS K b Q e
 | .ex j,e=>Q (.ex j) e
 | .r,e=>Q .r e
def blkQ (id:Nat) (Q:X→Env→Prop):X→Env→Prop
 | .n,e=>Q .n e
 | .ex j,e=>if j=id then Q .n e else Q (.ex j) e
 | .r,e=>Q .r e
def regQ (out:List (Option Nat)) (Q:X→Env→Prop):Env→Prop:=fun e=>Q .n (outE out e)
def itsQ (r:List It) (Q:Env→Prop):Env→Prop:=fun e=>wpIts K r e Q
def valQ (e:Env) (Q:Env→Prop):Option D→Prop
 | some d=>Q (e++[d])
 | none=>False
def cndQ (x y:S) (Q:X→Env→Prop) (e:Env):D→Prop
 | .b true=>wpS K x Q e
 | .b false=>wpS K y Q e
 | _=>False
def calQ (g:Nat) (ds:List D) (r:Nat) (e:Env) (Q:Env→Prop):Prop:=∃ rs:List D,K g ds rs∧rs.length=r∧Q (e++rs)
def endQ (res:List Nat) (rs:List D):X→Env→Prop
 | .ex _,_=>False
 | .n,e=>rs=res.map e.E
 | .r,e=>rs=res.map e.E
def exQ (res:List Nat) (P:List D→Prop):X→Env→Prop
 | .ex _,_=>False
 | .n,e=>P (res.map e.E)
 | .r,e=>P (res.map e.E)
variable {K}
theorem exQ_n {res:List Nat} {P:List D→Prop} {e:Env}:exQ res P .n e=P (res.map e.E):=rfl
theorem exQ_r {res:List Nat} {P:List D→Prop} {e:Env}:exQ res P .r e=P (res.map e.E):=rfl
theorem wp_seq {a b:S} {Q:X→Env→Prop} {e:Env}:wpS K (.seq a b) Q e=wpS K a (seqQ K b Q) e:=by
 simp only [wpS]
 congr 1
 funext x e; cases x <;> rfl
theorem wp_block {id:Nat} {b:S} {Q:X→Env→Prop} {e:Env}:wpS K (.block id b) Q e=wpS K b (blkQ id Q) e:=by
 simp only [wpS]
 congr 1
 funext x e; cases x <;> rfl
theorem wp_skip {Q:X→Env→Prop} {e:Env}:wpS K .skip Q e=Q .n e:=rfl
theorem wp_exit {id:Nat} {Q:X→Env→Prop} {e:Env}:wpS K (.exit id) Q e=Q (.ex id) e:=rfl
theorem wp_ret {Q:X→Env→Prop} {e:Env}:wpS K .ret Q e=Q .r e:=rfl
theorem wp_reg {its:List It} {out:List (Option Nat)} {Q:X→Env→Prop} {e:Env}:wpS K (.reg its out) Q e=wpIts K its e (regQ out Q):=rfl
theorem wp_cond {n:Nat} {x y:S} {Q:X→Env→Prop} {e:Env}:wpS K (.cond n x y) Q e=cndQ K x y Q (e.set n .u) (e.E n):=by
 simp only [wpS]
 cases e.E n <;> try rfl
theorem seqQ_n {b:S} {Q:X→Env→Prop} {e:Env}:seqQ K b Q .n e=wpS K b Q e:=rfl
theorem seqQ_ex {b:S} {Q:X→Env→Prop} {e:Env} {j:Nat}:seqQ K b Q (.ex j) e=Q (.ex j) e:=rfl
theorem seqQ_r {b:S} {Q:X→Env→Prop} {e:Env}:seqQ K b Q .r e=Q .r e:=rfl
theorem blkQ_n {id:Nat} {Q:X→Env→Prop} {e:Env}:blkQ id Q .n e=Q .n e:=rfl
theorem blkQ_ex {id:Nat} {Q:X→Env→Prop} {e:Env} {j:Nat}:blkQ id Q (.ex j) e=if j=id then Q .n e else Q (.ex j) e:=rfl
theorem blkQ_r {id:Nat} {Q:X→Env→Prop} {e:Env}:blkQ id Q .r e=Q .r e:=rfl
theorem regQ_mk {out:List (Option Nat)} {Q:X→Env→Prop} {e:Env}:regQ out Q e=Q .n (outE out e):=rfl
theorem itsQ_mk {r:List It} {Q:Env→Prop} {e:Env}:itsQ K r Q e=wpIts K r e Q:=rfl
theorem valQ_some {e:Env} {Q:Env→Prop} {d:D}:valQ e Q (some d)=Q (e++[d]):=rfl
theorem cndQ_t {x y:S} {Q:X→Env→Prop} {e:Env}:cndQ K x y Q e (.b true)=wpS K x Q e:=rfl
theorem cndQ_f {x y:S} {Q:X→Env→Prop} {e:Env}:cndQ K x y Q e (.b false)=wpS K y Q e:=rfl
theorem endQ_n {res:List Nat} {rs:List D} {e:Env}:endQ res rs .n e=(rs=res.map e.E):=rfl
theorem endQ_r {res:List Nat} {rs:List D} {e:Env}:endQ res rs .r e=(rs=res.map e.E):=rfl
theorem wp_its_nil {e:Env} {Q:Env→Prop}:wpIts K [] e Q=Q e:=rfl
theorem wp_its_cons {it:It} {r:List It} {e:Env} {Q:Env→Prop}:wpIts K (it::r) e Q=wpIt K it e (itsQ K r Q):=rfl
def gdQ (z:List (Option Nat)) (p:Pr) (e:Env) (Q:Env→Prop):Option Bool→Prop
 | some true=>wpPr K p e Q
 | some false=>Q (e++skE e.E z p.np)
 | none=>False
theorem wp_it {z:List (Option Nat)} {g:Gd} {p:Pr} {e:Env} {Q:Env→Prop}:wpIt K ⟨z,g,p⟩ e Q=gdQ (K:=K) z p e Q (gdE e.E g):=by
 simp only [wpIt]
 split <;> rename_i h <;> simp only [h] <;> rfl
theorem gdQ_t {z:List (Option Nat)} {p:Pr} {e:Env} {Q:Env→Prop}:gdQ (K:=K) z p e Q (some true)=wpPr K p e Q:=rfl
theorem gdQ_f {z:List (Option Nat)} {p:Pr} {e:Env} {Q:Env→Prop}:gdQ (K:=K) z p e Q (some false)=Q (e++skE e.E z p.np):=rfl
theorem skE_z {E:Nat→D} {n:Nat}:skE E [] n=List.replicate n .u:=skE_nil n
theorem skE_s {E:Nat→D} {m:Nat} {z:List (Option Nat)} {n:Nat}:skE E (some m::z) (n+1)=E m::skE E z n:=rfl
theorem skE_n {E:Nat→D} {z:List (Option Nat)} {n:Nat}:skE E (none::z) (n+1)=.u::skE E z n:=rfl
theorem gdE_nil {E:Nat→D}:gdE E []=some true:=rfl
def gdB (w:Bool) (r:Option Bool):D→Option Bool
 | .b x=>if x=w then r else some false
 | _=>none
theorem gdE_cons {E:Nat→D} {n:Nat} {w:Bool} {r:Gd}:gdE E ((n,w)::r)=gdB w (gdE E r) (E n):=rfl
theorem gdB_tt {r:Option Bool}:gdB true r (.b true)=r:=rfl
theorem gdB_ff {r:Option Bool}:gdB false r (.b false)=r:=rfl
theorem gdB_tf {r:Option Bool}:gdB true r (.b false)=some false:=rfl
theorem gdB_ft {r:Option Bool}:gdB false r (.b true)=some false:=rfl
theorem wp_pr_nop {e:Env} {Q:Env→Prop}:wpPr K .nop e Q=Q e:=rfl
theorem wp_pr_ca {g:Nat} {xs:List A} {r:Nat} {e:Env} {Q:Env→Prop}:wpPr K (.ca g xs r) e Q=calQ K g (xs.map (ev e.E)) r e Q:=rfl
def fnQ (g:Nat) (P:Prop) (d:D):Prop:=d=.f g []∧P
theorem fnQ_eq {g:Nat} {P:Prop}:fnQ g P (.f g [])=P:=by simp [fnQ]
theorem wp_pr_cd {f:A} {g:Nat} {xs:List A} {r:Nat} {e:Env} {Q:Env→Prop}:wpPr K (.cd f g xs r) e Q=fnQ g (calQ K g (xs.map (ev e.E)) r e Q) (ev e.E f):=rfl
def tkQ (e:Env) (Q:Env→Prop):D→Prop
 | .g [d]=>Q (e++[d,.g [.u]])
 | _=>False
theorem tkQ_g {e:Env} {Q:Env→Prop} {d:D}:tkQ e Q (.g [d])=Q (e++[d,.g [.u]]):=rfl
theorem wp_pr_tk {n:Nat} {e:Env} {Q:Env→Prop}:wpPr K (.tk n) e Q=tkQ e Q (e.E n):=by
 simp only [wpPr,tkD,tkQ]
 split <;> rename_i h <;> split at h <;> simp_all
def twoQ (e:Env) (Q:Env→Prop):Option (D×D)→Prop
 | some d=>Q (e++[d.1,d.2])
 | none=>False
theorem twoQ_s {e:Env} {Q:Env→Prop} {x y:D}:twoQ e Q (some (x,y))=Q (e++[x,y]):=rfl
theorem wp_pr_sp {n k:Nat} {p:List PE} {e:Env} {Q:Env→Prop}:wpPr K (.sp n p k) e Q=twoQ e Q (spD k (e.E n) (p.mapM (PE.ev e.E))):=by
 simp only [wpPr,twoQ]
 split <;> rename_i h <;> simp only [h]
theorem wp_pr_sw {n:Nat} {e:Env} {Q:Env→Prop}:wpPr K (.sw n) e Q=twoQ e Q (swD (e.E n)):=by
 simp only [wpPr,twoQ]
 split <;> rename_i h <;> simp only [h]
theorem swD_g {xs:List D}:swD (.g xs)=some (.g xs,.g (List.replicate xs.length .u)):=rfl
theorem spD_g {k i:Nat} {xs:List D}:spD k (.g xs) (some [i])=xs[i]?.bind fun x=>if depB k x=true then some (x,.g (xs.set i .u)) else none:=by
 simp only [spD,Option.bind_some,getP,setP]
 cases xs[i]? with
 | none=>rfl
 | some x=>rfl
theorem wp_pr_jn {e:Env} {Q:Env→Prop} (n:Nat) (p:List PE) (a:A) (k:Nat):wpPr K (.jn n p a k) e Q=valQ e Q (evP e.E (.jn n p a k)):=by
 simp only [wpPr]; split <;> rename_i h <;> simp only [h] <;> rfl
def jnD (is:Option (List Nat)) (d x:D) (k:Nat):Option D:=if (x.one&&depB k x)=true then is.bind fun is=>setP is d x else none
theorem wp_pr_cs {e:Env} {Q:Env→Prop} (s:Sh) (d:D):wpPr K (.cs s d) e Q=valQ e Q (evP e.E (.cs s d)):=by
 simp only [wpPr]; split <;> rename_i h <;> simp only [h] <;> rfl
theorem wp_pr_cy {e:Env} {Q:Env→Prop} (a:A):wpPr K (.cy a) e Q=valQ e Q (evP e.E (.cy a)):=by
 simp only [wpPr]; split <;> rename_i h <;> simp only [h] <;> rfl
theorem wp_pr_bi {e:Env} {Q:Env→Prop} (op:BinOp) (a b:A):wpPr K (.bi op a b) e Q=valQ e Q (evP e.E (.bi op a b)):=by
 simp only [wpPr]; split <;> rename_i h <;> simp only [h] <;> rfl
theorem wp_pr_bb {e:Env} {Q:Env→Prop} (op:BinOp) (a b:A):wpPr K (.bb op a b) e Q=valQ e Q (evP e.E (.bb op a b)):=by
 simp only [wpPr]; split <;> rename_i h <;> simp only [h] <;> rfl
theorem wp_pr_un {e:Env} {Q:Env→Prop} (op:UnOp) (a:A):wpPr K (.un op a) e Q=valQ e Q (evP e.E (.un op a)):=by
 simp only [wpPr]; split <;> rename_i h <;> simp only [h] <;> rfl
theorem wp_pr_pk {e:Env} {Q:Env→Prop} (a b c:A):wpPr K (.pk a b c) e Q=valQ e Q (evP e.E (.pk a b c)):=by
 simp only [wpPr]; split <;> rename_i h <;> simp only [h] <;> rfl
theorem wp_pr_cv {e:Env} {Q:Env→Prop} (k:IntKind) (a:A):wpPr K (.cv k a) e Q=valQ e Q (evP e.E (.cv k a)):=by
 simp only [wpPr]; split <;> rename_i h <;> simp only [h] <;> rfl
theorem wp_pr_ln {e:Env} {Q:Env→Prop} (a:A) (p:List PE):wpPr K (.ln a p) e Q=valQ e Q (evP e.E (.ln a p)):=by
 simp only [wpPr]; split <;> rename_i h <;> simp only [h] <;> rfl
theorem wp_pr_sn {e:Env} {Q:Env→Prop} (a:A):wpPr K (.sn a) e Q=valQ e Q (evP e.E (.sn a)):=by
 simp only [wpPr]; split <;> rename_i h <;> simp only [h] <;> rfl
theorem wp_pr_sx {e:Env} {Q:Env→Prop} (a i:A):wpPr K (.sx a i) e Q=valQ e Q (evP e.E (.sx a i)):=by
 simp only [wpPr]; split <;> rename_i h <;> simp only [h] <;> rfl
theorem wp_pr_ss {e:Env} {Q:Env→Prop} (a:A) (lo hi:Option A):wpPr K (.ss a lo hi) e Q=valQ e Q (evP e.E (.ss a lo hi)):=by
 simp only [wpPr]; split <;> rename_i h <;> simp only [h] <;> rfl
theorem wp_pr_ix {e:Env} {Q:Env→Prop} (a:A) (p:List PE) (i:A):wpPr K (.ix a p i) e Q=valQ e Q (evP e.E (.ix a p i)):=by
 simp only [wpPr]; split <;> rename_i h <;> simp only [h] <;> rfl
theorem wp_pr_up {e:Env} {Q:Env→Prop} (n:Nat) (p:List PE) (a:A):wpPr K (.up n p a) e Q=valQ e Q (evP e.E (.up n p a)):=by
 simp only [wpPr]; split <;> rename_i h <;> simp only [h] <;> rfl
theorem wp_pr_sb {e:Env} {Q:Env→Prop} (fz:Bool) (a:A) (lo hi:Option A):wpPr K (.sb fz a lo hi) e Q=valQ e Q (evP e.E (.sb fz a lo hi)):=by
 simp only [wpPr]; split <;> rename_i h <;> simp only [h] <;> rfl
theorem wp_pr_ap {e:Env} {Q:Env→Prop} (fl:Bool) (a b:A):wpPr K (.ap fl a b) e Q=valQ e Q (evP e.E (.ap fl a b)):=by
 simp only [wpPr]; split <;> rename_i h <;> simp only [h] <;> rfl
theorem wp_pr_mk {e:Env} {Q:Env→Prop} (d:D) (n c:A):wpPr K (.mk d n c) e Q=valQ e Q (evP e.E (.mk d n c)):=by
 simp only [wpPr]; split <;> rename_i h <;> simp only [h] <;> rfl
theorem wp_pr_li {e:Env} {Q:Env→Prop} (s:Sh) (xs:List A):wpPr K (.li s xs) e Q=valQ e Q (evP e.E (.li s xs)):=by
 simp only [wpPr]; split <;> rename_i h <;> simp only [h] <;> rfl
theorem wp_pr_bs {e:Env} {Q:Env→Prop} (a:A):wpPr K (.bs a) e Q=valQ e Q (evP e.E (.bs a)):=by
 simp only [wpPr]; split <;> rename_i h <;> simp only [h] <;> rfl
theorem wp_pr_sy {e:Env} {Q:Env→Prop} (a:A):wpPr K (.sy a) e Q=valQ e Q (evP e.E (.sy a)):=by
 simp only [wpPr]; split <;> rename_i h <;> simp only [h] <;> rfl
theorem wp_pr_mx {e:Env} {Q:Env→Prop} (a b:A):wpPr K (.mx a b) e Q=valQ e Q (evP e.E (.mx a b)):=by
 simp only [wpPr]; split <;> rename_i h <;> simp only [h] <;> rfl
theorem wp_pr_mn {e:Env} {Q:Env→Prop} (a b:A):wpPr K (.mn a b) e Q=valQ e Q (evP e.E (.mn a b)):=by
 simp only [wpPr]; split <;> rename_i h <;> simp only [h] <;> rfl
theorem wp_pr_iy {e:Env} {Q:Env→Prop} (a i:A):wpPr K (.iy a i) e Q=valQ e Q (evP e.E (.iy a i)):=by
 simp only [wpPr]; split <;> rename_i h <;> simp only [h] <;> rfl
theorem wp_pr_bg {e:Env} {Q:Env→Prop} (k:Nat) (xs:List (A×Nat)):wpPr K (.bg k xs) e Q=valQ e Q (evP e.E (.bg k xs)):=by
 simp only [wpPr]; split <;> rename_i h <;> simp only [h] <;> rfl
theorem wp_pr_bp {e:Env} {Q:Env→Prop} (a:A):wpPr K (.bp a) e Q=valQ e Q (evP e.E (.bp a)):=by
 simp only [wpPr]; split <;> rename_i h <;> simp only [h] <;> rfl
theorem wp_pr_gp {e:Env} {Q:Env→Prop} (a:A) (k:Nat):wpPr K (.gp a k) e Q=valQ e Q (evP e.E (.gp a k)):=by
 simp only [wpPr]; split <;> rename_i h <;> simp only [h] <;> rfl
theorem wp_pr_nz {e:Env} {Q:Env→Prop} (w:Bool) (a:A):wpPr K (.nz w a) e Q=valQ e Q (evP e.E (.nz w a)):=by
 simp only [wpPr]; split <;> rename_i h <;> simp only [h] <;> rfl
theorem wp_pr_nn {e:Env} {Q:Env→Prop} (a:A):wpPr K (.nn a) e Q=valQ e Q (evP e.E (.nn a)):=by
 simp only [wpPr]; split <;> rename_i h <;> simp only [h] <;> rfl
theorem wp_pr_wl {e:Env} {Q:Env→Prop} (k:Nat) (a:A):wpPr K (.wl k a) e Q=valQ e Q (evP e.E (.wl k a)):=by
 simp only [wpPr]; split <;> rename_i h <;> simp only [h] <;> rfl
theorem wp_pr_ws {e:Env} {Q:Env→Prop} (n k:Nat) (a:A):wpPr K (.ws n k a) e Q=valQ e Q (evP e.E (.ws n k a)):=by
 simp only [wpPr]; split <;> rename_i h <;> simp only [h] <;> rfl
theorem wp_pr_gt {e:Env} {Q:Env→Prop} (a:A) (p:List PE):wpPr K (.gt a p) e Q=valQ e Q (evP e.E (.gt a p)):=by
 simp only [wpPr]; split <;> rename_i h <;> simp only [h] <;> rfl
theorem wp_pr_fp {e:Env} {Q:Env→Prop} (fl:Bool) (a:A) (k:Nat):wpPr K (.fp fl a k) e Q=valQ e Q (evP e.E (.fp fl a k)):=by
 simp only [wpPr]; split <;> rename_i h <;> simp only [h] <;> rfl
theorem wp_pr_cb {e:Env} {Q:Env→Prop} (n:Nat):wpPr K (.cb n) e Q=valQ e Q (evP e.E (.cb n)):=by
 simp only [wpPr]; split <;> rename_i h <;> simp only [h] <;> rfl
theorem wp_pr_uq {e:Env} {Q:Env→Prop} (n:Nat) (p:List PE) (a:A) (i k:Nat):wpPr K (.uq n p a i k) e Q=valQ e Q (evP e.E (.uq n p a i k)):=by
 simp only [wpPr]; split <;> rename_i h <;> simp only [h] <;> rfl
end
section
variable {E:Nat→D}
theorem ev_e {n:Nat}:ev E (.e n)=E n:=rfl
theorem ev_c {d:D}:ev E (.c d)=d:=rfl
theorem evP_cs {s:Sh} {d:D}:evP E (.cs s d)=some d:=rfl
theorem evP_cy {a:A}:evP E (.cy a)=some (ev E a):=rfl
theorem evP_bin {op:BinOp} {a b:A}:evP E (.bi op a b)=binD op (ev E a) (ev E b):=rfl
theorem evP_bbo {op:BinOp} {a b:A}:evP E (.bb op a b)=boolD op (ev E a) (ev E b):=rfl
theorem evP_uno {op:UnOp} {a:A}:evP E (.un op a)=unD op (ev E a):=rfl
def pkD (c a b:D):Option D:=match c with | .b true=>some a | .b false=>some b | _=>none
theorem evP_pk {c a b:A}:evP E (.pk c a b)=pkD (ev E c) (ev E a) (ev E b):=by
 simp only [evP,pkD]; split <;> rename_i h <;> simp only [h]
theorem pkD_t {a b:D}:pkD (.b true) a b=some a:=rfl
theorem pkD_f {a b:D}:pkD (.b false) a b=some b:=rfl
theorem pkD_ff {p q:Bool}:pkD (.b p) (.b q) (.b false)=some (.b (p&&q)):=by cases p <;> rfl
theorem pkD_tt {p q:Bool}:pkD (.b p) (.b true) (.b q)=some (.b (p || q)):=by cases p <;> rfl
def cvD (k:IntKind):D→Option D | .i _ n=>some (.i k (k.wrap n)) | _=>none
theorem evP_cv {k:IntKind} {a:A}:evP E (.cv k a)=cvD k (ev E a):=by
 simp only [evP]; cases ev E a <;> rfl
theorem cvD_i {k k':IntKind} {n:Int}:cvD k (.i k' n)=some (.i k (k.wrap n)):=rfl
theorem evP_ln {a:A} {p:List PE}:evP E (.ln a p)=(pathD E p (ev E a)).bind lenD:=rfl
theorem pathD_nil {d:D}:pathD E [] d=some d:=rfl
theorem pathD_one {pe:PE} {d:D}:pathD E [pe] d=(pe.ev E).bind fun i=>getP [i] d:=by
 simp only [pathD,List.mapM_cons,List.mapM_nil]
 cases pe.ev E <;> rfl
theorem evP_sn {a:A}:evP E (.sn a)=snD (ev E a):=rfl
theorem evP_sx {a i:A}:evP E (.sx a i)=sxD (ev E a) (ev E i):=rfl
theorem evP_ss {a:A} {lo hi:Option A}:evP E (.ss a lo hi)=ssD (ev E a) (lo.map (ev E)) (hi.map (ev E)):=rfl
theorem evP_ix {a i:A}:evP E (.ix a [] i)=ixD (ev E a) (ev E i):=rfl
theorem evP_ixp {a i:A} {p:List PE}:evP E (.ix a p i)=(pathD E p (ev E a)).bind fun d=>ixD d (ev E i):=rfl
theorem evP_iy {a i:A}:evP E (.iy a i)=(ixD (ev E a) (ev E i)).bind flatD:=rfl
def upD (is:Option (List Nat)) (d x:D):Option D:=if x.one=true then is.bind fun is=>setP is d x else none
theorem evP_up {n:Nat} {p:List PE} {a:A}:evP E (.up n p a)=upD (p.mapM (PE.ev E)) (E n) (ev E a):=rfl
theorem pes_one {pe:PE}:[pe].mapM (PE.ev E)=(pe.ev E).map ([·]):=by
 simp only [List.mapM_cons,List.mapM_nil]; cases pe.ev E <;> rfl
theorem pes_two {pe qe:PE}:[pe,qe].mapM (PE.ev E)=(pe.ev E).bind fun i=>(qe.ev E).map fun j=>[i,j]:=by
 simp only [List.mapM_cons,List.mapM_nil]; cases pe.ev E <;> cases qe.ev E <;> rfl
theorem pe_k {n:Nat}:PE.ev E (.k n)=some n:=rfl
def natD:D→Option Nat | .i _ z=>if 0≤z then some z.toNat else none | _=>none
theorem pe_e {n:Nat}:PE.ev E (.e n)=natD (E n):=by
 simp only [PE.ev]; cases E n <;> rfl
theorem natD_i {k:IntKind} {z:Int} (h:0≤z):natD (.i k z)=some z.toNat:=by simp [natD,h]
theorem evP_sb {fz:Bool} {a:A} {lo hi:Option A}:evP E (.sb fz a lo hi)=subD (ev E a) (lo.map (ev E)) (hi.map (ev E)):=rfl
theorem evP_ap {fl:Bool} {a b:A}:evP E (.ap fl a b)=appD fl (ev E a) (ev E b):=rfl
theorem evP_mk {d:D} {n c:A}:evP E (.mk d n c)=mkD d (ev E n) (ev E c):=rfl
def liD (xs:List D):Option D:=if xs.all D.one=true then some (.l xs) else none
theorem evP_li {s:Sh} {xs:List A}:evP E (.li s xs)=liD (xs.map (ev E)):=rfl
theorem evP_bs {a:A}:evP E (.bs a)=bsD (ev E a):=rfl
theorem evP_sy {a:A}:evP E (.sy a)=syD (ev E a):=rfl
def mxD:D→D→Option D | .i k x,.i k' y=>if k=k' then some (.i k (if y > x then y else x)) else none | _,_=>none
def mnD:D→D→Option D | .i k x,.i k' y=>if k=k' then some (.i k (if y<x then y else x)) else none | _,_=>none
def bgD (k:Nat) (l:List (D×Nat)):Option D:=if l.all (putB k)=true then some (.g (l.map (·.1))) else none
theorem evP_bg {k:Nat} {xs:List (A×Nat)}:evP E (.bg k xs)=bgD k (xs.map fun x=>(ev E x.1,x.2)):=by
 simp only [evP,bgD,List.map_map]; rfl
def bg2 (k:Nat):Bool→List (D×Nat)→List D→Option D
 | false,_,_=>none
 | true,[],r=>some (.g r)
 | true,x::l,r=>bg2 k (putB k x) l (r++[x.1])
theorem bgD_eq {k:Nat} {l:List (D×Nat)}:bgD k l=bg2 k true l []:=by
 have key:∀ (l:List (D×Nat)) (r:List D),bg2 k true l r=if l.all (putB k)=true then some (.g (r++l.map (·.1))) else none:=by
  intro l
  induction l with
  | nil=>intro r; simp [bg2]
  | cons x l ih=>
   intro r
   simp only [bg2]
   cases h:putB k x with
   | true=>rw [ih]; simp only [List.all_cons,h,Bool.true_and,List.map_cons,qaa,List.cons_append,List.nil_append]
   | false=>simp [h,bg2]
 rw [key]; simp [bgD]
theorem bg2_nil {k:Nat} {r:List D}:bg2 k true [] r=some (.g r):=rfl
theorem bg2_cons {k:Nat} {x:D×Nat} {l:List (D×Nat)} {r:List D}:bg2 k true (x::l) r=bg2 k (putB k x) l (r++[x.1]):=rfl
theorem putB_0 {d:D} {i:Nat}:putB 0 (d,i)=d.one:=by simp [putB]
theorem putB_i {k i:Nat} {q:IntKind} {n:Int}:putB k (.i q n,i)=true:=by
 simp only [putB,D.one,Bool.true_and,Bool.or_eq_true]; right; cases min i k <;> simp [depB,D.flat]
theorem putB_s {k i:Nat} {x:List Nat}:putB k (.s x,i)=true:=by
 simp only [putB,D.one,Bool.true_and,Bool.or_eq_true]; right; cases min i k <;> simp [depB,D.flat]
theorem putB_b {k i:Nat} {x:Bool}:putB k (.b x,i)=true:=by
 simp only [putB,D.one,Bool.true_and,Bool.or_eq_true]; right; cases min i k <;> simp [depB,D.flat]
theorem evP_bp {a:A}:evP E (.bp a)=bpD (ev E a):=rfl
theorem bpD_g {xs:List D}:bpD (.g xs)=some (.p xs):=rfl
def lenK:List D→Nat→Bool
 | [],0=>true
 | _::xs,k+1=>lenK xs k
 | _,_=>false
theorem lenK_eq:∀ {xs:List D} {k:Nat},lenK xs k=decide (xs.length=k)
 | [],0=>rfl
 | [],k+1=>rfl
 | _::xs,0=>rfl
 | _::xs,k+1=>by simp [lenK,lenK_eq (xs:=xs) (k:=k)]
theorem lenK_nil:lenK [] 0=true:=rfl
theorem lenK_cons {x:D} {xs:List D} {k:Nat}:lenK (x::xs) (k+1)=lenK xs k:=rfl
def allO:List D→Bool
 | []=>true
 | x::xs=>x.one&&allO xs
theorem allO_eq:∀ {xs:List D},allO xs=xs.all D.one
 | []=>rfl
 | x::xs=>by simp [allO,allO_eq (xs:=xs)]
theorem allO_nil:allO []=true:=rfl
theorem allO_cons {x:D} {xs:List D}:allO (x::xs)=(x.one&&allO xs):=rfl
def okQ {α:Type} (r:α):Bool→Option α
 | true=>some r
 | false=>none
theorem okQ_t {α:Type} {r:α}:okQ r true=some r:=rfl
theorem evP_gp {a:A} {k:Nat}:evP E (.gp a k)=gpD k (ev E a):=rfl
theorem gpD_p {xs:List D} {k:Nat}:gpD k (.p xs)=okQ (.g xs) (lenK xs k):=by
 rw [lenK_eq]; simp only [gpD]; by_cases h:xs.length=k <;> simp [h,okQ]
theorem evP_nz {w:Bool} {a:A}:evP E (.nz w a)=(nzD (ev E a)).map fun x=>.b (x == w):=rfl
theorem nzD_z:nzD .z=some true:=rfl
theorem nzD_p {xs:List D}:nzD (.p xs)=some false:=rfl
theorem evP_nn {a:A}:evP E (.nn a)=nnD (ev E a):=rfl
theorem nnD_p {xs:List D}:nnD (.p xs)=some (.p xs):=rfl
theorem evP_wl {k:Nat} {a:A}:evP E (.wl k a)=wlD k (ev E a):=rfl
theorem wlD_g {xs:List D} {k:Nat}:wlD k (.g xs)=okQ (.g xs) (lenK xs k&&allO xs):=by
 rw [lenK_eq,allO_eq]; simp only [wlD]
 by_cases h:xs.length=k <;> by_cases h2:xs.all D.one=true <;> simp [h,h2,okQ]
def wsD (d:D) (k:Nat) (x:D):Option D:=if lenG k d=true then wlD k x else none
theorem evP_ws {n k:Nat} {a:A}:evP E (.ws n k a)=wsD (E n) k (ev E a):=rfl
theorem wsD_g {ys xs:List D} {k:Nat}:wsD (.g ys) k (.g xs)=okQ (.g xs) (lenK ys k&&(lenK xs k&&allO xs)):=by
 simp only [wsD,lenG,wlD_g,lenK_eq]
 by_cases h:ys.length=k <;> simp [h,okQ]
theorem evP_gt {a:A} {p:List PE}:evP E (.gt a p)=(pathD E p (ev E a)).bind known:=rfl
theorem getP_g {i:Nat} {xs:List D}:getP [i] (.g xs)=xs[i]?:=by
 simp only [getP]; cases xs[i]? <;> rfl
theorem known_i {q:IntKind} {n:Int}:known (.i q n)=some (.i q n):=rfl
theorem known_b {x:Bool}:known (.b x)=some (.b x):=rfl
theorem known_s {x:List Nat}:known (.s x)=some (.s x):=rfl
theorem known_l {x:List D}:known (.l x)=some (.l x):=rfl
theorem known_p {x:List D}:known (.p x)=some (.p x):=rfl
theorem known_z:known .z=some .z:=rfl
def fpE (fl:Bool) (k:Nat) (d:D):Option D:=(fpD k d).bind fun d=>if fl=true then flatD d else some d
theorem evP_fp {fl:Bool} {a:A} {k:Nat}:evP E (.fp fl a k)=fpE fl k (ev E a):=rfl
def fpK (fl:Bool) (d:D):Option D:=(known d).bind fun d=>if fl=true then flatD d else some d
theorem fpE_p {fl:Bool} {k:Nat} {xs:List D}:fpE fl k (.p xs)=xs[k]?.bind (fpK fl):=by
 simp only [fpE,fpD]; cases xs[k]? <;> rfl
theorem fpK_f {d:D}:fpK false d=known d:=by simp [fpK]
theorem fpK_ti {q:IntKind} {n:Int}:fpK true (.i q n)=some (.i q n):=rfl
theorem fpK_ts {x:List Nat}:fpK true (.s x)=some (.s x):=rfl
theorem fpK_tb {x:Bool}:fpK true (.b x)=some (.b x):=rfl
theorem setP_g {i:Nat} {xs:List D} {x:D}:setP [i] (.g xs) x=xs[i]?.map fun _=>.g (xs.set i x):=by
 simp only [setP]; cases xs[i]? <;> rfl
def uqD (is:Option (List Nat)) (d x:D) (i k:Nat):Option D:=if putB k (x,i)=true then is.bind fun is=>setP is d x else none
theorem evP_jn {n k:Nat} {p:List PE} {a:A}:evP E (.jn n p a k)=jnD (p.mapM (PE.ev E)) (E n) (ev E a) k:=rfl
theorem evP_cb {n:Nat}:evP E (.cb n)=cbD (E n):=rfl
theorem cbD_g {x:D} {xs:List D}:cbD (.g (x::xs))=some .u:=rfl
theorem evP_uq {n:Nat} {p:List PE} {a:A} {i k:Nat}:evP E (.uq n p a i k)=uqD (p.mapM (PE.ev E)) (E n) (ev E a) i k:=rfl
theorem one_l {xs:List D}:(D.l xs).one=true:=rfl
theorem one_p {xs:List D}:(D.p xs).one=true:=rfl
theorem one_z:D.z.one=true:=rfl
theorem ixL_0 {x:D} {xs:List D}:(x::xs)[0]?=some x:=rfl
theorem ixL_s {x:D} {xs:List D} {n:Nat}:(x::xs)[n+1]?=xs[n]?:=by simp
theorem evP_mx {a b:A}:evP E (.mx a b)=mxD (ev E a) (ev E b):=by
 simp only [evP]; cases ev E a <;> cases ev E b <;> rfl
theorem evP_mn {a b:A}:evP E (.mn a b)=mnD (ev E a) (ev E b):=by
 simp only [evP]; cases ev E a <;> cases ev E b <;> rfl
theorem mxD_n {k:IntKind} {x y:Int}:mxD (.i k x) (.i k y)=some (.i k (max x y)):=by
 simp only [mxD,if_true]; congr 2; omega
theorem mnD_n {k:IntKind} {x y:Int}:mnD (.i k x) (.i k y)=some (.i k (min x y)):=by
 simp only [mnD,if_true]; congr 2; omega
end
theorem E_nil (n:Nat):Env.E [] n=.u:=rfl
theorem E_zero (d:D) (e:Env):Env.E (d::e) 0=d:=rfl
theorem E_succ (d:D) (e:Env) (n:Nat):Env.E (d::e) (n+1)=Env.E e n:=by simp [Env.E]
theorem outE_nil {e:Env}:outE [] e=[]:=rfl
theorem outE_some {n:Nat} {o:List (Option Nat)} {e:Env}:outE (some n::o) e=e.E n::outE o e:=rfl
theorem outE_none {o:List (Option Nat)} {e:Env}:outE (none::o) e=.u::outE o e:=rfl
section
variable {k:IntKind} {a b:Int}
theorem bin_add:binD .add (.i k a) (.i k b)=some (.i k (k.wrap (a+b))):=by simp [binD,intD]
theorem bin_sub:binD .sub (.i k a) (.i k b)=some (.i k (k.wrap (a-b))):=by simp [binD,intD]
theorem bin_mul:binD .mul (.i k a) (.i k b)=some (.i k (k.wrap (a*b))):=by simp [binD,intD]
theorem bin_quo (h:b≠0):binD .quo (.i k a) (.i k b)=some (.i k (k.wrap (a.tdiv b))):=by simp [binD,intD,h]
theorem bin_rem (h:b≠0):binD .rem (.i k a) (.i k b)=some (.i k (a.tmod b)):=by simp [binD,intD,h]
theorem bin_eql:binD .eql (.i k a) (.i k b)=some (.b (decide (a=b))):=by simp [binD,intD]; rfl
theorem bin_neq:binD .neq (.i k a) (.i k b)=some (.b (!decide (a=b))):=by
 simp only [binD,intD,if_true]; congr 2
theorem bin_lss:binD .lss (.i k a) (.i k b)=some (.b (decide (a<b))):=by simp [binD,intD]
theorem bin_leq:binD .leq (.i k a) (.i k b)=some (.b (decide (a≤b))):=by simp [binD,intD]
theorem bin_gtr:binD .gtr (.i k a) (.i k b)=some (.b (decide (b<a))):=by simp [binD,intD]
theorem bin_geq:binD .geq (.i k a) (.i k b)=some (.b (decide (b≤a))):=by simp [binD,intD]
theorem un_not {p:Bool}:unD .not (.b p)=some (.b (!p)):=rfl
theorem un_neg:unD .neg (.i k a)=some (.i k (k.wrap (0-a))):=rfl
theorem boolD_eql {p q:Bool}:boolD .eql (.b p) (.b q)=some (.b (p == q)):=rfl
theorem boolD_neq {p q:Bool}:boolD .neq (.b p) (.b q)=some (.b (!(p == q))):=rfl
theorem str_eql {x y:List Nat}:binD .eql (.s x) (.s y)=some (.b (x == y)):=rfl
theorem str_neq {x y:List Nat}:binD .neq (.s x) (.s y)=some (.b (!(x == y))):=rfl
theorem str_add {x y:List Nat} (h:x.length+y.length≤1099511627776):binD .add (.s x) (.s y)=some (.s (x++y)):=by
 show strD .add x y=_; simp only [strD]; rw [if_pos (show x.length+y.length≤big from h)]
end
theorem wrap_i64 {x:Int} (h:-9223372036854775808≤x∧x≤9223372036854775807):IntKind.i64.wrap x=x:=by
 obtain ⟨h1,h2⟩:=h
 have e:x % (2 ^ 64:Int)=x % 18446744073709551616:=rfl
 by_cases h0:0≤x
 ·have h3:x % 18446744073709551616=x:=Int.emod_eq_of_lt h0 (by omega)
  simp [IntKind.wrap,IntKind.bits,IntKind.signed,h3]; omega
 ·have h3:x % 18446744073709551616=x+18446744073709551616:=by omega
  simp [IntKind.wrap,IntKind.bits,IntKind.signed,h3]; omega
theorem wrap_u8 {x:Int} (h:0≤x∧x≤255):IntKind.u8.wrap x=x:=by
 obtain ⟨h1,h2⟩:=h
 have h3:x % 256=x:=Int.emod_eq_of_lt h1 (by omega)
 simp [IntKind.wrap,IntKind.bits,IntKind.signed,h3]
end Go.Cat
namespace Go.Cat
def LI (zs:List Int):D:=.l (zs.map D.n)
def LS (ss:List (List Nat)):D:=.l (ss.map D.s)
def LB (bs:List Nat):D:=.l (bs.map D.y)
def LT (bs:List Bool):D:=.l (bs.map D.b)
def LL (rs:List (List Int)):D:=.l (rs.map LI)
def atI (zs:List Int) (i:Int):Int:=zs.getD i.toNat 0
def atS (ss:List (List Nat)) (i:Int):List Nat:=ss.getD i.toNat []
def atB (bs:List Nat) (i:Int):Nat:=bs.getD i.toNat 0
def atT (bs:List Bool) (i:Int):Bool:=bs.getD i.toNat false
def atL (rs:List (List Int)) (i:Int):List Int:=rs.getD i.toNat []
def seI (zs:List Int) (i:Int) (x:Int):List Int:=zs.set i.toNat x
def seS (zs:List (List Nat)) (i:Int) (x:List Nat):List (List Nat):=zs.set i.toNat x
def seT (zs:List Bool) (i:Int) (x:Bool):List Bool:=zs.set i.toNat x
def seL (zs:List (List Int)) (i:Int) (x:List Int):List (List Int):=zs.set i.toNat x
def rep {α:Type} (n:Int) (x:α):List α:=List.replicate n.toNat x
def sub {α:Type} (xs:List α) (i j:Int):List α:=(xs.take j.toNat).drop i.toNat
section
variable {α:Type} (f:α→D) (df:α)
theorem ix_map {zs:List α} {k:IntKind} {i:Int} (hf:∀ a,(f a).isU=false) (h0:0≤i) (h1:i<zs.length):ixD (.l (zs.map f)) (.i k i)=some (f (zs.getD i.toNat df)):=by
 have h2:i.toNat<zs.length:=by omega
 simp [ixD,h0,h2,known,hf]
theorem get_map {zs:List α} {i:Nat} (h1:i<zs.length):getP [i] (.l (zs.map f))=some (f (zs.getD i df)):=by
 simp [getP,h1]
theorem set_map {zs:List α} {i:Nat} {x:α} (h1:i<zs.length):setP [i] (.l (zs.map f)) (f x)=some (.l ((zs.set i x).map f)):=by
 simp [setP,h1,List.map_set]
theorem sub_map {zs:List α} {lo hi:Option D} {l h:Nat} (hl:bound lo 0=some l) (hh:bound hi zs.length=some h) (h1:l≤h) (h2:h≤zs.length):subD (.l (zs.map f)) lo hi=some (.l (((zs.take h).drop l).map f)):=by
 simp [subD,hl,hh,h1,h2,List.map_take,List.map_drop]
theorem app_map {fl:Bool} {xs ys:List α} (hf:∀ a,(f a).one=true∧(fl=true→(f a).flat=true)) (h:xs.length+ys.length≤big):appD fl (.l (xs.map f)) (.l (ys.map f))=some (.l ((xs++ys).map f)):=by
 have h2:(ys.map f).all (if fl=true then D.flat else D.one)=true:=by
  cases fl with
  | true=>simpa using fun a _=>(hf a).2 rfl
  | false=>simpa using fun a _=>(hf a).1
 simp only [appD,List.length_map]
 rw [if_pos ⟨h,h2⟩,List.map_append]
end
theorem bound_none {d:Nat}:bound none d=some d:=rfl
theorem bound_some {k:IntKind} {n:Int} {d:Nat} (h:0≤n):bound (some (.i k n)) d=some n.toNat:=by simp [bound,h]
section
variable {zs ys:List Int} {i j x:Int} {k:IntKind}
theorem LI_len:lenD (LI zs)=some (.n zs.length):=by simp [lenD,LI]
theorem LI_ix (h:0≤i∧i<zs.length):ixD (LI zs) (.i k i)=some (.n (atI zs i)):=ix_map D.n 0 (fun _=>rfl) h.1 h.2
theorem flat_i:flatD (.i k x)=some (.i k x):=rfl
theorem LI_set (h:0≤i∧i<zs.length):setP [i.toNat] (LI zs) (.n x)=some (LI (seI zs i x)):=set_map D.n (by omega)
theorem LI_sub (h:0≤i∧i≤j∧j≤zs.length):subD (LI zs) (some (.n i)) (some (.n j))=some (LI (sub zs i j)):=
 sub_map D.n (bound_some h.1) (bound_some (by omega)) (by omega) (by omega)
theorem LI_to (h:0≤j∧j≤zs.length):subD (LI zs) none (some (.n j))=some (LI (sub zs 0 j)):=sub_map D.n bound_none (bound_some (by omega)) (by omega) (by omega)
theorem LI_from (h:0≤i∧i≤zs.length):subD (LI zs) (some (.n i)) none=some (LI (sub zs i zs.length)):=by
 rw [LI,sub_map D.n (bound_some h.1) bound_none (by omega) (by omega)]; rfl
theorem LI_app {fl:Bool} (h:zs.length+ys.length≤1099511627776):appD fl (LI zs) (LI ys)=some (LI (zs++ys)):=app_map D.n (fun _=>⟨rfl,fun _=>rfl⟩) h
theorem LI_mk {n m:Int} (h:0≤n∧n≤m∧m≤1099511627776):mkD (.n x) (.n n) (.n m)=some (LI (rep n x)):=by
 simp only [mkD,LI,rep]; rw [if_pos (show 0≤n∧n≤m∧m≤(big:Int) from h)]; simp
theorem LI_nil:D.l []=LI []:=rfl
theorem li_nil:liD []=some (.l []):=rfl
theorem li_1 {a:Int}:liD [.n a]=some (LI [a]):=rfl
theorem li_2 {a b:Int}:liD [.n a,.n b]=some (LI [a,b]):=rfl
theorem li_3 {a b c:Int}:liD [.n a,.n b,.n c]=some (LI [a,b,c]):=rfl
theorem one_i:(D.i k x).one=true:=rfl
theorem LI_one:(LI zs).one=true:=rfl
end
section
variable {s u:List Nat} {ss ts:List (List Nat)} {i j:Int} {k:IntKind}
theorem S_len:snD (.s s)=some (.n s.length):=rfl
theorem S_ix (h:0≤i∧i<s.length):sxD (.s s) (.i k i)=some (.y (atB s i)):=by
 have h2:i.toNat<s.length:=by omega
 simp [sxD,h.1,h2,atB]
theorem S_sub (h:0≤i∧i≤j∧j≤s.length):ssD (.s s) (some (.n i)) (some (.n j))=some (.s (sub s i j)):=by
 simp only [ssD,bound_some h.1,bound_some (show 0≤j by omega)]; rw [if_pos (by omega)]; rfl
theorem S_to (h:0≤j∧j≤s.length):ssD (.s s) none (some (.n j))=some (.s (sub s 0 j)):=by
 simp only [ssD,bound_none,bound_some h.1]; rw [if_pos (by omega)]; rfl
theorem S_from (h:0≤i∧i≤s.length):ssD (.s s) (some (.n i)) none=some (.s (sub s i s.length)):=by
 simp only [ssD,bound_none,bound_some h.1]; rw [if_pos (by omega)]; rfl
theorem LS_len:lenD (LS ss)=some (.n ss.length):=by simp [lenD,LS]
theorem LS_ix (h:0≤i∧i<ss.length):ixD (LS ss) (.i k i)=some (.s (atS ss i)):=ix_map D.s [] (fun _=>rfl) h.1 h.2
theorem flat_s:flatD (.s s)=some (.s s):=rfl
theorem LS_set (h:0≤i∧i<ss.length):setP [i.toNat] (LS ss) (.s s)=some (LS (seS ss i s)):=set_map D.s (by omega)
theorem LS_sub (h:0≤i∧i≤j∧j≤ss.length):subD (LS ss) (some (.n i)) (some (.n j))=some (LS (sub ss i j)):=
 sub_map D.s (bound_some h.1) (bound_some (by omega)) (by omega) (by omega)
theorem LS_app {fl:Bool} (h:ss.length+ts.length≤1099511627776):appD fl (LS ss) (LS ts)=some (LS (ss++ts)):=app_map D.s (fun _=>⟨rfl,fun _=>rfl⟩) h
theorem LS_mk {n m:Int} (h:0≤n∧n≤m∧m≤1099511627776):mkD (.s s) (.n n) (.n m)=some (LS (rep n s)):=by
 simp only [mkD,LS,rep]; rw [if_pos (show 0≤n∧n≤m∧m≤(big:Int) from h)]; simp
theorem LS_nil:D.l []=LS []:=rfl
theorem ls_1 {a:List Nat}:liD [.s a]=some (LS [a]):=rfl
theorem one_s:(D.s s).one=true:=rfl
end
section
variable {bs cs:List Nat} {i j:Int} {k:IntKind} {c:Nat}
theorem LB_len:lenD (LB bs)=some (.n bs.length):=by simp [lenD,LB]
theorem LB_ix (h:0≤i∧i<bs.length):ixD (LB bs) (.i k i)=some (.y (atB bs i)):=ix_map D.y 0 (fun _=>rfl) h.1 h.2
theorem LB_app {fl:Bool} (h:bs.length+cs.length≤1099511627776):appD fl (LB bs) (LB cs)=some (LB (bs++cs)):=app_map D.y (fun _=>⟨rfl,fun _=>rfl⟩) h
theorem lb_1:liD [.y c]=some (LB [c]):=rfl
theorem lb_1i {x:Int} (h:0≤x):liD [.i .u8 x]=some (LB [x.toNat]):=by
 have:x=(x.toNat:Int):=by omega
 rw [this]; rfl
theorem LB_bs1 {x:Nat} (h:x<256):bsD (LB [x])=some (.s [x]):=by
 have h2:((x:Int))<256:=by omega
 simp [bsD,LB,bytesOf,h2]
theorem LB_nil:D.l []=LB []:=rfl
theorem LB_sy (h:bs.length≤1099511627776):syD (.s bs)=some (LB bs):=by simp only [syD]; rw [if_pos (show bs.length≤big from h)]; rfl
theorem bytesOf_y:∀ {bs:List Nat},(∀ c∈bs,c<256)→bytesOf (bs.map D.y)=some bs
 | [],_=>rfl
 | c::bs,h=>by
  have h1:=h c (by simp)
  simp only [List.map_cons,bytesOf]
  rw [if_pos (by omega),bytesOf_y fun c hc=>h c (by simp [hc])]
  simp
theorem LB_bs (h:∀ c∈bs,c<256):bsD (LB bs)=some (.s bs):=by simp [bsD,LB,bytesOf_y h]
end
section
variable {bs cs:List Bool} {i j:Int} {k:IntKind} {c:Bool}
theorem LT_len:lenD (LT bs)=some (.n bs.length):=by simp [lenD,LT]
theorem LT_ix (h:0≤i∧i<bs.length):ixD (LT bs) (.i k i)=some (.b (atT bs i)):=ix_map D.b false (fun _=>rfl) h.1 h.2
theorem flat_b:flatD (.b c)=some (.b c):=rfl
theorem LT_set (h:0≤i∧i<bs.length):setP [i.toNat] (LT bs) (.b c)=some (LT (seT bs i c)):=set_map D.b (by omega)
theorem LT_mk {n m:Int} (h:0≤n∧n≤m∧m≤1099511627776):mkD (.b c) (.n n) (.n m)=some (LT (rep n c)):=by
 simp only [mkD,LT,rep]; rw [if_pos (show 0≤n∧n≤m∧m≤(big:Int) from h)]; simp
theorem one_b:(D.b c).one=true:=rfl
end
section
variable {rs qs:List (List Int)} {r:List Int} {i j x:Int} {k:IntKind}
theorem LL_len:lenD (LL rs)=some (.n rs.length):=by simp [lenD,LL]
theorem LL_ix (h:0≤i∧i<rs.length):ixD (LL rs) (.i k i)=some (LI (atL rs i)):=ix_map LI [] (fun _=>rfl) h.1 h.2
theorem LL_get (h:0≤i∧i<rs.length):getP [i.toNat] (LL rs)=some (LI (atL rs i)):=get_map LI [] (by omega)
theorem LL_set (h:0≤i∧i<rs.length):setP [i.toNat] (LL rs) (LI r)=some (LL (seL rs i r)):=set_map LI (by omega)
theorem LL_set2 (h:0≤i∧i<rs.length∧0≤j∧j<(atL rs i).length):setP [i.toNat,j.toNat] (LL rs) (.n x)=some (LL (seL rs i (seI (atL rs i) j x))):=by
 obtain ⟨h0,h1,h2,h3⟩:=h
 have h4:i.toNat<rs.length:=by omega
 have h5:j.toNat<(atL rs i).length:=by omega
 have e:rs[i.toNat]=atL rs i:=by simp [atL,qgd,h4]
 have:=set_map D.n (x:=x) h5
 have e1:setP [i.toNat,j.toNat] (LL rs) (.n x)=(setP [j.toNat] (LI (atL rs i)) (.n x)).map fun x'=>.l ((rs.map LI).set i.toNat x'):=by
  refine (show _=((rs.map LI)[i.toNat]?.bind fun y=>setP [j.toNat] y (.n x)).map _ from rfl).trans ?_
  rw [List.getElem?_map,qge h4,Option.map_some,Option.bind_some,e]
 rw [e1,LI,this]
 simp [LL,seL,List.map_set,seI,LI]
theorem LL_app {fl:Bool} (h:rs.length+qs.length≤1099511627776∧fl=false):appD fl (LL rs) (LL qs)=some (LL (rs++qs)):=app_map LI (fun _=>⟨rfl,fun e=>by rw [h.2] at e; cases e⟩) h.1
theorem LL_sub (h:0≤i∧i≤j∧j≤rs.length):subD (LL rs) (some (.n i)) (some (.n j))=some (LL (sub rs i j)):=
 sub_map LI (bound_some h.1) (bound_some (by omega)) (by omega) (by omega)
theorem LL_from (h:0≤i∧i≤rs.length):subD (LL rs) (some (.n i)) none=some (LL (sub rs i rs.length)):=by
 rw [LL,sub_map LI (bound_some h.1) bound_none (by omega) (by omega)]; rfl
theorem LL_nil:D.l []=LL []:=rfl
theorem ll_1:liD [LI r]=some (LL [r]):=rfl
end
theorem up_i {is:List Nat} {d:D} {k:IntKind} {n:Int}:upD (some is) d (.i k n)=setP is d (.i k n):=rfl
theorem up_s {is:List Nat} {d:D} {u:List Nat}:upD (some is) d (.s u)=setP is d (.s u):=rfl
theorem up_b {is:List Nat} {d:D} {u:Bool}:upD (some is) d (.b u)=setP is d (.b u):=rfl
theorem up_dl {is:List Nat} {d:D} {u:List D}:upD (some is) d (.l u)=setP is d (.l u):=rfl
theorem up_ls {is:List Nat} {d:D} {u:List (List Nat)}:upD (some is) d (LS u)=setP is d (LS u):=rfl
theorem up_lr {is:List Nat} {d:D} {u:List (List Int)}:upD (some is) d (LL u)=setP is d (LL u):=rfl
theorem dep_i {k:Nat} {x:List Int}:depB (k+1) (LI x)=true:=by
 simp only [depB,LI,Bool.or_eq_true,qat]
 right
 intro d hd
 obtain ⟨y,_,rfl⟩:=List.mem_map.1 hd
 cases k <;> simp [depB,D.flat]
theorem dep_s {k:Nat} {x:List (List Nat)}:depB (k+1) (LS x)=true:=by
 simp only [depB,LS,Bool.or_eq_true,qat]
 right
 intro d hd
 obtain ⟨y,_,rfl⟩:=List.mem_map.1 hd
 cases k <;> simp [depB,D.flat]
theorem dep_r {k:Nat} {x:List (List Int)}:depB (k+2) (LL x)=true:=by
 show ((D.l (x.map LI)).flat || (x.map LI).all (depB (k+1)))=true
 simp only [Bool.or_eq_true,qat]
 right
 intro d hd
 obtain ⟨y,_,rfl⟩:=List.mem_map.1 hd
 exact dep_i
theorem dep_i1 {x:List Int}:depB 1 (LI x)=true:=dep_i
theorem dep_s1 {x:List (List Nat)}:depB 1 (LS x)=true:=dep_s
theorem dep_r2 {x:List (List Int)}:depB 2 (LL x)=true:=dep_r
theorem jn_i {is:Option (List Nat)} {d:D} {x:List Int}:jnD is d (LI x) 1=is.bind fun is=>setP is d (LI x):=by unfold jnD; rw [dep_i1]; rfl
theorem jn_s {is:Option (List Nat)} {d:D} {x:List (List Nat)}:jnD is d (LS x) 1=is.bind fun is=>setP is d (LS x):=by unfold jnD; rw [dep_s1]; rfl
theorem jn_r {is:Option (List Nat)} {d:D} {x:List (List Int)}:jnD is d (LL x) 2=is.bind fun is=>setP is d (LL x):=by unfold jnD; rw [dep_r2]; rfl
def holL (rs:List (List Int)) (i:Int):D:=.l ((rs.map LI).set i.toNat .u)
theorem sp_ll {rs:List (List Int)} {i:Int} (h:0≤i∧i<rs.length):spD 1 (LL rs) (some [i.toNat])=some (LI (atL rs i),holL rs i):=by
 have h2:i.toNat<rs.length:=by omega
 simp [spD,LL,getP,setP,h2,dep_i1,atL,holL]
theorem jn_ll {rs:List (List Int)} {i:Int} {x:List Int} (h:0≤i∧i<rs.length):setP [i.toNat] (holL rs i) (LI x)=some (LL (seL rs i x)):=by
 have h2:i.toNat<rs.length:=by omega
 simp [holL,setP,h2,LL,seL]
theorem up_l {is:List Nat} {d:D} {u:List Int}:upD (some is) d (LI u)=setP is d (LI u):=rfl
theorem tmod_p {a b:Int} (h:0≤a):a.tmod b=a % b:=Int.tmod_eq_emod_of_nonneg h
theorem tdiv_p {a b:Int} (h:0≤a):a.tdiv b=a / b:=Int.tdiv_eq_ediv_of_nonneg h
theorem vl:(∀ {α:Type} {a:α} {l:List α},(a::l).length=l.length+1)∧(∀ {α:Type},([]:List α).length=0)∧(∀ {α:Type} {a b:List α},(a++b).length=a.length+b.length)∧
  (∀ {zs:List Int} {i x:Int},(seI zs i x).length=zs.length)∧(∀ {zs:List (List Nat)} {i:Int} {x:List Nat},(seS zs i x).length=zs.length)∧(∀ {zs:List Bool} {i:Int} {x:Bool},(seT zs i x).length=zs.length)∧
  (∀ {zs:List (List Int)} {i:Int} {x:List Int},(seL zs i x).length=zs.length)∧(∀ {α:Type} {xs:List α} {i j:Int},(sub xs i j).length=min j.toNat xs.length-i.toNat)∧(∀ {α:Type} {n:Int} {y:α},(rep n y).length=n.toNat)∧
  (∀ {α β:Type} {f:α→β} {l:List α},(l.map f).length=l.length)∧(∀ {α:Type} {l:List α} {n:Nat},(l.take n).length=min n l.length)∧(∀ {α:Type} {l:List α} {n:Nat},(l.drop n).length=l.length-n)∧(∀ {α:Type} {l:List α},l.reverse.length=l.length):=
 ⟨qlc,qln,qla,by simp [seI],by simp [seS],by simp [seT],by simp [seL],by simp [sub],by simp [rep],List.length_map _,List.length_take,List.length_drop,List.length_reverse⟩
theorem beq_b {p:Bool}:(p == p)=true:=by simp
theorem beq_s {x:List Nat}:(x == x)=true:=by simp
theorem atI_set {zs:List Int} {i j:Nat} {x:Int} (hi:i<zs.length):atI (seI zs i x) j=if i=j then x else atI zs j:=by
 simp only [atI,seI,qtn,qgd,List.getElem?_set]
 split
 ·rename_i h; subst h; simp
 ·rfl
theorem extI {a b:List Int} (hl:a.length=b.length) (h:∀ j:Nat,j<a.length→atI a j=atI b j):a=b:=by
 apply List.ext_getElem hl
 intro j h1 h2
 have:=h j h1
 simpa [atI,h1,h2] using this
theorem rep_len {α:Type} {n:Int} {y:α}:(rep n y).length=n.toNat:=by simp [rep]
section
variable {zs:List Int} {i j x:Int}
theorem seI_len:(seI zs i x).length=zs.length:=by simp [seI]
theorem seS_len {ss:List (List Nat)} {s:List Nat}:(seS ss i s).length=ss.length:=by simp [seS]
theorem seT_len {ss:List Bool} {s:Bool}:(seT ss i s).length=ss.length:=by simp [seT]
theorem seL_len {ss:List (List Int)} {s:List Int}:(seL ss i s).length=ss.length:=by simp [seL]
theorem sub_len {α:Type} {xs:List α}:(sub xs i j).length=min j.toNat xs.length-i.toNat:=by simp [sub]
end
theorem call_by {K:Nat→List D→List D→Prop} {g:Nat} {ds:List D} {r:Nat} {e:Env} {Q:Env→Prop} {rs:List D} (h:K g ds rs) (hl:rs.length=r) (hq:Q (e++rs)):calQ K g ds r e Q:=⟨rs,h,hl,hq⟩
theorem dropB {w:List Nat} {i:Nat} (h:i<w.length):w.drop i=atB w i::w.drop (i+1):=by
 rw [List.drop_eq_getElem_cons h]
 simp [atB,h]
theorem dropI {w:List Int} {i:Nat} (h:i<w.length):w.drop i=atI w i::w.drop (i+1):=by
 rw [List.drop_eq_getElem_cons h]
 simp [atI,h]
theorem D2 {a b c d:D} (h:a=c) (h2:b=d):[a,b]=[c,d]:=by rw [h,h2]
theorem Db {p q:Bool} (h:p=q):[D.b p]=[D.b q]:=by rw [h]
theorem Dn {k:IntKind} {p q:Int} (h:p=q):[D.i k p]=[D.i k q]:=by rw [h]
theorem all_s {i:Nat} {p:Nat→Prop} (h:∀ j,j<i→p j) (h2:p i):∀ j,j<i+1→p j:=by
 intro j hj
 rcases qlg j i with q | q
 ·exact h j q
 ·obtain rfl:j=i:=by omega
  exact h2
def lpQ (R:Env→Prop) (Q:X→Env→Prop):X→Env→Prop
 | .n,e=>R e
 | .ex j,e=>Q (.ex j) e
 | .r,e=>Q .r e
theorem lpQ_n {R:Env→Prop} {Q:X→Env→Prop} {e:Env}:lpQ R Q .n e=R e:=rfl
theorem lpQ_ex {R:Env→Prop} {Q:X→Env→Prop} {e:Env} {j:Nat}:lpQ R Q (.ex j) e=Q (.ex j) e:=rfl
theorem lpQ_r {R:Env→Prop} {Q:X→Env→Prop} {e:Env}:lpQ R Q .r e=Q .r e:=rfl
theorem loop_wh {K:Nat→List D→List D→Prop} {b:S} {Q:X→Env→Prop} {e:Env} {σ:Type} (I:σ→Prop) (mk:σ→Env) (m:σ→Nat) (s0:σ) (h0:I s0) (he:e=mk s0)
  (step:∀ s,I s→wpS K b (lpQ (fun e'=>∃ s',m s' < m s∧I s'∧e'=mk s') Q) (mk s)):wpS K (.loop b) Q e:=by
 refine loop_by (fun n e=>∃ s,n=m s∧I s∧e=mk s) (m s0) ⟨s0,rfl,h0,he⟩ ?_
 rintro _ _ ⟨s,rfl,hI,rfl⟩
 refine wpS_mono b (fun x e h=>?_) (step s hI)
 cases x with
 | n=>obtain ⟨s',h1,h2,h3⟩:=h; exact ⟨m s',h1,s',rfl,h2,h3⟩
 | ex j=>exact h
 | r=>exact h
theorem loop_up {K:Nat→List D→List D→Prop} {b:S} {Q:X→Env→Prop} {e:Env} {σ:Type} (P:Nat→σ→Prop) (mk:Nat→σ→Env) (n:Nat) (s0:σ) (h0:P 0 s0) (he:e=mk 0 s0)
  (step:∀ i s,i<n→P i s→wpS K b (lpQ (fun e'=>∃ s',P (i+1) s'∧e'=mk (i+1) s') Q) (mk i s))
  (last:∀ s,P n s→wpS K b (lpQ (fun _=>False) Q) (mk n s)):wpS K (.loop b) Q e:=by
 refine loop_wh (fun (x:Nat×σ)=>x.1≤n∧P x.1 x.2) (fun x=>mk x.1 x.2) (fun x=>n-x.1) (0,s0) ⟨Nat.zero_le _,h0⟩ he ?_
 rintro ⟨i,s⟩ ⟨hi,hP⟩
 rcases qlg i n with hlt | hge
 ·refine wpS_mono b (fun x e h=>?_) (step i s hlt hP)
  cases x with
  | n=>obtain ⟨s',h1,h2⟩:=h; exact ⟨(i+1,s'),by show n-(i+1)<n-i; omega,⟨hlt,h1⟩,h2⟩
  | ex j=>exact h
  | r=>exact h
 ·obtain rfl:i=n:=Nat.le_antisymm hi hge
  refine wpS_mono b (fun x e h=>?_) (last s hP)
  cases x with
  | n=>exact h.elim
  | ex j=>exact h
  | r=>exact h
theorem loop_ix {K:Nat→List D→List D→Prop} {b:S} {Q:X→Env→Prop} {e:Env} (P:Nat→Prop) (mk:Nat→Env) (n:Nat) (h0:P 0) (he:e=mk 0)
  (step:∀ i,i<n→P i→wpS K b (lpQ (fun e'=>P (i+1)∧e'=mk (i+1)) Q) (mk i))
  (last:P n→wpS K b (lpQ (fun _=>False) Q) (mk n)):wpS K (.loop b) Q e:=by
 refine loop_up (fun i (_:Unit)=>P i) (fun i _=>mk i) n () h0 he (fun i _ hi hP=>?_) (fun _ h=>last h)
 refine wpS_mono b (fun x e h=>?_) (step i hi hP)
 cases x with
 | n=>exact ⟨(),h.1,h.2⟩
 | ex j=>exact h
 | r=>exact h
theorem body_by {K:Nat→List D→List D→Prop} {k:Nat} {f:IF} [h:Has K k f] {ds rs:List D} (hl:ds.length=f.np) (hb:wpS K f.body (endQ f.res rs) (ds++List.replicate (f.nv-f.np) .u)) (hc:cellsOK f.cl rs=true:=by rfl):K k ds rs:=by
 refine h.h ds rs ⟨⟨hl,hc⟩,?_⟩
 refine wpS_mono _ (fun x e h=>?_) hb
 cases x with
 | ex _=>exact h.elim
 | n=>exact ⟨trivial,h⟩
 | r=>exact ⟨trivial,h⟩
section
variable {K:Nat→List D→List D→Prop}
theorem wpPr_ex {p:Pr} {e:Env} {Q:Env→Prop} (h:wpPr K p e Q):∃ e',Q e'∧wpPr K p e (·=e'):=by
 unfold wpPr at*
 split at h
 ·exact ⟨_,h,rfl⟩
 ·obtain ⟨rs,h1,h2,h3⟩:=h
  exact ⟨_,h3,rs,h1,h2,rfl⟩
 ·obtain ⟨h0,rs,h1,h2,h3⟩:=h
  exact ⟨_,h3,h0,rs,h1,h2,rfl⟩
 ·split at h
  ·exact ⟨_,h,rfl⟩
  ·exact h.elim
 ·split at h
  ·exact ⟨_,h,rfl⟩
  ·exact h.elim
 ·split at h
  ·exact ⟨_,h,rfl⟩
  ·exact h.elim
 ·split at h
  ·exact ⟨_,h,rfl⟩
  ·exact h.elim
theorem wpIts_ex:∀ {its:List It} {e:Env} {Q:Env→Prop} (_:wpIts K its e Q),∃ e',Q e'∧wpIts K its e (·=e')
 | [],e,Q,h=>⟨e,h,rfl⟩
 | it::its,e,Q,h=>by
  simp only [wpIts,wpIt] at*
  split at h
  ·rename_i hg
   obtain ⟨e1,h1,h2⟩:=wpPr_ex h
   obtain ⟨e2,h3,h4⟩:=wpIts_ex h1
   refine ⟨e2,h3,?_⟩
   exact wpPr_mono (fun e h=>by subst h; exact h4) h2
  ·obtain ⟨e2,h3,h4⟩:=wpIts_ex h
   exact ⟨e2,h3,h4⟩
  ·exact h.elim
theorem wpLoop_ex {R:(X→Env→Prop)→Env→Prop} (hm:∀ Q Q' e,(∀ x e,Q x e→Q' x e)→R Q e→R Q' e) (hR:∀ Q e,R Q e→∃ x' e',Q x' e'∧R (fun x e=>x=x'∧e=e') e):
  ∀ (n:Nat) {e:Env} {Q:X→Env→Prop} (_:wpLoop R n Q e),∃ x' e',Q x' e'∧wpLoop R n (fun x e=>x=x'∧e=e') e
 | 0,_,_,h=>h.elim
 | n+1,e,Q,h=>by
  simp only [wpLoop] at h
  obtain ⟨x1,e1,h1,h2⟩:=hR _ _ h
  cases x1 with
  | n=>
   obtain ⟨x2,e2,h3,h4⟩:=wpLoop_ex hm hR n h1
   refine ⟨x2,e2,h3,?_⟩
   simp only [wpLoop]
   exact hm _ _ _ (fun x e h=>by obtain ⟨rfl,rfl⟩:=h; exact h4) h2
  | ex j=>
   refine ⟨.ex j,e1,h1,?_⟩
   simp only [wpLoop]
   exact hm _ _ _ (fun x e h=>by obtain ⟨rfl,rfl⟩:=h; exact ⟨rfl,rfl⟩) h2
  | r=>
   refine ⟨.r,e1,h1,?_⟩
   simp only [wpLoop]
   exact hm _ _ _ (fun x e h=>by obtain ⟨rfl,rfl⟩:=h; exact ⟨rfl,rfl⟩) h2
theorem wpS_ex:∀ (s:S) {e:Env} {Q:X→Env→Prop} (_:wpS K s Q e),∃ x' e',Q x' e'∧wpS K s (fun x e=>x=x'∧e=e') e
 | .skip,e,Q,h=>⟨_,_,h,rfl,rfl⟩
 | .reg its out,e,Q,h=>by
  simp only [wpS] at h
  obtain ⟨e1,h1,h2⟩:=wpIts_ex h
  exact ⟨_,_,h1,wpIts_mono (fun e h=>by subst h; exact ⟨rfl,rfl⟩) h2⟩
 | .seq a b,e,Q,h=>by
  simp only [wpS] at h
  obtain ⟨x1,e1,h1,h2⟩:=wpS_ex a h
  cases x1 with
  | n=>
   obtain ⟨x2,e2,h3,h4⟩:=wpS_ex b h1
   refine ⟨x2,e2,h3,?_⟩
   simp only [wpS]
   exact wpS_mono a (fun x e h=>by obtain ⟨rfl,rfl⟩:=h; exact h4) h2
  | ex j=>
   refine ⟨.ex j,e1,h1,?_⟩
   simp only [wpS]
   exact wpS_mono a (fun x e h=>by obtain ⟨rfl,rfl⟩:=h; exact ⟨rfl,rfl⟩) h2
  | r=>
   refine ⟨.r,e1,h1,?_⟩
   simp only [wpS]
   exact wpS_mono a (fun x e h=>by obtain ⟨rfl,rfl⟩:=h; exact ⟨rfl,rfl⟩) h2
 | .cond n x y,e,Q,h=>by
  simp only [wpS] at*
  split at h
  ·exact wpS_ex x h
  ·exact wpS_ex y h
  ·exact h.elim
 | .block id b,e,Q,h=>by
  simp only [wpS] at h
  obtain ⟨x1,e1,h1,h2⟩:=wpS_ex b h
  cases x1 with
  | n=>
   refine ⟨.n,e1,h1,?_⟩
   simp only [wpS]
   exact wpS_mono b (fun x e h=>by obtain ⟨rfl,rfl⟩:=h; exact ⟨rfl,rfl⟩) h2
  | ex j=>
   simp only at h1
   split at h1
   ·rename_i hj
    refine ⟨.n,e1,h1,?_⟩
    simp only [wpS]
    exact wpS_mono b (fun x e h=>by obtain ⟨rfl,rfl⟩:=h; simp [hj]) h2
   ·rename_i hj
    refine ⟨.ex j,e1,h1,?_⟩
    simp only [wpS]
    exact wpS_mono b (fun x e h=>by obtain ⟨rfl,rfl⟩:=h; simp [hj]) h2
  | r=>
   refine ⟨.r,e1,h1,?_⟩
   simp only [wpS]
   exact wpS_mono b (fun x e h=>by obtain ⟨rfl,rfl⟩:=h; exact ⟨rfl,rfl⟩) h2
 | .loop b,e,Q,h=>by
  simp only [wpS] at h
  obtain ⟨n,h⟩:=h
  obtain ⟨x1,e1,h1,h2⟩:=wpLoop_ex (R:=wpS K b) (fun Q Q' e hQ h=>wpS_mono b hQ h) (fun Q e h=>wpS_ex b h) n h
  exact ⟨x1,e1,h1,n,h2⟩
 | .exit id,e,Q,h=>⟨_,_,h,rfl,rfl⟩
 | .ret,e,Q,h=>⟨_,_,h,rfl,rfl⟩
theorem body_ex {k:Nat} {f:IF} [h:Has K k f] {ds:List D} {P:List D→Prop} (hl:ds.length=f.np) (hb:wpS K f.body (exQ f.res P) (ds++List.replicate (f.nv-f.np) .u)) (hc:∀ rs,P rs→cellsOK f.cl rs=true:=by intros; rfl):∃ rs,P rs∧K k ds rs:=by
 obtain ⟨x,e,h1,h2⟩:=wpS_ex _ hb
 have h3:(∀ j,x≠.ex j)∧P (f.res.map e.E):=by
  cases x with
  | ex j=>exact h1.elim
  | n=>exact ⟨by simp,h1⟩
  | r=>exact ⟨by simp,h1⟩
 refine ⟨_,h3.2,h.h ds _ ⟨⟨hl,hc _ h3.2⟩,wpS_mono _ (fun x' e' h=>?_) h2⟩⟩
 obtain ⟨rfl,rfl⟩:=h
 cases x' with
 | ex j=>exact (h3.1 j rfl).elim
 | n=>exact ⟨trivial,rfl⟩
 | r=>exact ⟨trivial,rfl⟩
end
end Go.Cat
namespace Go.Cat
set_option maxRecDepth 10000
theorem vcL:
  (∀ {α:Type} {a:α} {as bs:List α},(a::as)++bs=a::(as++bs))∧
  (∀ {α:Type} {as:List α},[]++as=as)∧
  (∀ {α:Type} {as:List α},as++[]=as)∧
  (∀ {α β:Type} {f:α→β} {a:α} {l:List α},List.map f (a::l)=f a::List.map f l)∧
  (∀ {α β:Type} {f:α→β},List.map f []=[])∧
  (∀ {α:Type} {a b:α} {l:List α},(a::l).set 0 b=b::l)∧
  (∀ {α:Type} {a b:α} {l:List α} {n:Nat},(a::l).set (n+1) b=a::l.set n b)∧
  (∀ {α:Type} {a:α} {n:Nat},List.replicate (n+1) a=a::List.replicate n a)∧
  (∀ {α:Type} {a:α},List.replicate 0 a=[])∧
  (∀ {α β:Type} {f:α→Option β} {a:α},(some a).bind f=f a)∧
  (∀ {α β:Type} {f:α→β} {a:α},(some a).map f=some (f a))∧
  (∀ {α β:Type} {f:α→β},(none:Option α).map f=none)∧
  ((!true)=false)∧((!false)=true)∧(∀ {b:Bool},(!!b)=b)∧
  (∀ {α:Sort 1} {a b:α},(if True then a else b)=a)∧(∀ {α:Sort 1} {a b:α},(if False then a else b)=b)∧
  (∀ {b:Bool},(b&&true)=b)∧(∀ {b:Bool},(true&&b)=b)∧(∀ {b:Bool},(b&&false)=false)∧(∀ {b:Bool},(false&&b)=false)∧
  (∀ {b:Bool},(b || true)=true)∧(∀ {b:Bool},(true || b)=true)∧(∀ {b:Bool},(b || false)=b)∧(∀ {b:Bool},(false || b)=b)∧
  (∀ [Decidable True],decide True=true)∧(∀ [Decidable False],decide False=false)∧
  (∀ {i:Nat},((i+1:Nat):Int)=(i:Int)+1)∧(((0:Nat):Int)=0)∧
  (∀ {p:Prop},(p∧True)=p)∧(∀ {p:Prop},(True∧p)=p)∧
  (Pr.nop.np=0)∧(∀ {g:Nat} {xs:List A} {r:Nat},(Pr.ca g xs r).np=r):=
 ⟨List.cons_append,List.nil_append _,List.append_nil _,List.map_cons,List.map_nil,List.set_cons_zero,List.set_cons_succ,List.replicate_succ,List.replicate_zero,Option.bind_some _ _,Option.map_some _ _,Option.map_none _,
  rfl,rfl,Bool.not_not _,if_pos trivial,if_neg id,Bool.and_true _,Bool.true_and _,Bool.and_false _,Bool.false_and _,Bool.or_true _,Bool.true_or _,Bool.or_false _,Bool.false_or _,decide_eq_true trivial,decide_eq_false id,Int.natCast_succ _,rfl,and_true _,true_and _,rfl,rfl⟩
theorem vcN:
 (∀ {s:Sh} {d:D},(Pr.cs s d).np=1)∧
 (∀ {a:A},(Pr.cy a).np=1)∧
 (∀ {op:BinOp} {a b:A},(Pr.bi op a b).np=1)∧
 (∀ {op:BinOp} {a b:A},(Pr.bb op a b).np=1)∧
 (∀ {op:UnOp} {a:A},(Pr.un op a).np=1)∧
 (∀ {a b c:A},(Pr.pk a b c).np=1)∧
 (∀ {k:IntKind} {a:A},(Pr.cv k a).np=1)∧
 (∀ {a:A} {p:List PE},(Pr.ln a p).np=1)∧
 (∀ {a:A},(Pr.sn a).np=1)∧
 (∀ {a b:A},(Pr.sx a b).np=1)∧
 (∀ {a:A} {lo hi:Option A},(Pr.ss a lo hi).np=1)∧
 (∀ {a:A} {p:List PE} {b:A},(Pr.ix a p b).np=1)∧
 (∀ {n:Nat} {p:List PE} {a:A},(Pr.up n p a).np=1)∧
 (∀ {fz:Bool} {a:A} {lo hi:Option A},(Pr.sb fz a lo hi).np=1)∧
 (∀ {fl:Bool} {a b:A},(Pr.ap fl a b).np=1)∧
 (∀ {d:D} {a b:A},(Pr.mk d a b).np=1)∧
 (∀ {s:Sh} {xs:List A},(Pr.li s xs).np=1)∧
 (∀ {a:A},(Pr.bs a).np=1)∧
 (∀ {a:A},(Pr.sy a).np=1)∧
 (∀ {a b:A},(Pr.mx a b).np=1)∧
 (∀ {a b:A},(Pr.mn a b).np=1)∧
 (∀ {a b:A},(Pr.iy a b).np=1)∧
 (∀ {k:Nat} {xs:List (A×Nat)},(Pr.bg k xs).np=1)∧
 (∀ {a:A},(Pr.bp a).np=1)∧
 (∀ {a:A} {k:Nat},(Pr.gp a k).np=1)∧
 (∀ {w:Bool} {a:A},(Pr.nz w a).np=1)∧
 (∀ {a:A},(Pr.nn a).np=1)∧
 (∀ {k:Nat} {a:A},(Pr.wl k a).np=1)∧
 (∀ {n k:Nat} {a:A},(Pr.ws n k a).np=1)∧
 (∀ {a:A} {p:List PE},(Pr.gt a p).np=1)∧
 (∀ {fl:Bool} {a:A} {k:Nat},(Pr.fp fl a k).np=1)∧
 (∀ {n:Nat} {p:List PE} {a:A} {i k:Nat},(Pr.uq n p a i k).np=1)∧
 (∀ {n:Nat},(Pr.cb n).np=1)∧
 (∀ {n:Nat} {p:List PE} {a:A} {k:Nat},(Pr.jn n p a k).np=1)∧
 (∀ {n:Nat},(Pr.tk n).np=2)∧
 (∀ {n k:Nat} {p:List PE},(Pr.sp n p k).np=2)∧
 (∀ {n:Nat},(Pr.sw n).np=2):=
 ⟨rfl,rfl,rfl,rfl,rfl,rfl,rfl,rfl,rfl,rfl,rfl,rfl,rfl,rfl,rfl,rfl,rfl,rfl,rfl,rfl,rfl,rfl,rfl,rfl,rfl,rfl,rfl,rfl,rfl,rfl,rfl,rfl,rfl,rfl,rfl,rfl,rfl⟩
theorem vcO:
 (∀ {a b:Int},(a<b)→decide (a<b)=true)∧
 (∀ {a b:Int},(b≤a)→decide (a<b)=false)∧
 (∀ {a b:Int},(a≤b)→decide (a≤b)=true)∧
 (∀ {a b:Int},(b<a)→decide (a≤b)=false)∧
 (∀ {a b:Int},(a=b)→decide (a=b)=true)∧
 (∀ {a b:Int},(a<b∨b<a)→decide (a=b)=false):=
 ⟨decide_eq_true,fun h=>decide_eq_false (by omega),decide_eq_true,fun h=>decide_eq_false (by omega),decide_eq_true,fun h=>decide_eq_false (by omega)⟩
theorem vc0:type_of% (And.intro @wp_seq <| And.intro @wp_block <| And.intro @wp_skip <| And.intro @wp_exit <| And.intro @wp_ret <| And.intro @wp_reg <| And.intro @wp_cond <| And.intro @seqQ_n <| And.intro @seqQ_ex <| And.intro @seqQ_r <| And.intro @blkQ_n <| And.intro @blkQ_ex <| And.intro @blkQ_r <| And.intro @regQ_mk <| And.intro @itsQ_mk <| And.intro @valQ_some <| And.intro @cndQ_t <| And.intro @cndQ_f <| And.intro @lpQ_n <| @lpQ_ex):=And.intro @wp_seq <| And.intro @wp_block <| And.intro @wp_skip <| And.intro @wp_exit <| And.intro @wp_ret <| And.intro @wp_reg <| And.intro @wp_cond <| And.intro @seqQ_n <| And.intro @seqQ_ex <| And.intro @seqQ_r <| And.intro @blkQ_n <| And.intro @blkQ_ex <| And.intro @blkQ_r <| And.intro @regQ_mk <| And.intro @itsQ_mk <| And.intro @valQ_some <| And.intro @cndQ_t <| And.intro @cndQ_f <| And.intro @lpQ_n <| @lpQ_ex
theorem vc1:type_of% (And.intro @lpQ_r <| And.intro @endQ_n <| And.intro @endQ_r <| And.intro @exQ_n <| And.intro @exQ_r <| And.intro @wp_its_nil <| And.intro @wp_its_cons <| And.intro @wp_it <| And.intro @gdQ_t <| And.intro @gdQ_f <| And.intro @gdE_nil <| And.intro @gdE_cons <| And.intro @gdB_tt <| And.intro @gdB_ff <| And.intro @gdB_tf <| And.intro @gdB_ft <| And.intro @wp_pr_nop <| And.intro @wp_pr_ca <| And.intro @wp_pr_cd <| @fnQ_eq):=And.intro @lpQ_r <| And.intro @endQ_n <| And.intro @endQ_r <| And.intro @exQ_n <| And.intro @exQ_r <| And.intro @wp_its_nil <| And.intro @wp_its_cons <| And.intro @wp_it <| And.intro @gdQ_t <| And.intro @gdQ_f <| And.intro @gdE_nil <| And.intro @gdE_cons <| And.intro @gdB_tt <| And.intro @gdB_ff <| And.intro @gdB_tf <| And.intro @gdB_ft <| And.intro @wp_pr_nop <| And.intro @wp_pr_ca <| And.intro @wp_pr_cd <| @fnQ_eq
theorem vc2:type_of% (And.intro @wp_pr_tk <| And.intro @tkQ_g <| And.intro @wp_pr_sp <| And.intro @wp_pr_sw <| And.intro @wp_pr_jn <| And.intro @twoQ_s <| And.intro @wp_pr_cs <| And.intro @wp_pr_cy <| And.intro @wp_pr_bi <| And.intro @wp_pr_bb <| And.intro @wp_pr_un <| And.intro @wp_pr_pk <| And.intro @wp_pr_cv <| And.intro @wp_pr_ln <| And.intro @wp_pr_sn <| And.intro @wp_pr_sx <| And.intro @wp_pr_ss <| And.intro @wp_pr_ix <| And.intro @wp_pr_up <| @wp_pr_sb):=And.intro @wp_pr_tk <| And.intro @tkQ_g <| And.intro @wp_pr_sp <| And.intro @wp_pr_sw <| And.intro @wp_pr_jn <| And.intro @twoQ_s <| And.intro @wp_pr_cs <| And.intro @wp_pr_cy <| And.intro @wp_pr_bi <| And.intro @wp_pr_bb <| And.intro @wp_pr_un <| And.intro @wp_pr_pk <| And.intro @wp_pr_cv <| And.intro @wp_pr_ln <| And.intro @wp_pr_sn <| And.intro @wp_pr_sx <| And.intro @wp_pr_ss <| And.intro @wp_pr_ix <| And.intro @wp_pr_up <| @wp_pr_sb
theorem vc3:type_of% (And.intro @wp_pr_ap <| And.intro @wp_pr_mk <| And.intro @wp_pr_li <| And.intro @wp_pr_bs <| And.intro @wp_pr_sy <| And.intro @wp_pr_mx <| And.intro @wp_pr_mn <| And.intro @wp_pr_iy <| And.intro @wp_pr_bg <| And.intro @wp_pr_bp <| And.intro @wp_pr_gp <| And.intro @wp_pr_nz <| And.intro @wp_pr_nn <| And.intro @wp_pr_wl <| And.intro @wp_pr_ws <| And.intro @wp_pr_gt <| And.intro @wp_pr_fp <| And.intro @wp_pr_uq <| And.intro @wp_pr_cb <| @skE_z):=And.intro @wp_pr_ap <| And.intro @wp_pr_mk <| And.intro @wp_pr_li <| And.intro @wp_pr_bs <| And.intro @wp_pr_sy <| And.intro @wp_pr_mx <| And.intro @wp_pr_mn <| And.intro @wp_pr_iy <| And.intro @wp_pr_bg <| And.intro @wp_pr_bp <| And.intro @wp_pr_gp <| And.intro @wp_pr_nz <| And.intro @wp_pr_nn <| And.intro @wp_pr_wl <| And.intro @wp_pr_ws <| And.intro @wp_pr_gt <| And.intro @wp_pr_fp <| And.intro @wp_pr_uq <| And.intro @wp_pr_cb <| @skE_z
theorem vc4:type_of% (And.intro @skE_s <| And.intro @skE_n <| And.intro @ev_e <| And.intro @ev_c <| And.intro @evP_cs <| And.intro @evP_cy <| And.intro @evP_bin <| And.intro @evP_bbo <| And.intro @evP_uno <| And.intro @evP_pk <| And.intro @pkD_t <| And.intro @pkD_f <| And.intro @pkD_ff <| And.intro @pkD_tt <| And.intro @evP_cv <| And.intro @cvD_i <| And.intro @evP_ln <| And.intro @pathD_nil <| And.intro @pathD_one <| @evP_sn):=And.intro @skE_s <| And.intro @skE_n <| And.intro @ev_e <| And.intro @ev_c <| And.intro @evP_cs <| And.intro @evP_cy <| And.intro @evP_bin <| And.intro @evP_bbo <| And.intro @evP_uno <| And.intro @evP_pk <| And.intro @pkD_t <| And.intro @pkD_f <| And.intro @pkD_ff <| And.intro @pkD_tt <| And.intro @evP_cv <| And.intro @cvD_i <| And.intro @evP_ln <| And.intro @pathD_nil <| And.intro @pathD_one <| @evP_sn
theorem vc5:type_of% (And.intro @evP_sx <| And.intro @evP_ss <| And.intro @evP_ix <| And.intro @evP_ixp <| And.intro @evP_iy <| And.intro @evP_up <| And.intro @pes_one <| And.intro @pes_two <| And.intro @pe_k <| And.intro @pe_e <| And.intro @natD_i <| And.intro @evP_sb <| And.intro @evP_ap <| And.intro @evP_mk <| And.intro @evP_li <| And.intro @evP_bs <| And.intro @evP_sy <| And.intro @evP_mx <| And.intro @evP_mn <| @mxD_n):=And.intro @evP_sx <| And.intro @evP_ss <| And.intro @evP_ix <| And.intro @evP_ixp <| And.intro @evP_iy <| And.intro @evP_up <| And.intro @pes_one <| And.intro @pes_two <| And.intro @pe_k <| And.intro @pe_e <| And.intro @natD_i <| And.intro @evP_sb <| And.intro @evP_ap <| And.intro @evP_mk <| And.intro @evP_li <| And.intro @evP_bs <| And.intro @evP_sy <| And.intro @evP_mx <| And.intro @evP_mn <| @mxD_n
theorem vc6:type_of% (And.intro @mnD_n <| And.intro @E_nil <| And.intro @E_zero <| And.intro @E_succ <| And.intro @outE_nil <| And.intro @outE_some <| And.intro @outE_none <| And.intro @bin_add <| And.intro @bin_sub <| And.intro @bin_mul <| And.intro @bin_quo <| And.intro @bin_rem <| And.intro @bin_eql <| And.intro @bin_neq <| And.intro @bin_lss <| And.intro @bin_leq <| And.intro @bin_gtr <| And.intro @bin_geq <| And.intro @un_not <| @un_neg):=And.intro @mnD_n <| And.intro @E_nil <| And.intro @E_zero <| And.intro @E_succ <| And.intro @outE_nil <| And.intro @outE_some <| And.intro @outE_none <| And.intro @bin_add <| And.intro @bin_sub <| And.intro @bin_mul <| And.intro @bin_quo <| And.intro @bin_rem <| And.intro @bin_eql <| And.intro @bin_neq <| And.intro @bin_lss <| And.intro @bin_leq <| And.intro @bin_gtr <| And.intro @bin_geq <| And.intro @un_not <| @un_neg
theorem vc7:type_of% (And.intro @boolD_eql <| And.intro @boolD_neq <| And.intro @str_eql <| And.intro @str_neq <| And.intro @str_add <| And.intro @wrap_i64 <| And.intro @wrap_u8 <| And.intro @evP_bg <| And.intro @bgD_eq <| And.intro @bg2_nil <| And.intro @bg2_cons <| And.intro @putB_0 <| And.intro @putB_i <| And.intro @putB_s <| And.intro @putB_b <| And.intro @evP_bp <| And.intro @bpD_g <| And.intro @lenK_nil <| And.intro @lenK_cons <| @allO_nil):=And.intro @boolD_eql <| And.intro @boolD_neq <| And.intro @str_eql <| And.intro @str_neq <| And.intro @str_add <| And.intro @wrap_i64 <| And.intro @wrap_u8 <| And.intro @evP_bg <| And.intro @bgD_eq <| And.intro @bg2_nil <| And.intro @bg2_cons <| And.intro @putB_0 <| And.intro @putB_i <| And.intro @putB_s <| And.intro @putB_b <| And.intro @evP_bp <| And.intro @bpD_g <| And.intro @lenK_nil <| And.intro @lenK_cons <| @allO_nil
theorem vc8:type_of% (And.intro @allO_cons <| And.intro @okQ_t <| And.intro @evP_gp <| And.intro @gpD_p <| And.intro @evP_nz <| And.intro @nzD_z <| And.intro @nzD_p <| And.intro @evP_nn <| And.intro @nnD_p <| And.intro @evP_wl <| And.intro @wlD_g <| And.intro @evP_ws <| And.intro @wsD_g <| And.intro @evP_gt <| And.intro @getP_g <| And.intro @known_i <| And.intro @known_b <| And.intro @known_s <| And.intro @known_l <| @known_p):=And.intro @allO_cons <| And.intro @okQ_t <| And.intro @evP_gp <| And.intro @gpD_p <| And.intro @evP_nz <| And.intro @nzD_z <| And.intro @nzD_p <| And.intro @evP_nn <| And.intro @nnD_p <| And.intro @evP_wl <| And.intro @wlD_g <| And.intro @evP_ws <| And.intro @wsD_g <| And.intro @evP_gt <| And.intro @getP_g <| And.intro @known_i <| And.intro @known_b <| And.intro @known_s <| And.intro @known_l <| @known_p
theorem vc9:type_of% (And.intro @known_z <| And.intro @evP_fp <| And.intro @fpE_p <| And.intro @fpK_f <| And.intro @fpK_ti <| And.intro @fpK_ts <| And.intro @fpK_tb <| And.intro @setP_g <| And.intro @evP_uq <| And.intro @evP_cb <| And.intro @cbD_g <| And.intro @evP_jn <| And.intro @swD_g <| And.intro @spD_g <| And.intro @one_l <| And.intro @one_p <| And.intro @one_z <| And.intro @ixL_0 <| And.intro @ixL_s <| @LI_len):=And.intro @known_z <| And.intro @evP_fp <| And.intro @fpE_p <| And.intro @fpK_f <| And.intro @fpK_ti <| And.intro @fpK_ts <| And.intro @fpK_tb <| And.intro @setP_g <| And.intro @evP_uq <| And.intro @evP_cb <| And.intro @cbD_g <| And.intro @evP_jn <| And.intro @swD_g <| And.intro @spD_g <| And.intro @one_l <| And.intro @one_p <| And.intro @one_z <| And.intro @ixL_0 <| And.intro @ixL_s <| @LI_len
theorem vc10:type_of% (And.intro @LI_ix <| And.intro @flat_i <| And.intro @LI_set <| And.intro @LI_sub <| And.intro @LI_to <| And.intro @LI_from <| And.intro @LI_app <| And.intro @LI_mk <| And.intro @li_nil <| And.intro @li_1 <| And.intro @li_2 <| And.intro @li_3 <| And.intro @one_i <| And.intro @LI_one <| And.intro @S_len <| And.intro @S_ix <| And.intro @S_sub <| And.intro @S_to <| And.intro @S_from <| @LS_len):=And.intro @LI_ix <| And.intro @flat_i <| And.intro @LI_set <| And.intro @LI_sub <| And.intro @LI_to <| And.intro @LI_from <| And.intro @LI_app <| And.intro @LI_mk <| And.intro @li_nil <| And.intro @li_1 <| And.intro @li_2 <| And.intro @li_3 <| And.intro @one_i <| And.intro @LI_one <| And.intro @S_len <| And.intro @S_ix <| And.intro @S_sub <| And.intro @S_to <| And.intro @S_from <| @LS_len
theorem vc11:type_of% (And.intro @LS_ix <| And.intro @flat_s <| And.intro @LS_set <| And.intro @LS_sub <| And.intro @LS_app <| And.intro @LS_mk <| And.intro @ls_1 <| And.intro @one_s <| And.intro @LB_len <| And.intro @LB_ix <| And.intro @LB_app <| And.intro @lb_1 <| And.intro @LB_sy <| And.intro @LT_len <| And.intro @LT_ix <| And.intro @flat_b <| And.intro @LT_set <| And.intro @LT_mk <| And.intro @one_b <| @LL_len):=And.intro @LS_ix <| And.intro @flat_s <| And.intro @LS_set <| And.intro @LS_sub <| And.intro @LS_app <| And.intro @LS_mk <| And.intro @ls_1 <| And.intro @one_s <| And.intro @LB_len <| And.intro @LB_ix <| And.intro @LB_app <| And.intro @lb_1 <| And.intro @LB_sy <| And.intro @LT_len <| And.intro @LT_ix <| And.intro @flat_b <| And.intro @LT_set <| And.intro @LT_mk <| And.intro @one_b <| @LL_len
theorem vc12:type_of% (And.intro @LL_ix <| And.intro @LL_get <| And.intro @LL_set <| And.intro @LL_set2 <| And.intro @LL_app <| And.intro @LL_sub <| And.intro @LL_from <| And.intro @ll_1 <| And.intro @up_i <| And.intro @up_s <| And.intro @up_b <| And.intro @up_l <| And.intro @up_dl <| And.intro @up_ls <| And.intro @up_lr <| And.intro @dep_i1 <| And.intro @dep_s1 <| And.intro @dep_r2 <| And.intro @jn_i <| @jn_s):=And.intro @LL_ix <| And.intro @LL_get <| And.intro @LL_set <| And.intro @LL_set2 <| And.intro @LL_app <| And.intro @LL_sub <| And.intro @LL_from <| And.intro @ll_1 <| And.intro @up_i <| And.intro @up_s <| And.intro @up_b <| And.intro @up_l <| And.intro @up_dl <| And.intro @up_ls <| And.intro @up_lr <| And.intro @dep_i1 <| And.intro @dep_s1 <| And.intro @dep_r2 <| And.intro @jn_i <| @jn_s
theorem vc13:type_of% (And.intro @jn_r <| And.intro @sp_ll <| And.intro @jn_ll <| And.intro @seI_len <| And.intro @seS_len <| And.intro @seT_len <| And.intro @seL_len <| And.intro @sub_len <| And.intro @rep_len <| And.intro @beq_s <| And.intro @beq_b <| And.intro @tmod_p <| And.intro @tdiv_p <| And.intro @lb_1i <| @LB_bs1):=And.intro @jn_r <| And.intro @sp_ll <| And.intro @jn_ll <| And.intro @seI_len <| And.intro @seS_len <| And.intro @seT_len <| And.intro @seL_len <| And.intro @sub_len <| And.intro @rep_len <| And.intro @beq_s <| And.intro @beq_b <| And.intro @tmod_p <| And.intro @tdiv_p <| And.intro @lb_1i <| @LB_bs1
theorem vc:type_of% (And.intro vcL <| And.intro vcN <| And.intro vc0 <| And.intro vc1 <| And.intro vc2 <| And.intro vc3 <| And.intro vc4 <| And.intro vc5 <| And.intro vc6 <| And.intro vc7 <| And.intro vc8 <| And.intro vc9 <| And.intro vc10 <| And.intro vc11 <| And.intro vc12 <| vc13):=And.intro vcL <| And.intro vcN <| And.intro vc0 <| And.intro vc1 <| And.intro vc2 <| And.intro vc3 <| And.intro vc4 <| And.intro vc5 <| And.intro vc6 <| And.intro vc7 <| And.intro vc8 <| And.intro vc9 <| And.intro vc10 <| And.intro vc11 <| And.intro vc12 <| vc13
theorem vcd:type_of% (And.intro vc vcO):=And.intro vc vcO
end Go.Cat
