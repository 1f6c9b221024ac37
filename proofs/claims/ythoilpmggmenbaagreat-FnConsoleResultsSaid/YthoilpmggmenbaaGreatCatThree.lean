/-
 Steps between two operations, which do nothing: a part of what is owned is taken out, and put back.
-/
import Derived.Test.YthoilpmggmenbaaGreatCatTwo
set_option linter.unusedSimpArgs false
set_option linter.unusedVariables false
namespace Go.Cat
theorem AM.at{R:D->Value->List Nat->Prop}:∀{xs:List D}{vs:List Value}{B:List Nat}{i:Nat}{x:D},AM R xs vs B->xs[i]?=some x->
  ∃y e j f,vs[i]?=some y/\B=e++(j++f)/\R x y j/\∀g b,R g y b->AM R (xs.set i g) vs (e++(b++f))
 |[],_,_,_,_=>λ_ h=>by simp at h
 |I::xs,v::vs,B,0,x=>λh H=>by simp only[AM]at h;obtain⟨B1,B2,rfl,l,q⟩:=h;simp at H;subst H;refine⟨v,[],B1,B2,by simp,by simp,l,λg b k=>?_⟩;simp only[List.set_cons_zero,List.nil_append,AM];exact⟨b,B2,rfl,k,q⟩
 |I::xs,v::vs,B,i+1,x=>λh H=>by simp only[AM]at h;obtain⟨B1,B2,rfl,l,q⟩:=h;obtain⟨y,e,j,f,s,rfl,C,G⟩:=AM.at q (by simpa using H);refine⟨y,B1++e,j,f,by simpa using s,by simp,C,λg b k=>?_⟩;simp only[List.set_cons_succ,AM];exact⟨B1,e++(b++f),by simp,l,G g b k⟩
 |_::_,[],_,_,_=>λh _=>by simp[AM]at h
theorem AE.split{fid:Nat->Nat}{h:Array Obj}{O X:Nat->Prop}{es:Sh}(hes:es.FJ=true):∀(is:List Nat)(s:Sh)(d I dh:D)(v y:Value)(B:List Nat)(gb go:Nat),is≠[]->AE fid h O X s d v B->B.Nodup->
  s.under is.length=some es->Ai is d=some I->An is d .u=some dh->Wk h is v gb go y->
  ∃B1 B2,AE fid h O X es I y B1/\AE fid h O X s dh v B2/\(∀k∈B1,k∈B/\k∉B2)/\(∀k∈B2,k∈B)/\B1.Nodup/\B2.Nodup
 |[],_,_,_,_,_,_,_,_,_,hne=>(hne rfl).elim
 |i::is,s,d,I,dh,v,y,B,gb,go,_=>λr hnd T f G U=>by
  have row:∀(s':Sh)(xs:List D)(row:List Value)(P:List Nat),AM (AE fid h O X s') xs row P->P.Nodup->s'.under is.length=some es->(xs[i]?.bind (Ai is))=some I->
    ∀z,row[i]?=some z->(is=[]/\y=z\/is≠[]/\Wk h is z gb go y)->
    ∃x J B1 B2,xs[i]?=some x/\An is x .u=some J/\AE fid h O X es I y B1/\AM (AE fid h O X s') (xs.set i J) row B2/\(∀k∈B1,k∈P/\k∉B2)/\(∀k∈B2,k∈P)/\B1.Nodup/\B2.Nodup:=by
   intro s' xs row P he hn hu f z R hy
   cases hx:xs[i]? with
   |none=>rw[hx]at f;simp at f
   |some x=>
    rw[hx]at f
    simp only[Option.bind_some]at f
    obtain⟨z',Ba,Bi,Bc,V,rfl,k2,k3⟩:=AM.at he hx
    rw[R]at V
    injection V with V
    subst V
    obtain⟨W,n2,n3⟩:=List.nodup_append.1 hn
    obtain⟨n4,n5,n6⟩:=List.nodup_append.1 n2
    rcases hy with⟨rfl,rfl⟩|⟨hne,hy⟩
    .simp only[Ai,AL]at f
     subst f
     simp only[Aa,Sh.under,AL]at hu
     subst hu
     refine⟨x,.u,Bi,Ba++([]++Bc),rfl,by simp[An],k2,k3 .u [] (AE.VY hes _),?_,?_,n4,?_⟩
     .intro k H
      refine⟨by simp[H],λq=>?_⟩
      rcases Ac.1 q with q|q
      .exact n3 k q k (by simp[H]) rfl
      .exact n6 k H k (by simpa using q) rfl
     .intro k H
      simp only[List.nil_append,Ac]at H|-
      exact H.imp id .inr
     .refine List.nodup_append.2 ⟨W,by simpa using n5,λa ha b N e=>?_⟩
      exact n3 a ha b (by simp only[List.nil_append]at N;simp[N]) e
    .have Q:∃J,An is x .u=some J:=by
      have gs:∀(is:List Nat)(x I:D),Ai is x=some I->∃J,An is x .u=some J:=by
       intro is
       induction is with
       |nil=>intro x I _;exact⟨.u,rfl⟩
       |cons j is ih=>
        intro x I f
        cases x with
        |l ys=>
         simp only[Ai,AS]at f
         obtain⟨c1,R,f⟩:=f
         obtain⟨q,hq⟩:=ih c1 I f
         exact⟨.l (ys.set j q),by simp[An,R,hq]⟩
        |g ys=>
         simp only[Ai,AS]at f
         obtain⟨c1,R,f⟩:=f
         obtain⟨q,hq⟩:=ih c1 I f
         exact⟨.g (ys.set j q),by simp[An,R,hq]⟩
        |_=>simp[Ai]at f
      exact gs is x I f
     obtain⟨J,Q⟩:=Q
     obtain⟨B1,B2,q1,q2,q3,q4,q5,q6⟩:=AE.split hes is s' x I J _ y Bi gb go hne k2 n4 hu f Q hy
     refine⟨x,J,B1,Ba++(B2++Bc),rfl,Q,q1,k3 J B2 q2,?_,?_,q5,?_⟩
     .intro k H
      have:=q3 k H
      refine⟨by simp[this.1],λq=>?_⟩
      rcases Ac.1 q with q|q
      .exact n3 k q k (by simp[this.1]) rfl
      .rcases Ac.1 q with q|q
       .exact this.2 q
       .exact n6 k this.1 k q rfl
     .intro k H
      simp only[Ac]at H|-
      rcases H with H|H|H
      .exact .inl H
      .exact .inr (.inl (q4 k H))
      .exact .inr (.inr H)
     .refine List.nodup_append.2 ⟨W,List.nodup_append.2 ⟨q6,n5,λa ha b N e=>n6 a (q4 a ha) b N e⟩,λa ha b N e=>?_⟩
      rcases Ac.1 N with N|N
      .exact n3 a ha b (by simp[q4 b N]) e
      .exact n3 a ha b (by simp[N]) e
  cases s with
  |v=>simp[Sh.under]at T
  |y=>simp[Sh.under]at T
  |a s=>simp[Sh.under]at T
  |m=>simp[Sh.under]at T
  |b s'=>
   simp only[AO,Sh.under]at T
   simp only[AE]at r
   obtain⟨xs,b1,L,e1,Z,P,rfl,rfl,rfl,M,ht,hl,he⟩:=r
   simp only[Wk]at U
   obtain⟨b2,o2,cs2,e2,fz2,z,hv,C,R,U⟩:=U
   obtain⟨rfl,rfl⟩:=hv.box
   rw[M]at C
   injection C with C
   injection C with q5 q6 q7
   subst q5 q6 q7
   obtain⟨W,n2⟩:=List.nodup_cons.1 hnd
   simp only[Ai]at f
   obtain⟨x,J,B1,B2,V,k2,k3,k4,k5,k6,k7,k8⟩:=row s' xs L.toList P he n2 T f z (by rw[Array.getElem?_toList];exact R) (by
    rcases U with⟨Y,_,_,a4⟩|⟨Y,a2⟩
    .exact .inl ⟨Y,a4⟩
    .exact .inr ⟨Y,a2⟩)
   simp only[An,V,Option.bind_some,k2,Option.map_some,AL]at G
   subst G
   refine⟨B1,_::B2,k3,?_,?_,?_,k7,List.nodup_cons.2 ⟨λq=>W (k6 _ q),k8⟩⟩
   .simp only[AE]
    exact⟨_,_,L,e1,Z,B2,rfl,rfl,rfl,M,ht,by simp[hl],k4⟩
   .intro k H
    refine⟨BL _ (k5 k H).1,λq=>?_⟩
    rcases AY.1 q with rfl|q
    .exact W (k5 _ H).1
    .exact(k5 k H).2 q
   .intro k H
    rcases AY.1 H with rfl|H
    .simp
    .exact BL _ (k6 k H)
  |o s'=>
   simp only[AO,Sh.under]at T
   simp only[AE]at r
   rcases r with⟨q|q,_⟩|⟨xs,rfl,r⟩
   .subst q;simp[Ai]at f
   .cases d<;>simp[Ai]at f<;>simp[D.flat]at q
   simp only[Wk]at U
   obtain⟨b2,o2,cs2,e2,fz2,z,hv,C,R,U⟩:=U
   rcases r with⟨rfl,rfl,_⟩|⟨b1,off,cap,L,e1,Z,P,rfl,rfl,M,ht,h1,h2,h3,he⟩
   .exact hv.none.elim
   obtain⟨rfl,hi,rfl⟩:=hv.slice
   rw[M]at C
   injection C with C
   injection C with q5 q6 q7
   subst q5 q6 q7
   obtain⟨W,n2⟩:=List.nodup_cons.1 hnd
   simp only[Ai]at f
   obtain⟨x,J,B1,B2,V,k2,k3,k4,k5,k6,k7,k8⟩:=row s' xs (L.toList.drop off) P he n2 T f z (by rw[Ed];exact R) (by
    rcases U with⟨Y,_,_,a4⟩|⟨Y,a2⟩
    .exact .inl ⟨Y,a4⟩
    .exact .inr ⟨Y,a2⟩)
   simp only[An,V,Option.bind_some,k2,Option.map_some,AL]at G
   subst G
   refine⟨B1,_::B2,k3,?_,?_,?_,k7,List.nodup_cons.2 ⟨λq=>W (k6 _ q),k8⟩⟩
   .simp only[AE]
    refine .inr ⟨_,rfl,.inr ⟨_,off,cap,L,e1,Z,B2,rfl,by simp,M,ht,by simpa using h1,h2,h3,k4⟩⟩
   .intro k H
    refine⟨BL _ (k5 k H).1,λq=>?_⟩
    rcases AY.1 q with rfl|q
    .exact W (k5 _ H).1
    .exact(k5 k H).2 q
   .intro k H
    rcases AY.1 H with rfl|H
    .simp
    .exact BL _ (k6 k H)
def U9:List Fact->Nat->Option (Nat×List PE×Nat)
 |[],_=>none
 |.sl t (.ip r p m [])::st,u=>if t=u then some (r,p,m)else U9 st u
 |_::st,u=>U9 st u
def OL:List Fact->Nat->Option Nat
 |[],_=>none
 |.sl t (.ag r [])::st,u=>if t=u then some r else OL st u
 |_::st,u=>OL st u
def QK(st:List Fact)(r:Nat):List Nat:=st.filterMap λf=>match f with
 |.sl t (.ag R [])=>if R=r then some t else none
 |_=>none
def C5(n:Nat)(l:List (Nat×Gd)):List Fact:=l.map λy=>.sl y.1 (.is n y.2)
def Fs(n:Nat)(l:List Nat):List Fact:=l.map λy=>.sl y (.ag n [])
def ANX(l:List (Nat×Gd)):List (Nat×Gd):=l.drop (l.length-1)
def Kk(st:List Fact)(AA:Nat)(code:Nat):Option (Pr×Sm):=
 if 600000<=code then
  match Bm st ((code-600000)%1000)with
  |some (.ip r p m [])=>(CB st r).bind λf=>(f.under p.length).bind λes=>(Ez es).bind λi=>
    some (.sp r p (min i ((code-600000)/1000)),⟨[.sl ((code-600000)%1000) (.ip r p m []),.en r f]++(C5 r (ANX (slotsOf st r))++Fs r []),[r],
     .en AA (ow ((code-600000)/1000))::.en (AA+1) f::.sl ((code-600000)%1000) (.is AA [])::.sl ((code-600000)%1000) (.ip (AA+1) p AA [])::(C5 (AA+1) (ANX (slotsOf st r))++Fs (AA+1) [])⟩)
  |_=>none
 else if 550000<=code then
  match Bm st (code-550000)with
  |some (.is n [])=>(CB st n).bind λs=>if s.okF=true then
    some (.cy (.e n),⟨[.sl (code-550000) (.is n []),.en n s]++C5 n (slotsOf st n),[n],.en AA .v::C5 AA (slotsOf st n)⟩)else none
  |_=>none
 else if 500000<=code then
  match Bm st (code-500000)with
  |some (.is n [])=>match CB st n with
   |some (.o s)=>some (.ln (.e n) [],⟨[.sl (code-500000) (.is n []),.en n (.o s)],[],[.sl (code-500000) (.is n []),.sl (code-500000) (.lh n [])]⟩)
   |_=>none
  |_=>none
 else if 400000<=code then
  match Bm st (code-400000),OL st (code-400000)with
  |some (.is m []),some h=>match CB st m,CB st h with
   |some (.a s),some (.b s')=>if s=s'/\m≠h then some (.cy (.e m),⟨[.sl (code-400000) (.is m []),.sl (code-400000) (.ag h []),.en m (.a s),.en h (.b s)]++C5 h (slotsOf st h),[m,h],.en AA (.b s)::C5 AA (slotsOf st h)⟩)else none
   |_,_=>none
  |_,_=>none
 else if 300000<=code then
  match(match OL st (code-300000)with
   |some r=>some (r,Loc.ag r [])
   |none=>match Bm st (code-300000)with
    |some (.ia r m [])=>some (r,.ia r m [])
    |_=>none)with
  |some (r,l)=>match CB st r with
   |some (.b s)=>if s.FJ=true then some (.sw r,⟨[.sl (code-300000) l,.en r (.b s)]++C5 r (slotsOf st r),[r],.en AA (.a s)::.en (AA+1) (.b s)::.sl (code-300000) (.is AA [])::.sl (code-300000) (.ag (AA+1) [])::C5 (AA+1) (slotsOf st r)⟩)else none
   |_=>none
  |none=>none
 else if 200000<=code then
  match Bm st (code-200000),U9 st (code-200000)with
  |some (.is m []),some (h,p,M)=>match CB st m,CB st h with
   |some s1,some f=>(Ez s1).bind λk=>(f.under p.length).bind λes=>(Ez es).bind λi=>
     if m≠h then some (.jn h p (.e m) (min k i),⟨[.sl (code-200000) (.is m []),.sl (code-200000) (.ip h p M []),.en m s1,.en h f]++(C5 h (slotsOf st h)++Fs h (QK st h)),[m,h],.en AA f::(C5 AA (slotsOf st h)++Fs AA (QK st h))⟩)else none
   |_,_=>none
  |_,_=>none
 else if 100000<=code then
  match Bm st ((code-100000)%1000)with
  |some (.ip r p m [])=>(CB st r).bind λf=>(f.under p.length).bind λes=>(Ez es).bind λi=>
    some (.sp r p (min i ((code-100000)/1000)),⟨[.sl ((code-100000)%1000) (.ip r p m []),.en r f]++(C5 r (slotsOf st r)++Fs r (QK st r)),[r],
     .en AA (ow ((code-100000)/1000))::.en (AA+1) f::.sl ((code-100000)%1000) (.is AA [])::.sl ((code-100000)%1000) (.ip (AA+1) p AA [])::(C5 (AA+1) (slotsOf st r)++Fs (AA+1) (QK st r))⟩)
  |_=>none
 else none
theorem AZC(k:Nat):(ow k).FJ=true:=by cases k<;>rfl
section
variable{cf:CF}{sg:Nat->Option Sg}{c:Cx}{F:Fact->Prop}{E:Nat->D}{a:Act}{w:World}{vs:Nat->Value}{Bs:Nat->List Nat}{AA:Nat}{sm:Sm}{st:List Fact}{p:Pr}
 {K:Nat->List D->List D->Prop}
theorem BF.two(H:BF c F E a w vs Bs){r:Nat}{sr:Sh}(U:F (.en r sr)){m:Nat}(P:Bh F m)(R:Bh F (m+1)){s1 s2:Sh}{v1 v2:Value}{B1 B2:List Nat}
  (o1:AE c.fid w.heap (OB F Bs) c.Xb s1 (E m) v1 B1) (o2:AE c.fid w.heap (OB F Bs) c.Xb s2 (E (m+1)) v2 B2) (L:B1.Nodup) (n2:B2.Nodup) (b1:∀k∈B1,k∈Bs r/\k∉B2) (b2:∀k∈B2,k∈Bs r):
  BF c (next F none ⟨[],[r],[.en m s1,.en (m+1) s2]⟩) E a w (AQ (AQ vs m v1) (m+1) v2) (AQ (AQ Bs m B1) (m+1) B2):=by
 let V:Nat->Value:=AQ (AQ vs m v1) (m+1) v2;let W:Nat->List Nat:=AQ (AQ Bs m B1) (m+1) B2;have C:V m=v1:=by simp only[V];rw[BX _ _ (by omega),BD]
 have G:V (m+1)=v2:=by simp only[V];rw[BD]
 have g:W m=B1:=by simp only[W];rw[BX _ _ (by omega),BD]
 have i:W (m+1)=B2:=by simp only[W];rw[BD]
 have N:∀n s',(n=m\/n=m+1)->next F none ⟨[],[r],[.en m s1,.en (m+1) s2]⟩ (.en n s')->(n=m/\s'=s1)\/(n=m+1/\s'=s2):=by rintro n s' b (⟨q,_⟩|q);rcases b with rfl|rfl;exact(P.1 _ q).elim;exact(R.1 _ q).elim;simp only[AY,Cy,or_false]at q;rcases q with q|q;injection q with Q M;exact .inl ⟨Q,M⟩;injection q with Q M;exact .inr ⟨Q,M⟩
 refine BF.step (λn=>n=m\/n=m+1) (λn=>n∈[r]) (λ_=>False) none H (λn b=>by rw[BX _ _ (λe=>b (.inr e)),BX _ _ (λe=>b (.inl e))])
  (λn b=>by rw[BX _ _ (λe=>b (.inr e)),BX _ _ (λe=>b (.inl e))])
  (λt l T n b q=>by
   rcases q with rfl|rfl
   .exact P.2 t l T b
   .exact R.2 t l T b)
  (λ_ q=>q.elim) (Ao.refl _ _) rfl rfl rfl (λ_ _=>rfl) rfl rfl ?_ ?_ ?_ ?_ ?_ ?_
 .rintro f (⟨Y,Z⟩|q)
  .left;refine⟨Y,?_⟩;cases f<;>exact Z
  .right;simp only[AY,Cy,or_false]at q;rcases q with rfl|rfl
   .exact .inl rfl
   .exact .inr rfl
 .intro n s' b s;have O:∀B,B < w.heap.size->(EE F Bs (λn=>n∈[r]) B\/∃k,(k=m\/k=m+1)/\B∈W k)->OB F Bs B:=by rintro B _ (⟨L,s1,z1,_,z3⟩|⟨k,I,h⟩);exact⟨L,s1,z1,z3⟩;refine⟨r,_,U,?_⟩;rcases I with rfl|rfl;rw[g]at h;exact(b1 _ h).1;rw[i]at h;exact b2 _ h
  rcases N n s' b s with⟨rfl,rfl⟩|⟨rfl,rfl⟩
  .show AE c.fid w.heap _ c.Xb s' (E n) (V n) (W n);rw[C,g];exact AE.ext (Ao.refl (λ_=>False) _) (λ_ _ q=>q.elim) O _ _ _ _ (λ_ _ q=>q) o1
  .show AE c.fid w.heap _ c.Xb s' (E (m+1)) (V (m+1)) (W (m+1));rw[G,i];exact AE.ext (Ao.refl (λ_=>False) _) (λ_ _ q=>q.elim) O _ _ _ _ (λ_ _ q=>q) o2
 .intro n s' b s;show(W n).Nodup;rcases N n s' b s with⟨rfl,rfl⟩|⟨rfl,rfl⟩
  .rw[g];exact L
  .rw[i];exact n2
 .intro n s' b s B h;refine .inl ⟨r,_,U,by simp,?_⟩;have h:B∈W n:=h;rcases N n s' b s with⟨rfl,rfl⟩|⟨rfl,rfl⟩
  .rw[g]at h;exact(b1 _ h).1
  .rw[i]at h;exact b2 _ h
 .intro n s' k r' b I s hg x B h j;have h:B∈W n:=h;have j:B∈W k:=j;rcases N n s' b s with⟨rfl,rfl⟩|⟨rfl,rfl⟩<;>rcases N k r' I hg with⟨rfl,rfl⟩|⟨rfl,rfl⟩
  .exact x rfl
  .rw[g]at h;rw[i]at j;exact(b1 _ h).2 j
  .rw[i]at h;rw[g]at j;exact(b1 _ j).2 h
  .exact x rfl
 .intro t' l' J
  cases J
theorem Z9(P:∀j,j<2->Bh F (AA+j))(H:BF c F E a w vs Bs){t r m k i:Nat}{q:List PE}{O es:Sh}{l1:List (Nat×Gd)}{l2:List Nat}(J:F (.sl t (.ip r q m [])))(I:F (.en r O))(hs:O.under q.length=some es)(hi:Ez es=some i)
  (h1:∀f∈C5 r l1,F f) (h2:∀f∈Fs r l2,F f) (N:Hz (min i k) (E r) (q.mapM (PE.ev E))=some (E AA,E (AA+1))) (ns:List Fact):
  E5 c (next F none ⟨ns,[r],.en AA (ow k)::.en (AA+1) O::.sl t (.is AA [])::.sl t (.ip (AA+1) q AA [])::(C5 (AA+1) l1++Fs (AA+1) l2)⟩) E a w:=by
 have f0:Bh F AA:=by simpa using P 0 (by omega)
 have f1:Bh F (AA+1):=P 1 (by omega);have T:=H.own r _ I;obtain⟨is,gb,go,d0,k1,k2,k3,k4⟩:=H.loc t _ J (by simp[Am]) ⟨O,I⟩;have R:is≠[]:=by rintro rfl;simp[Wk]at k3
 unfold Hz at N;have hq:q.mapM (PE.ev E)=some is:=k1;rw[hq,Option.bind_some,k2,Option.bind_some]at N;split at N
 .rename_i B;simp only[Ae,AJ]at N;obtain⟨dh,h,hd1,rfl⟩:=N;have hes:=LN hi;subst hes;rw[hd1]at k2 B;obtain⟨B1,B2,o1,o2,b1,b2,n1,n2⟩:=AE.split (AZC i) is O (E r) (E AA) (E (AA+1)) (vs r) (vs m) (Bs r) gb go R T (H.nodup r _ I) (by rw[JV k1];exact hs) k2 h k3;have H1:=H.two I f0 f1 (AE.lift i k _ _ _ o1 B) o2 n1 n2 b1 b2;have hrc:r≠AA:=by rintro rfl;exact f0.1 _ I
  have V:r≠AA+1:=by rintro rfl;exact f1.1 _ I
  have hmc:m≠AA:=by rintro rfl;exact f0.2 _ _ J (by simp[Loc.A6])
  have hmc1:m≠AA+1:=by rintro rfl;exact f1.2 _ _ J (by simp[Loc.A6])
  have W:AQ (AQ vs AA (vs m)) (AA+1) (vs r) AA=vs m:=by rw[BX _ _ (by omega),BD]
  have Z:AQ (AQ vs AA (vs m)) (AA+1) (vs r) (AA+1)=vs r:=BD _ _ _;have er:AQ (AQ vs AA (vs m)) (AA+1) (vs r) r=vs r:=by rw[BX _ _ V,BX _ _ hrc]
  have hgl:∃x,Ai is (E (AA+1))=some x:=by
   have gs:∀(is:List Nat)(x y:D),An is x .u=some y->∃d,Ai is y=some d:=by
    intro is;induction is with
    |nil=>intro x y _;exact⟨y,rfl⟩
    |cons j is ih=>
     intro x y G
     cases x with
     |l Y=>
      simp only[An,Ae,AS]at G
      obtain⟨y1,⟨x1,L,M⟩,rfl⟩:=G
      obtain⟨d,hd⟩:=ih x1 y1 M
      have hj:j<Y.length:=(List.getElem?_eq_some_iff.1 L).1
      exact⟨d,by simp[Ai,hj,hd]⟩
     |g Y=>
      simp only[An,Ae,AS]at G
      obtain⟨y1,⟨x1,L,M⟩,rfl⟩:=G
      obtain⟨d,hd⟩:=ih x1 y1 M
      have hj:j<Y.length:=(List.getElem?_eq_some_iff.1 L).1
      exact⟨d,by simp[Ai,hj,hd]⟩
     |_=>simp[An]at G
   exact gs is _ _ h
  obtain⟨x0,hx0⟩:=hgl;refine⟨_,_,H1.FT ?_ ?_⟩
  .intro n' s';simp only[next,C5,Fs,AY,Ac,List.mem_map,Cy,or_false];constructor
   .rintro(q|q|q|q|q|⟨_,_,q⟩|⟨_,_,q⟩)
    .exact .inl q
    .exact .inr (.inl q)
    .exact .inr (.inr q)
    .cases q
    .cases q
    .cases q
    .cases q
   .rintro(q|q|q)
    .exact .inl q
    .exact .inr (.inl q)
    .exact .inr (.inr (.inl q))
  .intro t' l' hf;rcases hf with⟨Q,s⟩|q
   .exact .inl (.inl ⟨Q,s⟩)
   .simp only[C5,Fs,AY,Ac,List.mem_map]at q;rcases q with q|q|q|q|⟨⟨U,gu⟩,hu,q⟩|⟨U,hu,q⟩
    .cases q
    .cases q
    .injection q with Q s;subst Q s;right;refine⟨λ_=>?_,λq=>(q (by simp[Am])).elim⟩;rw[W];exact k4
    .injection q with Q s;subst Q s;right;intro _ _;exact⟨is,gb,go,x0,k1,hx0,by rw[W,Z];exact k3,by rw[W];exact k4⟩
    .injection q with Q s;subst Q s;have C:F (.sl U (.is r gu)):=h1 _ (List.mem_map.2 ⟨(U,gu),hu,rfl⟩);have:=H.loc U _ C;right;refine⟨λG=>?_,this.2⟩;rw[Z];exact this.1 G
    .injection q with Q s;subst Q s;have C:F (.sl U (.ag r [])):=h2 _ (List.mem_map.2 ⟨U,hu,rfl⟩);obtain⟨xs,b,cs,e,fz,j1,j2,j3,j4⟩:=H.loc U _ C (by simp[Am]) ⟨O,I⟩;right;intro _ _;have hg2:∃Y,E (AA+1)=.g Y:=by
      rw[j1]at h
      cases is with
      |nil=>exact(R rfl).elim
      |cons j is=>
       simp only[An,Ae]at h
       obtain⟨y,_,hy⟩:=h
       exact⟨_,hy.symm⟩
     obtain⟨Y,hys⟩:=hg2;exact⟨Y,b,cs,e,fz,hys,by rw[Z];exact j2,j3,j4⟩
 .cases N
theorem AO0(Y:Bh F AA)(H:BF c F E a w vs Bs){t h m m0 k i:Nat}{q:List PE}{s1 C es:Sh}{l1:List (Nat×Gd)}{l2:List Nat}(hsl:F (.sl t (.is m [])))(hsp:F (.sl t (.ip h q m0 [])))(hm:F (.en m s1))(I:F (.en h C))(hmh:m≠h)
  (hk:Ez s1=some k) (hs:C.under q.length=some es) (hi:Ez es=some i)
  (h1:∀f∈C5 h l1,F f) (h2:∀f∈Fs h l2,F f) (hE:AW E (.jn h q (.e m) (min k i))=some (E AA)) (ns:List Fact):
  E5 c (next F none ⟨ns,[m,h],.en AA C::(C5 AA l1++Fs AA l2)⟩) E a w:=by
 have x:=H.own h _ I;have N:=H.own m _ hm;obtain⟨is,gb,go,d0,k1,k2,k3,k4⟩:=H.loc t _ hsp (by simp[Am]) ⟨C,I⟩;have k5:=(H.loc t _ hsl).1 (by simp[Am]);have hv0:vs m0=vs m:=by rw[k4]at k5;injection k5
 have M:is≠[]:=by rintro rfl;simp[Wk]at k3
 have hq:q.mapM (PE.ev E)=some is:=k1;have l:(if((E m).one&&C3 (min k i) (E m))=true then(q.mapM (PE.ev E)).bind λis=>An is (E h) (E m)else none)=some (E AA):=hE;split at l
 .rename_i hc;simp only[AU]at hc;obtain⟨hone,V⟩:=hc;rw[hq,Option.bind_some]at l;have hs1:=LN hk;have hes:=LN hi;subst hs1 hes;have P:C.under is.length=some (ow i):=by rw[JV k1];exact hs
  obtain⟨b2,o2,x2,B2,w1,_,_,Z⟩:=Wk.Iu is C (ow i) (E h) d0 (vs h) (Bs h) M x k2 P;obtain⟨rfl,rfl,_⟩:=Wk.KA is k3 w1;obtain⟨T,ge,gfz,c1,c2⟩:=k3.cell;have hfz:gfz=(0,0):=R4 is C (E h) d0 (vs h) (Bs h) x k2 P k3 c1;subst hfz;rw[hv0]at c2;have hset:T.setIfInBounds go (vs m)=T:=by apply Array.ext;simp;intro j hj1 hj2;rw[Array.getElem_setIfInBounds];split;rename_i e;subst e;obtain⟨R,Q⟩:=Array.getElem?_eq_some_iff.1 c2;exact Q.symm;rfl
  have W:∀b∈Bs h,b∉Bs m:=λb J hbm=>H.apart h _ m _ I hm (Ne.symm hmh) b J hbm;have hO:∀b,b<w.heap.size->(EE F Bs (λn=>n∈[m,h]) b\/b∈Bs h\/b∈Bs m)->OB F Bs b:=by rintro b _ (⟨n1,s1,z1,_,z3⟩|q|q);exact⟨n1,s1,z1,z3⟩;exact⟨h,_,I,q⟩;exact⟨m,_,hm,q⟩
  have x1:AE c.fid w.heap (λb=>EE F Bs (λn=>n∈[m,h]) b\/b∈Bs h\/b∈Bs m) c.Xb (ow i) (E m) (vs m) (Bs m):=
   AE.ext (Ao.refl (λ_=>False) _) (λ_ _ q=>q.elim) hO _ _ _ _ (λ_ _ q=>q) (AE.lift k i _ _ _ N V)
  obtain⟨B',s1,s2,s3,_⟩:=AE.set (O:=OB F Bs) (λb _=>rfl) rfl c1 (by rw[hset];exact c1) ⟨h,C,I,Z⟩ hO x1 is C (E h) (E AA) (vs h) _ (Bs h) M x (H.nodup h C I) W (H.nodup m _ hm) P l k3;have hhc:h≠AA:=by rintro rfl;exact Y.1 _ I
  have H1:=H.put (m:=AA) (s:=C) (v:=vs h) (B:=B') (dst:=none) (ns:=[]) (w':=w) (g:=[]) Y (by simp[BW]) [m,h] (Ao.refl _ _) rfl rfl rfl
   (AE.ext (Ao.refl (λ_=>False) _) (λ_ _ q=>q.elim) (λb J G=>by
    rcases G with G|G
    .exact .inl G
    .exact .inr (s2 b G)) _ _ _ _ (λ_ _ q=>q) s1) s3
   (λb J=>by
    rcases s2 b J with J|J
    .exact .inl ⟨h,C,I,by simp,J⟩
    .exact .inl ⟨m,_,hm,by simp,J⟩) (by simp[Am])
  refine⟨AQ vs AA (vs h),AQ Bs AA B',H1.FT ?_ ?_⟩
  .intro n' s';simp only[next,one,C5,Fs,AY,Ac,List.mem_map,Cy,or_false];constructor
   .rintro(q|q|⟨_,_,q⟩|⟨_,_,q⟩)
    .exact .inl q
    .exact .inr q
    .cases q
    .cases q
   .rintro(q|q)
    .exact .inl q
    .exact .inr (.inl q)
  .intro t' l' hf;rcases hf with⟨R,Q⟩|q
   .exact .inl (.inl ⟨R,Q⟩)
   .simp only[C5,Fs,AY,Ac,List.mem_map]at q;rcases q with q|⟨⟨U,gu⟩,hu,q⟩|⟨U,hu,q⟩
    .cases q
    .injection q with R Q;subst R Q;have L:F (.sl U (.is h gu)):=h1 _ (List.mem_map.2 ⟨(U,gu),hu,rfl⟩);have:=H.loc U _ L;right;refine⟨λhg=>?_,this.2⟩;rw[BD];exact this.1 hg
    .injection q with R Q;subst R Q;have L:F (.sl U (.ag h [])):=h2 _ (List.mem_map.2 ⟨U,hu,rfl⟩);obtain⟨xs,b,cs,e,fz,j1,j2,j3,j4⟩:=H.loc U _ L (by simp[Am]) ⟨C,I⟩;right;intro _ _;have hg2:∃ys,E AA=.g ys:=by
      rw[j1]at l
      cases is with
      |nil=>exact(M rfl).elim
      |cons j is=>
       simp only[An,Ae]at l
       obtain⟨y,_,hy⟩:=l
       exact⟨_,hy.symm⟩
     obtain⟨ys,hys⟩:=hg2;exact⟨ys,b,cs,e,fz,hys,by rw[BD];exact j2,j3,j4⟩
 .cases l
theorem AH8{fid:Nat->Nat}{h:Array Obj}{O X:Nat->Prop}{s:Sh}(H:s.FJ=true):∀(vs:List Value),AM (AE fid h O X s) (List.replicate vs.length .u) vs []
 |[]=>by simp[AM]
 |v::vs=>by simp only[AO,List.replicate_succ,AM];exact⟨[],[],rfl,AE.VY H v,AH8 H vs⟩
theorem ATO(B:∀j,j<2->Bh F (AA+j))(H:BF c F E a w vs Bs){t r:Nat}{s:Sh}{l1:List (Nat×Gd)}(W:F (.en r (.b s)))(hs:s.FJ=true)
  (T:∃xs b cs e O,E r=.g xs/\vs r=.pointer (some ⟨b,0,none⟩)/\w.heap[b]?=some (.cells cs e O)/\a.tmps[t]?=some (.agg cs)) (h1:∀f∈C5 r l1,F f)
  (P:L4 (E r)=some (E AA,E (AA+1))) (ns:List Fact):
  E5 c (next F none ⟨ns,[r],.en AA (.a s)::.en (AA+1) (.b s)::.sl t (.is AA [])::.sl t (.ag (AA+1) [])::C5 (AA+1) l1⟩) E a w:=by
 have f0:Bh F AA:=by simpa using B 0 (by omega)
 have f1:Bh F (AA+1):=B 1 (by omega);have h:=H.own r _ W;simp only[AE]at h;obtain⟨xs,b,cs,e,O,B',e1,J,L,M,e5,N,e7⟩:=h;have V:O=(0,0):=e5;subst V;obtain⟨xs',b',cs',e',fz',j1,j2,j3,j4⟩:=T;rw[L]at j2;injection j2 with j2;injection j2 with j2;injection j2 with j2;subst j2;rw[M]at j3;injection j3 with j3;injection j3 with j3 _ _;subst j3;rw[e1]at P;simp only[L4,AL,AJ]at P;obtain⟨R,x⟩:=P;have I:=H.nodup r _ W;rw[J]at I;obtain⟨n1,n2⟩:=List.nodup_cons.1 I;have G:cs.toList.length=xs.length:=by simpa using N
 have H1:=H.two W f0 f1 (s1:=.a s) (s2:=.b s) (v1:=.agg cs) (v2:=vs r) (B1:=B') (B2:=[b])
  (by rw[<-R];simp only[AE];exact⟨xs,cs,rfl,rfl,N,e7⟩)
  (by
   rw[<-x,L]
   simp only[AE]
   refine⟨_,b,cs,e,(0,0),[],rfl,rfl,rfl,M,rfl,by simp[N],?_⟩
   rw[<-G]
   exact AH8 hs _) n2 (by simp)
  (λk C=>⟨by rw[J];exact BL _ C,by simp only[List.mem_singleton];rintro rfl;exact n1 C⟩) (λk C=>by rw[J];simp only[List.mem_singleton]at C;subst C;simp)
 have e0:AQ (AQ vs AA (.agg cs)) (AA+1) (vs r) AA=.agg cs:=by rw[BX _ _ (by omega),BD]
 have l:AQ (AQ vs AA (.agg cs)) (AA+1) (vs r) (AA+1)=vs r:=BD _ _ _;refine⟨_,_,H1.FT ?_ ?_⟩
 .intro n' s';simp only[next,C5,AY,List.mem_map,Cy,or_false];constructor
  .rintro(q|q|q|q|q|⟨_,_,q⟩)
   .exact .inl q
   .exact .inr (.inl q)
   .exact .inr (.inr q)
   .cases q
   .cases q
   .cases q
  .rintro(q|q|q)
   .exact .inl q
   .exact .inr (.inl q)
   .exact .inr (.inr (.inl q))
 .intro t' l' hf;rcases hf with⟨Q,i⟩|q
  .exact .inl (.inl ⟨Q,i⟩)
  .simp only[C5,AY,List.mem_map]at q;rcases q with q|q|q|q|⟨⟨Y,Z⟩,hu,q⟩
   .cases q
   .cases q
   .injection q with Q i;subst Q i;right;refine⟨λ_=>?_,λq=>(q (by simp[Am])).elim⟩;rw[e0];exact j4
   .injection q with Q i;subst Q i;right;intro _ _;exact⟨_,b,cs,e,(0,0),x.symm,by rw[l,L],M,j4⟩
   .injection q with Q i;subst Q i;have U:F (.sl Y (.is r Z)):=h1 _ (List.mem_map.2 ⟨(Y,Z),hu,rfl⟩);have:=H.loc Y _ U;right;refine⟨λhg=>?_,this.2⟩;rw[l];exact this.1 hg
theorem Ac8(M:Bh F AA)(H:BF c F E a w vs Bs){t h m:Nat}{s:Sh}{l1:List (Nat×Gd)}(P:F (.sl t (.is m [])))(R:F (.sl t (.ag h [])))(l:F (.en m (.a s)))(k:F (.en h (.b s)))(O:m≠h)
  (h1:∀f∈C5 h l1,F f) (G:some (E m)=some (E AA)) (ns:List Fact):
  E5 c (next F none ⟨ns,[m,h],.en AA (.b s)::C5 AA l1⟩) E a w:=by
 injection G with G;have i:=H.own h _ k;have j:=H.own m _ l;simp only[AE]at i j;obtain⟨xs,b,cs,e,fz,B',e1,C,W,Y,e5,e6,e7⟩:=i;have N:fz=(0,0):=e5;subst N;obtain⟨ys,cs',d1,d2,d3,d4⟩:=j;obtain⟨xs',b',cs2,e',fz',j1,j2,j3,j4⟩:=H.loc t _ R (by simp[Am]) ⟨_,k⟩;have J:=(H.loc t _ P).1 (by simp[Am]);rw[W]at j2;injection j2 with j2;injection j2 with j2;injection j2 with j2;subst j2;rw[Y]at j3;injection j3 with j3;injection j3 with j3 _ _;subst j3;rw[j4,d2]at J;injection J with J;injection J with J;subst J;have I:b∉Bs m:=λhb=>H.apart h _ m _ k l (Ne.symm O) b (by rw[C];simp) hb
 have H1:=H.put (m:=AA) (s:=.b s) (v:=vs h) (B:=b::Bs m) (dst:=none) (ns:=[]) (w':=w) (g:=[]) M (by simp[BW]) [m,h] (Ao.refl _ _) rfl rfl rfl
  (by
   rw[<-G,d1,W]
   simp only[AE]
   refine⟨ys,b,cs,e,(0,0),Bs m,rfl,rfl,rfl,Y,rfl,d3,AM.imp (λd v B1 hB1 q=>?_) d4⟩
   refine AE.ext (Ao.refl (λ_=>False) _) (λ_ _ q=>q.elim) ?_ _ _ _ _ (λ_ _ q=>q) q
   rintro x _ (⟨n1,s1,Q,_,q3⟩|q)
   .exact⟨n1,s1,Q,q3⟩
   .rcases AY.1 q with rfl|q
    .exact⟨h,_,k,by rw[C];simp⟩
    .exact⟨m,_,l,q⟩)
  (List.nodup_cons.2 ⟨I,H.nodup m _ l⟩)
  (λx T=>by
   rcases AY.1 T with rfl|T
   .exact .inl ⟨h,_,k,by simp,by rw[C];simp⟩
   .exact .inl ⟨m,_,l,by simp,T⟩) (by simp[Am])
 refine⟨_,_,H1.FT ?_ ?_⟩
 .intro n' s';simp only[next,one,C5,AY,List.mem_map,Cy,or_false];constructor
  .rintro(q|q|⟨_,_,q⟩)
   .exact .inl q
   .exact .inr q
   .cases q
  .rintro(q|q)
   .exact .inl q
   .exact .inr (.inl q)
 .intro t' l' hf;rcases hf with⟨Q,U⟩|q
  .exact .inl (.inl ⟨Q,U⟩)
  .simp only[C5,AY,List.mem_map]at q;rcases q with q|⟨⟨V,Z⟩,hu,q⟩
   .cases q
   .injection q with Q U;subst Q U;have L:F (.sl V (.is h Z)):=h1 _ (List.mem_map.2 ⟨(V,Z),hu,rfl⟩);have:=H.loc V _ L;right;refine⟨λhg=>?_,this.2⟩;rw[BD];exact this.1 hg
theorem AZI(k:Bh F AA)(H:BF c F E a w vs Bs){n:Nat}{s:Sh}{L:List (Nat×Gd)}(l:F (.en n s))(T:s.okF=true)(N:∀f∈C5 n L,F f)(i:some (E n)=some (E AA))(ns:List Fact):
  E5 c (next F none ⟨ns,[n],.en AA .v::C5 AA L⟩) E a w:=by
 injection i with i
 have M:=H.put (m:=AA) (s:=.v) (v:=vs n) (B:=[]) (dst:=none) (ns:=[]) (w':=w) (g:=[]) k (by simp[BW]) [n] (Ao.refl _ _) rfl rfl rfl
  (by
   rw[<-i]
   simp only[AE,true_and]
   refine AE.freeze (O:=OB F Bs) (X:=c.Xb) ?_ s _ _ (Bs n) T ?_ (H.own n s l)
   .rintro b _ ((⟨m,r,Q,_,C⟩|q)|q)
    .exact .inl ⟨m,r,Q,C⟩
    .cases q
    .exact .inr q
   .rintro b I ((⟨m,r,Q,h,C⟩|q)|q)
    .exact H.apart m r n s Q l (λe=>h (by simp[e])) b C I
    .cases q
    .obtain⟨x1,Y⟩:=c.hX b q
     rcases H.mine n s l b I with J|J
     .omega
     .exact Y J) (by simp) (λx W=>by cases W) (by simp[Am])
 refine⟨_,_,M.FT ?_ ?_⟩
 .intro n' s';simp only[next,one,C5,AY,List.mem_map,Cy,or_false];constructor
  .rintro(q|q|⟨_,_,q⟩)
   .exact .inl q
   .exact .inr q
   .cases q
  .rintro(q|q)
   .exact .inl q
   .exact .inr (.inl q)
 .intro t' Z P;rcases P with⟨Q,h⟩|q
  .exact .inl (.inl ⟨Q,h⟩)
  .simp only[C5,AY,List.mem_map]at q;rcases q with q|⟨⟨U,G⟩,V,q⟩
   .cases q
   .injection q with Q h;subst Q h;have j:F (.sl U (.is n G)):=N _ (List.mem_map.2 ⟨(U,G),V,rfl⟩);have:=H.loc U _ j;right;refine⟨λR=>?_,this.2⟩;rw[BD];exact this.1 R
theorem ASA(H:BF c F E a w vs Bs){t n:Nat}{s:Sh}(k:F (.sl t (.is n [])))(I:F (.en n (.o s)))(J:Aw K E AA (.ln (.e n) []))(ns:List Fact):
  E5 c (next F none ⟨ns,[],[.sl t (.is n []),.sl t (.lh n [])]⟩) E a w:=by
 have f:FW (E n)=some (E AA):=by simpa[Aw,AW,EM,ev,Ai]using J
 obtain⟨xs,x⟩:∃xs,E n=.l xs:=by
  unfold FW at f;split at f;exact⟨_,‹_›⟩
  cases f
 have h:=H.own n _ I;have B:=(H.loc t _ k).1 (by simp[Am]);rw[x]at h;refine⟨vs,Bs,H.FT (λm r=>?_) (λu l L=>?_)⟩
 .simp[next]
 .rcases L with⟨q,_⟩|q
  .exact .inl q
  .simp only[AY,Cy,or_false]at q;rcases q with q|q
   .rw[q];exact .inl k
   right;injection q with Q M;subst Q M;intro _;simp only[AE]at h;rcases h with⟨q|q,_⟩|⟨Y,j,r⟩
   .cases q
   .simp[D.flat]at q
   .injection j with j;subst j;rcases r with⟨g,rfl,_⟩|⟨b,off,cap,C,O,G,N,_,g,_⟩
    .exact⟨[],none,0,0,x,g,rfl,λi hi=>by omega,B⟩
    .exact⟨xs,_,_,_,x,g,rfl,λi hi=>⟨b,off,rfl⟩,B⟩
theorem AGG{code:Nat}(g:Kk st AA code=some (p,sm))(H:BF c F E a w vs Bs)(C:∀j,j<p.np->Bh F (AA+j))(x:∀f∈sm.needs,F f)(J:Aw K E AA p):E5 c (next F none sm) E a w:=by
 unfold Kk at g;split at g;split at g;rename_i r q m M;simp only[AS]at g;obtain⟨Y,V,es,G,i,hi,g⟩:=g;simp only[AL,AJ]at g;obtain⟨rfl,rfl⟩:=g
 exact Z9 (λj N=>C j (by simpa[Pr.np]using N)) H (x (.sl _ (.ip r q m [])) (by simp)) (x _ (by simp)) G hi
  (λf B=>x f (BB _ (BN _ B))) (λf B=>x f (BB _ (BB _ B))) J _
 cases g;split at g;split at g;rename_i n M;simp only[AS]at g;obtain⟨s,Q,g⟩:=g;split at g;rename_i W;simp only[AL,AJ]at g;obtain⟨rfl,rfl⟩:=g;exact AZI (by simpa using C 0 (by simp[Pr.np])) H (x (.en n s) (by simp)) W (λf B=>x f (BB _ B)) J _
 cases g
 cases g;split at g;split at g;rename_i n M;split at g;rename_i s Q;simp only[AL,AJ]at g;obtain⟨rfl,rfl⟩:=g;exact ASA H (x (.sl (code-500000) (.is n [])) (by simp)) (x (.en n (.o s)) (by simp)) J _
 cases g
 cases g;split at g;split at g;rename_i m h M Q;split at g;rename_i s s' Z e4;split at g;rename_i hc;obtain⟨rfl,L⟩:=hc;simp only[AL,AJ]at g;obtain⟨rfl,rfl⟩:=g;exact Ac8 (by simpa using C 0 (by simp[Pr.np])) H (x (.sl (code-400000) (.is m [])) (by simp)) (x (.sl (code-400000) (.ag h [])) (by simp)) (x _ (by simp)) (x _ (by simp)) L (λf B=>x f (BB _ B)) J _
 cases g
 cases g
 cases g;split at g;split at g;rename_i r l I;split at g;rename_i s W;split at g;rename_i P;simp only[AL,AJ]at g;obtain⟨rfl,rfl⟩:=g;have U:F (.en r (.b s)):=x _ (by simp);have O:F (.sl (code-300000) l):=x _ (by simp);refine ATO (λj N=>C j (by simpa[Pr.np]using N)) H U P ?_ (λf B=>x f (BB _ B)) J _;split at I;injection I with I;injection I with R T;subst R T;exact H.loc _ _ O (by simp[Am]) ⟨_,U⟩;split at I;injection I with I;injection I with R T;subst R T;obtain⟨xs,b,cs,e,fz,j1,_,j3,j4,j5,j6⟩:=H.loc _ _ O (by simp[Am]) ⟨_,U⟩;exact⟨xs,b,cs,e,fz,j1,j3,j4,by rw[j6,j5]⟩
 cases I
 cases g
 cases g
 cases g;split at g;split at g;rename_i m h q m0 M Q;split at g;rename_i s1 Y Z e4;simp only[AS]at g;obtain⟨k,hk,es,G,i,hi,g⟩:=g;split at g;rename_i L;simp only[AL,AJ]at g;obtain⟨rfl,rfl⟩:=g
 exact AO0 (by simpa using C 0 (by simp[Pr.np])) H (x (.sl (code-200000) (.is m [])) (by simp)) (x (.sl (code-200000) (.ip h q m0 [])) (by simp)) (x _ (by simp)) (x _ (by simp)) L hk G hi
  (λf B=>x f (BB _ (BN _ B))) (λf B=>x f (BB _ (BB _ B))) J _
 cases g
 cases g
 cases g;split at g;split at g;rename_i r q m M;simp only[AS]at g;obtain⟨Y,V,es,G,i,hi,g⟩:=g;simp only[AL,AJ]at g;obtain⟨rfl,rfl⟩:=g
 exact Z9 (λj N=>C j (by simpa[Pr.np]using N)) H (x (.sl _ (.ip r q m [])) (by simp)) (x _ (by simp)) G hi
  (λf B=>x f (BB _ (BN _ B))) (λf B=>x f (BB _ (BB _ B))) J _
 cases g
 cases g
end
end Go.Cat
namespace Go.Cat
def A.A6:A->List Nat
 |.e n=>[n]
 |.c _=>[]
def NS:Option A->List Nat
 |some a=>a.A6
 |none=>[]
def Pr.A6:Pr->List Nat
 |.nop|.cs .. |.mm=>[]
 |.cy a|.un _ a|.cv _ a|.sn a|.bs a|.sy a=>a.A6
 |.bi _ a b|.bb _ a b|.sx a b|.ap _ a b|.mx a b|.mn a b|.mk _ a b|.iy a b=>a.A6++b.A6
 |.pk a b c=>a.A6++b.A6++c.A6
 |.ln a p=>a.A6++p.flatMap PE.A6
 |.ix a p i=>a.A6++p.flatMap PE.A6++i.A6
 |.up n p a=>n::(p.flatMap PE.A6++a.A6)
 |.sb _ a lo hi=>a.A6++NS lo++NS hi
 |.ss a lo hi=>a.A6++NS lo++NS hi
 |.li _ xs=>xs.flatMap A.A6
 |.ca _ xs _=>xs.flatMap A.A6
 |.cd f _ xs _=>f.A6++xs.flatMap A.A6
 |.bg _ xs=>xs.flatMap λx=>x.1.A6
 |.bp a|.gp a _|.nz _ a|.nn a|.wl _ a|.fp _ a _=>a.A6
 |.gt a p=>a.A6++p.flatMap PE.A6
 |.ws n _ a=>n::a.A6
 |.uq n p a _ _=>n::(p.flatMap PE.A6++a.A6)
 |.mu n k v=>n::(k.A6++v.A6)
 |.mg n k _=>n::k.A6
 |.mo n k _=>n::k.A6
 |.tk n=>[n]
 |.cb n=>[n]
 |.sp n p _=>n::p.flatMap PE.A6
 |.sw n=>[n]
 |.jn n p a _=>n::(p.flatMap PE.A6++a.A6)
theorem BS{E E':Nat->D}{a:A}(h:∀n∈a.A6,E n=E' n):ev E a=ev E' a:=by
 cases a with
 |e n=>exact h n (by simp[A.A6])
 |c d=>rfl
theorem PE.BS{E E':Nat->D}{p:PE}(h:∀n∈p.A6,E n=E' n):PE.ev E p=PE.ev E' p:=by
 cases p with
 |e n=>simp only[PE.ev];rw[h n (by simp[PE.A6])]
 |k n=>rfl
theorem JB{E E':Nat->D}:∀{p:List PE},(∀n∈p.flatMap PE.A6,E n=E' n)->p.mapM (PE.ev E)=p.mapM (PE.ev E')
 |[],_=>rfl
 |x::p,h=>by simp only[List.mapM_cons];rw[PE.BS λn H=>h n (by simp[H]),JB λn H=>h n (by simp only[List.flatMap_cons,Ac];exact .inr H)]
theorem map_congr{E E':Nat->D}:∀{xs:List A},(∀n∈xs.flatMap A.A6,E n=E' n)->xs.map (ev E)=xs.map (ev E')
 |[],_=>rfl
 |x::xs,h=>by simp only[List.map_cons];rw[BS λn H=>h n (by simp[H]),map_congr λn H=>h n (by simp only[List.flatMap_cons,Ac];exact .inr H)]
theorem T5{E E':Nat->D}:∀{xs:List (A×Nat)},(∀n∈xs.flatMap (λx=>x.1.A6),E n=E' n)->(xs.map λx=>(ev E x.1,x.2))=(xs.map λx=>(ev E' x.1,x.2))/\(xs.map λx=>ev E x.1)=xs.map λx=>ev E' x.1
 |[],_=>⟨rfl,rfl⟩
 |x::xs,h=>by have i:=T5 (E:=E) (E':=E') (xs:=xs) λn H=>h n (by simp only[List.flatMap_cons,Ac];exact .inr H);simp only[List.map_cons];rw[BS λn H=>h n (by simp[H]),i.1,i.2];exact⟨rfl,rfl⟩
theorem Q0{E E':Nat->D}{x:Option A}(h:∀n∈NS x,E n=E' n):x.map (ev E)=x.map (ev E'):=by
 cases x with
 |none=>rfl
 |some a=>exact congrArg some (BS h)
theorem AaR{E E':Nat->D}{p:Pr}(h:∀n∈p.A6,E n=E' n):AW E p=AW E' p:=by
 cases p<;>simp only[Pr.A6,Ac,AY]at h<;>simp only[AW,EM]
 case cy a=>rw[BS h]
 case bi a b=>rw[BS λn H=>h n (.inl H),BS λn H=>h n (.inr H)]
 case bb a b=>rw[BS λn H=>h n (.inl H),BS λn H=>h n (.inr H)]
 case un a=>rw[BS h]
 case pk a b c=>rw[BS λn H=>h n (.inl (.inl H)),BS λn H=>h n (.inl (.inr H)),BS λn H=>h n (.inr H)]
 case cv a=>rw[BS h]
 case ln a p=>rw[BS λn H=>h n (.inl H),JB λn H=>h n (.inr H)]
 case sn a=>rw[BS h]
 case sx a b=>rw[BS λn H=>h n (.inl H),BS λn H=>h n (.inr H)]
 case ss a lo hi=>rw[BS λn H=>h n (.inl (.inl H)),Q0 λn H=>h n (.inl (.inr H)),Q0 λn H=>h n (.inr H)]
 case ix a p i=>rw[BS λn H=>h n (.inl (.inl H)),JB λn H=>h n (.inl (.inr H)),BS λn H=>h n (.inr H)]
 case up n p a=>rw[h n (.inl rfl),JB λn H=>h n (.inr (.inl H)),BS λn H=>h n (.inr (.inr H))]
 case sb a lo hi=>rw[BS λn H=>h n (.inl (.inl H)),Q0 λn H=>h n (.inl (.inr H)),Q0 λn H=>h n (.inr H)]
 case ap a b=>rw[BS λn H=>h n (.inl H),BS λn H=>h n (.inr H)]
 case mk a b=>rw[BS λn H=>h n (.inl H),BS λn H=>h n (.inr H)]
 case iy a b=>rw[BS λn H=>h n (.inl H),BS λn H=>h n (.inr H)]
 case li xs=>rw[map_congr h]
 case bs a=>rw[BS h]
 case sy a=>rw[BS h]
 case mx a b=>rw[BS λn H=>h n (.inl H),BS λn H=>h n (.inr H)]
 case mn a b=>rw[BS λn H=>h n (.inl H),BS λn H=>h n (.inr H)]
 case bg k xs=>rw[(T5 h).1,(T5 h).2]
 case bp a=>rw[BS h]
 case gp a k=>rw[BS h]
 case nz w a=>rw[BS h]
 case nn a=>rw[BS h]
 case wl k a=>rw[BS h]
 case ws n k a=>rw[h n (.inl rfl),BS λm e=>h m (.inr e)]
 case gt a p=>rw[BS λn H=>h n (.inl H),JB λn H=>h n (.inr H)]
 case fp fl a k=>rw[BS h]
 case cb n=>rw[h n (by simp)]
 case mu n a b=>rw[h n (.inl rfl),BS λm e=>h m (.inr (.inl e)),BS λm e=>h m (.inr (.inr e))]
 case mg n a d=>rw[h n (.inl rfl),BS λm e=>h m (.inr e)]
 case jn n p a k=>rw[h n (.inl rfl),JB λn H=>h n (.inr (.inl H)),BS λn H=>h n (.inr (.inr H))]
 case uq n p a i k=>rw[h n (.inl rfl),JB λn H=>h n (.inr (.inl H)),BS λn H=>h n (.inr (.inr H))]
def Fw(E:Nat->D)(z:List (Option Nat))(j:Nat):D:=match z[j]? with
 |some (some m)=>E m
 |_=>.u
theorem MM{E:Nat->D}:∀(z:List (Option Nat))(n:Nat),(Ci E z n).length=n
 |_,0=>by simp[Ci]
 |[],n+1=>by simp[Ci,MM [] n]
 |some m::z,n+1=>by simp[Ci,MM z n]
 |none::z,n+1=>by simp[Ci,MM z n]
theorem QZ{E:Nat->D}:∀(z:List (Option Nat))(n j:Nat),j<n->(Ci E z n)[j]?=some (Fw E z j)
 |_,0,j=>λh=>by omega
 |[],n+1,0=>λh=>by simp[Ci,Fw]
 |[],n+1,j+1=>λh=>by have:=QZ (E:=E) [] n j (by omega);simpa[Ci,Fw]using this
 |some m::z,n+1,0=>λh=>by simp[Ci,Fw]
 |some m::z,n+1,j+1=>λh=>by have:=QZ (E:=E) z n j (by omega);simpa[Ci,Fw]using this
 |none::z,n+1,0=>λh=>by simp[Ci,Fw]
 |none::z,n+1,j+1=>λh=>by have:=QZ (E:=E) z n j (by omega);simpa[Ci,Fw]using this
def HZ(z:List (Option Nat)):List Nat:=z.filterMap id
theorem AbO{E E':Nat->D}{z:List (Option Nat)}{j:Nat}(h:∀n∈HZ z,E n=E' n):Fw E z j=Fw E' z j:=by unfold Fw;split;rename_i m H;exact h m (List.mem_filterMap.2 ⟨some m,List.mem_of_getElem? H,rfl⟩);rfl
def E4(K:Nat->List D->List D->Prop)(E:Nat->D)(AA:Nat)(it:It):Prop:=
 match Cc E it.g with
 |some true=>Aw K E AA it.p
 |some false=>∀j,j<it.p.np->E (AA+j)=Fw E it.z j
 |none=>False
def ED(K:Nat->List D->List D->Prop)(E:Nat->D):Nat->List It->Prop
 |_,[]=>True
 |AA,it::r=>E4 K E AA it/\ED K E (AA+it.p.np) r
def DM:List It->Nat
 |[]=>0
 |it::r=>it.p.np+DM r
def MD:Nat->List It->Bool
 |_,[]=>true
 |AA,it::r=>(it.p.A6.all λn=>decide (n<AA))&&((HZ it.z).all λn=>decide (n<AA))&&(it.g.all λx=>decide (x.1<AA))&&MD (AA+it.p.np) r
theorem Sk{E E':Nat->D}:∀{g:Gd},(∀x∈g,E x.1=E' x.1)->Cc E g=Cc E' g
 |[],_=>rfl
 |(n,b)::g,h=>by simp only[Cc];rw[h (n,b) (by simp),Sk λx H=>h x (by simp[H])]
theorem JP{e t:Env}{n:Nat}(h:n<e.length):Env.E (e++t) n=Env.E e n:=by simp[Env.E,Ap,DP h]
theorem G3{e t:Env}{j:Nat}:Env.E (e++t) (e.length+j)=t.getD j .u:=by simp only[Env.E,Ap];rw[GK (by omega)];simp
theorem MV{K:Nat->List D->List D->Prop}{Q:Env->Prop}:∀(s:List It)(e:Env),MD e.length s=true->EY K s e Q->
  ∃t,Q (e++t)/\t.length=DM s/\ED K (Env.E (e++t)) e.length s
 |[],e=>λ_ h=>⟨[],by simpa[EY]using h,rfl,trivial⟩
 |it::r,e=>λW h=>by
  simp only[MD,AU,Aj,Ad]at W
  obtain⟨⟨⟨hm1,hmz⟩,I⟩,hm3⟩:=W
  have key:∀C:Env,C.length=it.p.np->(∀T:Env,E4 K (Env.E (e++(C++T))) e.length it)->EY K r (e++C) Q->
    ∃t,Q (e++t)/\t.length=DM (it::r)/\ED K (Env.E (e++t)) e.length (it::r):=by
   intro C hl hit hw
   obtain⟨T,q1,q2,q3⟩:=MV r (e++C) (by simpa[hl]using hm3) hw
   refine⟨C++T,by simpa using q1,by simp[DM,hl,q2],hit T,?_⟩
   simpa[hl]using q3
  simp only[EY,H7]at h
  split at h
  rename_i hg
  have b:∀t,Cc (Env.E (e++t)) it.g=some true:=λt=>by rw[Sk (E':=Env.E e) λx hx=>JP (I x hx)];exact hg
  have mem:∀(t:Env)(n:Nat),n∈it.p.A6->Env.E e n=Env.E (e++t) n:=λt n l=>(JP (hm1 n l)).symm
  unfold A7 at h
  split at h
  rename_i H
  refine key [] (by simp[H,Pr.np]) (λT=>?_) (by simpa using h)
  simp only[E4,b,H,Aw]
  rename_i k xs n H
  obtain⟨rs,Y,G,Z⟩:=h
  refine key rs (by simp[H,Pr.np,G]) (λT=>?_) Z
  simp only[E4,b,H,Aw]
  refine⟨rs,?_,G,λj V=>?_⟩
  rw[map_congr (E:=Env.E (e++(rs++T))) (E':=Env.E e) λn l=>(mem (rs++T) n (by simpa[H,Pr.A6]using l)).symm];exact Y
  rw[G3]
  simp[Ap,DP (show j<rs.length by omega),show j<rs.length from by omega]
  rename_i fv k xs n H
  obtain⟨h0,rs,Y,G,Z⟩:=h
  refine key rs (by simp[H,Pr.np,G]) (λT=>?_) Z
  simp only[E4,b,H,Aw]
  refine⟨?_,rs,?_,G,λj V=>?_⟩
  rw[BS (E:=Env.E (e++(rs++T))) (E':=Env.E e) λn l=>(mem (rs++T) n (by simp only[H,Pr.A6,Ac];exact .inl l)).symm];exact h0
  rw[map_congr (E:=Env.E (e++(rs++T))) (E':=Env.E e) λn l=>(mem (rs++T) n (by simp only[H,Pr.A6,Ac];exact .inr l)).symm];exact Y
  rw[G3]
  simp[Ap,DP (show j<rs.length by omega),show j<rs.length from by omega]
  rename_i n H
  split at h
  rename_i d hd
  refine key [d,.g [.u]] (by simp[H,Pr.np]) (λT=>?_) h
  simp only[E4,b,H,Aw]
  refine⟨?_,?_⟩
  rw[<-mem ([d,.g [.u]]++T) n (by simp[H,Pr.A6]),hd]
  have:=G3 (e:=e) (t:=[d,.g [.u]]++T) (j:=0)
  simp only[Nat.add_zero]at this
  rw[this];rfl
  rw[G3];rfl
  exact h.elim
  rename_i n pp q H
  split at h
  rename_i d hd
  obtain⟨f,i⟩:=d
  refine key [f,i] (by simp[H,Pr.np]) (λT=>?_) h
  simp only[E4,b,H,Aw]
  have B:=G3 (e:=e) (t:=[f,i]++T) (j:=0)
  simp only[Nat.add_zero]at B
  rw[B,G3,<-mem ([f,i]++T) n (by simp[H,Pr.A6]),<-JB (E:=Env.E e) λn l=>mem ([f,i]++T) n (by simp only[H,Pr.A6,AY];exact .inr l),hd]
  rfl
  exact h.elim
  rename_i n H
  split at h
  rename_i d hd
  obtain⟨f,i⟩:=d
  refine key [f,i] (by simp[H,Pr.np]) (λT=>?_) h
  simp only[E4,b,H,Aw]
  have B:=G3 (e:=e) (t:=[f,i]++T) (j:=0)
  simp only[Nat.add_zero]at B
  rw[B,G3,<-mem ([f,i]++T) n (by simp[H,Pr.A6]),hd]
  rfl
  exact h.elim
  rename_i n k0 d0 H
  split at h
  rename_i d hd
  obtain⟨f,i⟩:=d
  refine key [f,i] (by simp[H,Pr.np]) (λT=>?_) h
  simp only[E4,b,H,Aw]
  have B:=G3 (e:=e) (t:=[f,i]++T) (j:=0)
  simp only[Nat.add_zero]at B
  rw[B,G3,<-mem ([f,i]++T) n (by simp[H,Pr.A6]),<-BS (E:=Env.E e) (E':=Env.E (e++([f,i]++T))) λm W=>mem ([f,i]++T) m (by simp only[H,Pr.A6,AY];exact .inr W),hd]
  rfl
  exact h.elim
  rename_i L M N O P R U
  have J:it.p.np=1:=by
   cases hpp:it.p<;>first|rfl|(exact(L hpp).elim)|(exact(M _ _ _ hpp).elim)|(exact(N _ _ _ _ hpp).elim)|(exact(O _ hpp).elim)|(exact(P _ _ _ hpp).elim)|(exact(R _ hpp).elim)|(exact(U _ _ _ hpp).elim)
  split at h
  rename_i d hd
  refine key [d] (by simp[J]) (λT=>?_) h
  simp only[E4,b]
  have:AW (Env.E (e++([d]++T))) it.p=some (Env.E (e++([d]++T)) e.length):=by
   rw[<-AaR (mem ([d]++T)),hd]
   have:=G3 (e:=e) (t:=[d]++T) (j:=0)
   simp only[Nat.add_zero]at this
   rw[this];rfl
  cases hpp:it.p<;>first|(exact(L hpp).elim)|(exact(M _ _ _ hpp).elim)|(exact(N _ _ _ _ hpp).elim)|(exact(O _ hpp).elim)|(exact(P _ _ _ hpp).elim)|(exact(R _ hpp).elim)|(exact(U _ _ _ hpp).elim)|(rw[hpp]at this;exact this)
  exact h.elim
  rename_i hg
  refine key (Ci (Env.E e) it.z it.p.np) (MM _ _) (λT=>?_) h
  have b:Cc (Env.E (e++(Ci (Env.E e) it.z it.p.np++T))) it.g=some false:=by rw[Sk (E':=Env.E e) λx hx=>JP (I x hx)];exact hg
  simp only[E4,b]
  intro j V
  rw[G3,AbO (E':=Env.E e) λn l=>JP (hmz n l)]
  rw[Ap,DP (by rw[MM];exact V),QZ _ _ _ V]
  rfl
  exact h.elim
structure Sq where
 it:It
 sm:Sm
 g:Gd
def Ee(dst:Option Nat)(kill:List Nat):Fact->Bool
 |.en n _=>!kill.contains n
 |.sl t _=>some t != dst
def Hi(st:List Fact)(dst:Option Nat)(sm:Sm):List Fact:=sm.adds++st.filter (Ee dst sm.kill)
theorem Q5{st:List Fact}{dst:Option Nat}{sm:Sm}{f:Fact}:f∈Hi st dst sm↔next (·∈st) dst sm f:=by
 unfold Hi next;simp only[Ac,List.mem_filter];constructor;rintro(h|⟨b,H⟩);exact .inr h;left;refine⟨b,?_⟩
 cases f<;>simp[Ee]at H|-<;>exact H;rintro(⟨b,H⟩|h);right;refine⟨b,?_⟩
 cases f<;>simp[Ee]at H|-<;>exact H;exact .inl h
def Ms(ops:Array Oper)(st:List Fact):Option (Nat×Bool)->Option (Gd×List Fact)
 |none=>some ([],[])
 |some (j,want)=>match(ops[j]?).bind (·.dst)with
  |some t=>match Bm st t with
   |some (.is n g)=>(CB st n).map λs=>(g++[(n,want)],[.sl t (.is n g),.en n s])
   |_=>none
  |none=>none
def Loc.gd:Loc->Gd
 |.is _ g=>g
 |.ad _ _ _ g=>g
 |.ip _ _ _ g=>g
 |.vc _ g=>g
 |.tu _ g=>g
 |.aw _ _ g=>g
 |.ia _ _ g=>g
 |.bx _ g=>g
 |.fv _ _ g=>g
 |.fb _ _ g=>g
 |.ag _ g=>g
 |.lh _ g=>g
 |.sa _ _ g=>g
def WN(o:Oper)(g:Gd)(AA np:Nat)(z:List (Option Nat))(sm:Sm):Bool:=
 g.isEmpty||(decide ((HZ z).Nodup)&&sm.adds.all fun
  |.en n s=>decide (AA<=n/\n<AA+np)&&(match z[n-AA]? with
   |some (some m)=>sm.kill.contains m&&sm.needs.contains (.en m s)
   |_=>s.FJ)
  |.sl t l=>decide (some t=o.dst/\l.gd=g)||(match l with
   |.is n gt=>decide (AA<=n/\n<AA+np)&&(match z[n-AA]? with
    |some (some m)=>sm.needs.contains (.sl t (.is m gt))&&decide (some t≠o.dst)
    |_=>false)
   |_=>false))
def skZ(sg:Nat->Option Sg)(g:Gd):Pr->List (Option Nat)
 |.ca k xs _=>match sg k with
  |some s=>if g=[]\/s.io=[]then []else List.replicate s.qs.length none++s.io.map λi=>match xs[i]? with
   |some (.e n)=>some n
   |_=>none
  |none=>[]
 |_=>[]
def JY:Fact->Fact
 |.en n _=>.en n .v
 |f=>f
def RH(k:Nat)(sm:Sm):Sm:=if 1000<=k then{ sm with adds:=sm.adds.map JY } else sm
def Ut(k:Nat)(g:Gd)(AA np:Nat)(sm:Sm):Bool:=decide (k<1000)||(g.isEmpty&&sm.adds.all fun
 |.en n s=>decide (AA<=n/\n<AA+np)&&s.okF
 |_=>true)
def SR(fx:List Nat)(dst:Option Nat):Bool:=match dst with|some t=>!fx.contains t|none=>true
def PZ(cf:CF)(sg:Nat->Option Sg)(ops:Array Oper)(st:List Fact)(AA:Nat)(o:Oper)(k:Nat):Option Sq:=
 (Ms ops st o.guard).bind λG=>(Ok cf sg st AA o G.1 k).bind λps=>
  if WN o G.1 AA ps.1.np (skZ sg G.1 ps.1) ps.2=true/\BW o.dst cf.nt=true/\SR cf.fx o.dst=true/\Ut k G.1 AA ps.1.np ps.2=true then
   some ⟨{ z:=skZ sg G.1 ps.1,g:=G.1,p:=ps.1 },{ RH k ps.2 with needs:=G.2++ps.2.needs },G.1⟩
  else none
def Z6:Pr->Bool
 |.nop=>true
 |_=>false
def MY(cf:CF)(sg:Nat->Option Sg)(ops:Array Oper)(st:List Fact)(AA:Nat)(o:Oper)(k:Nat):Option Sq:=
 if 2000000<=k then(PZ cf sg ops st AA o 0).bind λq=>(Kk (Hi st o.dst q.sm) AA (k-2000000)).bind λps=>
  if Z6 q.it.p=true/\q.it.g.isEmpty=true/\(ps.2.needs.all λf=>q.sm.adds.contains f||Ee o.dst q.sm.kill f)=true/\(q.sm.adds.all λf=>f.A6.all λn=>decide (n<AA))=true then
   some ⟨{ p:=ps.1 },⟨q.sm.needs++ps.2.needs.filter (λf=>!q.sm.adds.contains f),q.sm.kill++ps.2.kill,ps.2.adds++q.sm.adds.filter (Ee none ps.2.kill)⟩,[]⟩
  else none
 else PZ cf sg ops st AA o k
theorem O2{E:Nat->D}:∀{g:Gd},Cc E g=some true↔Am E g
 |[]=>by simp[Cc,Am]
 |(n,b)::g=>by simp only[Cc];have I:=O2 (E:=E) (g:=g);constructor;intro h;split at h;rename_i x H;split at h;rename_i e;intro y f;rcases AY.1 f with rfl|f;rw[H,e];exact I.1 h y f;simp at h;simp at h;intro h;have i:=h (n,b) (by simp);simp only at i;simp only[i,if_true];exact I.2 λx H=>h x (by simp[H])
theorem AJG{E:Nat->D}{n:Nat}{b:Bool}:∀{g:Gd},Cc E (g++[(n,b)])=some false->¬Am E g\/(Am E g/\E n=.b (!b))
 |[]=>by simp only[List.nil_append,Cc];intro h;split at h;rename_i x f;split at h;simp at h;rename_i j;right;refine⟨by simp[Am],?_⟩;rw[f];cases x<;>cases b<;>simp at j|-;simp at h
 |(m,c)::g=>by simp only[List.cons_append,Cc];intro h;split at h;rename_i x f;split at h;rename_i H;rcases AJG (g:=g) h with i|⟨i,k⟩;left;intro q;exact i λy e=>q y (by simp[e]);right;refine⟨λy e=>?_,k⟩;rcases AY.1 e with rfl|e;rw[f,H];exact i y e;rename_i H;left;intro q;have:=q (m,c) (by simp);simp only at this;rw[f]at this;injection this with this;exact H this;simp at h
section
variable{cf:CF}{sg:Nat->Option Sg}{c:Cx}{F:Fact->Prop}{E:Nat->D}{a:Act}{w:World}{vs:Nat->Value}{Bs:Nat->List Nat}{AA:Nat}{sm:Sm}{st:List Fact}{o:Oper}
 {K:Nat->List D->List D->Prop} {ops:Array Oper}
theorem AZ0{O:Option (Nat×Bool)}{g:Gd}{ns:List Fact}(h:Ms ops st O=some (g,ns))(l:o.guard=O)(H:BF c F E a w vs Bs)(I:∀f∈ns,F f):
  (Cc E g=some true->Region.wanted o (yielded ops a.tmps)=true)/\(Cc E g=some false->Region.wanted o (yielded ops a.tmps)=false):=by
 cases O with
 |none=>
  simp only[Ms,AL,AJ]at h
  obtain⟨rfl,rfl⟩:=h
  exact⟨λ_=>by simp[Region.wanted,l],λh=>by simp[Cc]at h⟩
 |some Q=>
  obtain⟨j,want⟩:=Q
  simp only[Ms]at h
  split at h
  .rename_i t N
   split at h
   .rename_i n L R
    simp only[Ae,AJ]at h
    obtain⟨s,T,rfl,rfl⟩:=h
    have q:=H.loc t _ (I (.sl t (.is n L)) (by simp))
    have k:=H.own n s (I (.en n s) (by simp))
    have G:yielded ops a.tmps j=match a.tmps[t]? with|some (.bool b)=>some b|_=>none:=by
     unfold yielded
     rw[N]
     simp only[Option.bind_some]
     rfl
    constructor
    .intro C
     have i:=O2.1 C
     have e:=q.1 λx P=>i x (BN _ P)
     have J:E n=.b want:=i (n,want) (by simp)
     rw[J]at k
     rw[k.bool]at e
     simp[Region.wanted,l,G,e]
    .intro C
     rcases AJG C with B|⟨B,M⟩
     .have e:=q.2 B
      simp[Region.wanted,l,G,e,undef]
     .have e:=q.1 B
      rw[M]at k
      rw[k.bool]at e
      simp[Region.wanted,l,G,e]
   .simp at h
  .simp at h
theorem YD:∀{z:List (Option Nat)}{i j m:Nat},(HZ z).Nodup->z[i]?=some (some m)->z[j]?=some (some m)->i=j
 |[],_,_,_,_,h,_=>by simp at h
 |x::z,i,j,m,H,b,e=>by
  have tl:(HZ z).Nodup:=by
   cases x with
   |none=>simpa[HZ]using H
   |some k=>simp only[HZ,List.filterMap_cons,id]at H;exact(List.nodup_cons.1 H).2
  have f:∀j,z[j]?=some (some m)->m∈HZ z:=λj h=>List.mem_filterMap.2 ⟨some m,List.mem_of_getElem? h,rfl⟩
  cases i with
  |zero=>
   cases j with
   |zero=>rfl
   |succ j=>
    simp at b e
    subst b
    simp only[HZ,List.filterMap_cons,id]at H
    exact((List.nodup_cons.1 H).1 (f j e)).elim
  |succ i=>
   cases j with
   |zero=>
    simp at b e
    subst e
    simp only[HZ,List.filterMap_cons,id]at H
    exact((List.nodup_cons.1 H).1 (f i b)).elim
   |succ j=>
    have:=YD (i:=i) (j:=j) (m:=m) tl (by simpa using b) (by simpa using e)
    omega
theorem AaH{g:Gd}{np:Nat}{z:List (Option Nat)}(H:BF c F E a w vs Bs)(C:WN o g AA np z sm=true)(hg:Cc E g=some false)(Z:∀j,j<np->Bh F (AA+j))(hu:∀j,j<np->E (AA+j)=Fw E z j)
  (hin:BW o.dst c.nt=true) (M:∀f∈sm.needs,F f):E5 c (next F o.dst sm) E (a.put o.dst undef) w:=by
 have x:¬Am E g:=λq=>by rw[O2.2 q]at hg;simp at hg
 have hne:g≠[]:=by rintro rfl;simp[Cc]at hg
 unfold WN at C;simp only[Bool.or_eq_true,List.isEmpty_iff,hne,false_or,AU,Ad,Aj]at C;obtain⟨hzn,C⟩:=C
 let src:Nat->Option Nat:=λn=>match z[n-AA]? with
 |some (some m)=>some m
 |_=>none
 have L:∀n s,Fact.en n s∈sm.adds->(AA<=n/\n<AA+np)/\((∃m,src n=some m/\m∈sm.kill/\F (.en m s))\/(src n=none/\s.FJ=true)):=by intro n s Y;have:=C _ Y;simp only[AU,Ad]at this;obtain⟨q1,R⟩:=this;refine⟨q1,?_⟩;split at R;rename_i m hm;simp only[AU,List.contains_eq_mem,Ad]at R;exact .inl ⟨m,by simp[src,hm],R.1,M _ R.2⟩;rename_i hm;refine .inr ⟨?_,R⟩;simp only[src]
 have hsrc:∀n,AA<=n/\n<AA+np->E n=match src n with|some m=>E m|none=>.u:=by intro n k;have:=hu (n-AA) (by omega);rw[show AA+(n-AA)=n from by omega]at this;rw[this];simp only[Fw,src];split<;>rfl
 have hinj:∀n n' m,src n=some m->src n'=some m->AA<=n->AA<=n'->n=n':=by
  intro n n' m I J h3 h4;simp only[src]at I J;split at I;rename_i m1 G;split at J;rename_i m2 e2;injection I with I;injection J with J;subst I J;have:=YD hzn G e2;omega
  cases J
  cases I
 have hfe:∀n r,(AA<=n/\n<AA+np)->next F o.dst sm (.en n r)->Fact.en n r∈sm.adds:=by rintro n r k (⟨I,_⟩|h);have:=(Z (n-AA) (by omega)).1 r;rw[show AA+(n-AA)=n from by omega]at this;exact(this I).elim;exact h
 let mk:Nat->Bool:=λn=>sm.adds.any λf=>match f with|.en n' _=>n'==n|_=>false;have hmk:∀n,mk n=true->∃s,Fact.en n s∈sm.adds:=by
  intro n k;obtain⟨f,I,J⟩:=List.any_eq_true.1 k
  cases f with
  |en n' s=>simp only[beq_iff_eq]at J;subst J;exact⟨s,I⟩
  |sl t l=>simp at J
 have hmk2:∀n s,Fact.en n s∈sm.adds->mk n=true:=λn s h=>List.any_eq_true.2 ⟨_,h,by simp⟩;let V:Nat->Value:=λn=>if AA<=n/\n<AA+np then(match src n with|some m=>vs m|none=>undef)else vs n;let W:Nat->List Nat:=λn=>if AA<=n/\n<AA+np then(if mk n=true then(match src n with|some m=>Bs m|none=>[])else [])else Bs n;have hold:∀m s,F (.en m s)->¬(AA<=m/\m<AA+np):=by intro m s hm k;have:=(Z (m-AA) (by omega)).1 s;rw[show AA+(m-AA)=m from by omega]at this;exact this hm
 have hW:∀n,(AA<=n/\n<AA+np)->∀b∈W n,∃m s,src n=some m/\m∈sm.kill/\F (.en m s)/\b∈Bs m:=by intro n k b P;simp only[W,if_pos k]at P;split at P;rename_i hk;obtain⟨s,hs⟩:=hmk n hk;rcases(L n s hs).2 with⟨m,G,e2,e3⟩|⟨G,_⟩;rw[G]at P;exact⟨m,s,G,e2,e3,P⟩;rw[G]at P;simp at P;simp at P
 let A0:List Fact:=sm.adds.filter λf=>match f with|.sl t _=>decide (some t=o.dst)|_=>true;have B:∀n s,Fact.en n s∈A0↔Fact.en n s∈sm.adds:=by intro n s;simp[A0]
 have O:∀n r,(AA<=n/\n<AA+np)->next F o.dst ⟨[],sm.kill,A0⟩ (.en n r)->Fact.en n r∈sm.adds:=by rintro n r k (⟨I,_⟩|h);exact(hold n r I k).elim;exact(B n r).1 h
 have H1:BF c (next F o.dst ⟨[],sm.kill,A0⟩) E (a.put o.dst undef) w V W:=by
  refine BF.step (λn=>AA<=n/\n<AA+np) (λn=>n∈sm.kill) (λ_=>False) o.dst H (λn k=>if_neg k) (λn k=>if_neg k)
   (λt l hl n k q=>by
    have:=(Z (n-AA) (by omega)).2 t l hl
    rw[show AA+(n-AA)=n from by omega]at this
    exact this k)
   (λ_ q=>q.elim) (Ao.refl _ _) rfl rfl rfl (λt T=>Du T) Hg put_defers ?_ ?_ ?_ ?_ ?_ ?_
  rintro f (⟨I,J⟩|h);left;refine⟨I,?_⟩;cases f<;>exact J
  cases f with
  |en n s=>exact .inr (L n s ((B n s).1 h)).1
  |sl t l=>
   right
   have:=(List.mem_filter.1 h).2
   simpa using this
  rintro n r k Y;have Q:=O n r k Y;rw[hsrc n k];simp only[V,W,if_pos k,hmk2 n r Q,if_true];rcases(L n r Q).2 with⟨m,G,e2,e3⟩|⟨G,e2⟩;rw[G];refine AE.ext (Ao.refl (λ_=>False) _) (λ_ _ q=>q.elim) ?_ _ _ _ _ (λ_ _ q=>q) (H.own m r e3);rintro b _ (⟨n1,s1,q1,_,q3⟩|⟨n1,q1,R⟩);exact⟨n1,s1,q1,q3⟩;obtain⟨m2,s2,_,_,q3,q4⟩:=hW n1 q1 b R;exact⟨m2,s2,q3,q4⟩;rw[G]
  cases r<;>simp[AE,Rd,Sh.FJ]at e2|-;rintro n r k Y;have Q:=O n r k Y;simp only[W,if_pos k,hmk2 n r Q,if_true];rcases(L n r Q).2 with⟨m,G,e2,e3⟩|⟨G,e2⟩;rw[G];exact H.nodup m r e3;rw[G];exact List.nodup_nil;rintro n r k _ b P;obtain⟨m,s,_,R,q3,q4⟩:=hW n k b P;exact .inl ⟨m,s,q3,R,q4⟩;rintro n r m q k hm _ _ hne b P hb2;obtain⟨m1,s1,p1,p2,p3,p4⟩:=hW n k b P;obtain⟨m2,s2,r1,r2,r3,r4⟩:=hW m hm b hb2;by_cases he:m1=m2;subst he;exact hne (hinj n m m1 p1 r1 k.1 hm.1);exact H.apart m1 s1 m2 s2 p3 r3 he b p4 r4;rintro t l T Y;rcases Y with⟨_,J⟩|h;exact(J T).elim;have:=C _ (List.mem_filter.1 h).1;simp only[Bool.or_eq_true,Ad]at this;have i:l.gd=g:=by
   rcases this with q|q
   .exact q.2
   .exfalso
    cases l with
    |is n gt=>
     simp only[AU]at q
     obtain⟨_,q⟩:=q
     split at q
     .simp only[AU,Ad]at q;exact q.2 T
     .cases q
    |_=>simp at q
  have hput:(a.put o.dst undef).tmps[t]?=some undef:=by rw[<-T];exact FY (by rw[H.size];rw[<-T]at hin;simpa[BW]using hin)
  cases l with
  |is n N=>
   simp only[Loc.gd]at i;subst i
   exact⟨λq=>(x q).elim,λ_=>hput⟩
  |vc n N=>simp only[Loc.gd]at i;subst i;exact λq=>(x q).elim
  |ad r p m N=>simp only[Loc.gd]at i;subst i;exact λq=>(x q).elim
  |ip r p m N=>simp only[Loc.gd]at i;subst i;exact λq=>(x q).elim
  |tu ns N=>simp only[Loc.gd]at i;subst i;exact λq=>(x q).elim
  |aw r p N=>simp only[Loc.gd]at i;subst i;exact λq=>(x q).elim
  |ia r m N=>simp only[Loc.gd]at i;subst i;exact λq=>(x q).elim
  |bx n N=>simp only[Loc.gd]at i;subst i;exact λq=>(x q).elim
  |ag r N=>simp only[Loc.gd]at i;subst i;exact λq=>(x q).elim
  |lh r N=>simp only[Loc.gd]at i;subst i;exact λq=>(x q).elim
  |sa r e N=>simp only[Loc.gd]at i;subst i;exact λq=>(x q).elim
  |fv f ns N=>simp only[Loc.gd]at i;subst i;exact λq=>(x q).elim
  |fb f ns N=>simp only[Loc.gd]at i;subst i;exact λq=>(x q).elim
 refine⟨V,W,H1.more ?_ ?_⟩
 .intro n s;simp only[next,B]
 .intro t l Y;rcases Y with⟨q1,R⟩|q
  .exact .inl (.inl ⟨q1,R⟩)
  .by_cases T:some t=o.dst
   .exact .inl (.inr (List.mem_filter.2 ⟨q,by simpa using T⟩))
   .have:=C _ q;simp only[Bool.or_eq_true,Ad]at this;rcases this with U|U
    .exact(T U.1).elim
    .cases l with
    |is n gt=>
     simp only[AU,Ad]at U;obtain⟨k,U⟩:=U;split at U
     .rename_i m hm;simp only[AU,List.contains_eq_mem,Ad]at U;have hsn:src n=some m:=by simp only[src,hm]
      have hmF:=M _ U.1;right;have hnew:¬(AA<=m/\m<AA+np):=by intro hm';have:=(Z (m-AA) (by omega)).2 t _ hmF;rw[show AA+(m-AA)=m from by omega]at this;exact this (by simp[Loc.A6])
      refine⟨n,gt,m,rfl,.inl ⟨hmF,T⟩,?_⟩;simp only[V,if_pos k,hsn,if_neg hnew]
     .cases U
    |_=>simp at U
theorem YX{a':Act}{w':World}{k:Nat}{g:Gd}{np:Nat}{sm:Sm}(R:Ut k g AA np sm=true)(hfr:∀j,j<np->Bh F (AA+j))(H:E5 c (next F o.dst sm) E a' w'):
  E5 c (next F o.dst (RH k sm)) E a' w':=by
 unfold RH;split
 .rename_i h1000;unfold Ut at R;simp only[Bool.or_eq_true,Ad,AU,List.isEmpty_iff,Aj]at R;rcases R with R|⟨_,R⟩
  .omega
  obtain⟨vs,Bs,H⟩:=H;have V:∀m s,F (.en m s)->¬(AA<=m/\m<AA+np):=by intro m s hm hn;have:=(hfr (m-AA) (by omega)).1 s;rw[show AA+(m-AA)=m from by omega]at this;exact this hm
  have U:∀n s,Fact.en n s∈sm.adds->(AA<=n/\n<AA+np)/\s.okF=true:=by intro n s h;have:=R _ h;simpa only[AU,Ad]using this
  let W:Nat->List Nat:=λn=>if AA<=n/\n<AA+np then []else Bs n;have B:∀n s,next F o.dst { sm with adds:=sm.adds.map JY } (.en n s)->(¬(AA<=n/\n<AA+np)/\next F o.dst sm (.en n s)/\W n=Bs n)\/((AA<=n/\n<AA+np)/\s=.v/\∃s',next F o.dst sm (.en n s')/\s'.okF=true):=by
   rintro n s (⟨O,L⟩|h);have:=V n s O;exact .inl ⟨this,.inl ⟨O,L⟩,if_neg this⟩;obtain⟨f,C,he⟩:=List.mem_map.1 h
   cases f with
   |en n' s'=>
    simp only[JY]at he
    injection he with e1 e2
    subst e1 e2
    obtain⟨x,Q⟩:=U n' s' C
    exact .inr ⟨x,rfl,s',.inr C,Q⟩
   |sl t l=>simp[JY]at he
  have P:∀b,OB (next F o.dst { sm with adds:=sm.adds.map JY }) W b->OB (next F o.dst sm) Bs b/\∃n s,¬(AA<=n/\n<AA+np)/\next F o.dst sm (.en n s)/\b∈Bs n:=by rintro b ⟨n,s,O,L⟩;rcases B n s O with⟨x,Q,J⟩|⟨x,_,_⟩;rw[J]at L;exact⟨⟨n,s,Q,L⟩,n,s,x,Q,L⟩;simp only[W,if_pos x]at L;simp at L
  have G:∀n,alive (next F o.dst { sm with adds:=sm.adds.map JY }) n->alive (next F o.dst sm) n:=by rintro n ⟨s,h⟩;rcases B n s h with⟨_,Q,_⟩|⟨_,_,s',q,_⟩;exact⟨s,Q⟩;exact⟨s',q⟩
  refine⟨vs,W,?_,?_,?_,?_,?_,H.agr,H.os,H.tape,H.output,H.defers,H.size⟩
  .intro n s C;rcases B n s C with⟨x,Q,J⟩|⟨x,rfl,s',Q,J⟩
   .rw[J];exact AE.ext (Ao.refl (λ_=>False) _) (λ_ _ q=>q.elim) (λb _ I=>(P b I).1) _ _ _ _ (λ_ _ q=>q) (H.own n s Q)
   .simp only[W,if_pos x];simp only[AE];refine⟨trivial,AE.freeze (λb _ q=>q.imp (λq=>(P b q).1) id) s' _ _ _ J ?_ (H.own n s' Q)⟩;rintro b I (q|q)
    .obtain⟨_,m,s2,z1,z2,z3⟩:=P b q;exact H.apart n s' m s2 Q z2 (λe=>z1 (e▸x)) b I z3
    .have:=c.hX b q;rcases H.mine n s' Q b I with r|r
     .omega
     .exact this.2 r
  .intro n s C;rcases B n s C with⟨x,Q,J⟩|⟨x,rfl,s',Q,J⟩
   .rw[J];exact H.nodup n s Q
   .simp only[W,if_pos x];exact List.nodup_nil
  .intro n s C b I;obtain⟨⟨n',s',O,L⟩,_⟩:=P b ⟨n,s,C,I⟩;exact H.mine n' s' O b L
  .intro n s m r C i hne b I N;rcases B n s C with⟨x,Q,J⟩|⟨x,_,_⟩
   .rcases B m r i with⟨p1,p2,p3⟩|⟨p1,_,_⟩
    .rw[J]at I;rw[p3]at N;exact H.apart n s m r Q p2 hne b I N
    .simp only[W,if_pos p1]at N;simp at N
   .simp only[W,if_pos x]at I;simp at I
  .intro t l C;have hf':next F o.dst sm (.sl t l):=by
    rcases C with q|q;exact .inl q;obtain⟨f,O,he⟩:=List.mem_map.1 q
    cases f with
    |en n s=>simp[JY]at he
    |sl t' l'=>simp only[JY]at he;rw[<-he];exact .inr O
   have:=H.loc t l hf'
   cases l with
   |is n g=>exact this
   |vc n g=>
    intro i
    obtain⟨b,o,cs,e,T,Y,Z,k3,k4⟩:=this i
    exact⟨b,o,cs,e,T,Y,Z,k3,λq=>k4 (P b q).1⟩
   |ad r p m g=>exact λi M=>this i (G _ M)
   |ip r p m g=>exact λi M=>this i (G _ M)
   |tu ns g=>exact this
   |aw r p g=>exact λi M=>this i (G _ M)
   |ia r m g=>exact λi M=>this i (G _ M)
   |bx n g=>
    intro i
    obtain⟨b,cs,e,T,Y,Z,k3,k4⟩:=this i
    exact⟨b,cs,e,T,Y,Z,k3,λq=>k4 (P b q).1⟩
   |ag r g=>exact λi M=>this i (G _ M)
   |lh n g=>exact this
   |sa n e g=>exact this
   |fv f ns g=>exact this
   |fb f ns g=>
    intro i
    obtain⟨b,cs,e,T,Y,Z,k3,k4⟩:=this i
    exact⟨b,cs,e,T,Y,Z,k3,λq=>k4 (P b q).1⟩
 .exact H
theorem AA2{fx:List Nat}{dst:Option Nat}(h:SR fx dst=true):∀t∈fx,some t≠dst:=by rintro t H rfl;simp[SR,H]at h
theorem AJ9(U:Sound cf sg K)(L:cf.Fits c){k:Nat}{q:Sq}(B:PZ cf sg ops st AA o k=some q)(H:Holds c F E a w)(s:∀j,j<q.it.p.np->Bh F (AA+j))(M:∀f∈q.sm.needs,F f)
  (C:E4 K E AA q.it) {i:Nat} (hi:ops[i]?=some o) {T:Act->World->Prop} {Q:Exit->Act->World->Prop} (R:∀J w',Holds c (next F o.dst q.sm) E J w'->T J w'):
  wpOp c.P ops Q i T a w:=by
 obtain⟨⟨vs,Bs,H⟩,e⟩:=H;unfold PZ at B;simp only[AS]at B;obtain⟨⟨g,ns⟩,N,⟨p,sm⟩,O,B⟩:=B;simp only at B;split at B
 .rename_i b;simp only[AL]at B;subst B;simp only at M C R;obtain⟨W,w2⟩:=AZ0 N rfl H λf G=>M f (BN _ G);unfold E4 at C;simp only at C;unfold wpOp;rw[hi];simp only;split at C
  .rename_i I;rw[if_pos (W I)];left;have V:=AA2 b.2.2.1;refine AcW (Ad3 U O ⟨L,H,s,λf G=>M f (BB _ G),O2.1 I,e⟩ C _ Q λ_ _ h=>h) λJ w' N O=>R J w' ⟨YX b.2.2.2 s N,λx l=>?_⟩;rw[O x.1 (V _ (L.fx x l))];exact e x l
  .rename_i I;rw[if_neg (by rw[w2 I];simp)];refine R _ _ ⟨YX b.2.2.2 s (AaH H b.1 I s C (by rw[L.nt];exact b.2.1) (λf G=>M f (BB _ G))),λx l=>?_⟩;rw[Du (AA2 b.2.2.1 _ (L.fx x l))];exact e x l
  .exact C.elim
 .simp at B
theorem AYA{dst:Option Nat}{k b:List Nat}{f:Fact}:Ee dst (k++b) f=true↔Ee dst k f=true/\Ee none b f=true:=by
 cases f with
 |en n s=>simp[Ee]
 |sl t l=>simp[Ee]
theorem NM{F:Fact->Prop}{dst:Option Nat}{sm:Sm}{f:Fact}:next F dst sm f↔(F f/\Ee dst sm.kill f=true)\/f∈sm.adds:=by
 unfold next
 cases f with
 |en n s=>simp[Ee]
 |sl t l=>simp[Ee]
theorem Vq(hs:Sound cf sg K)(hc:cf.Fits c){k:Nat}{q:Sq}(h:MY cf sg ops st AA o k=some q)(H:Holds c F E a w)(x:∀j,j<q.it.p.np->Bh F (AA+j))(G:∀f∈q.sm.needs,F f)
  (O:E4 K E AA q.it) {i:Nat} (hi:ops[i]?=some o) {Kn:Act->World->Prop} {Q:Exit->Act->World->Prop} (L:∀J w',Holds c (next F o.dst q.sm) E J w'->Kn J w'):
  wpOp c.P ops Q i Kn a w:=by
 unfold MY at h;split at h
 .simp only[AS]at h;obtain⟨I,h1,⟨p2,Z⟩,h2,h⟩:=h;simp only at h;split at h
  .rename_i T;obtain⟨N,c2,c3,c4⟩:=T;simp only[AL]at h;subst h;simp only at G O L x;obtain⟨⟨z1,g1,p1⟩,e,g1'⟩:=I;simp only at N c2 c3 c4 G L h2
   cases p1<;>simp only[Z6]at N<;>try cases N
   have hg:g1=[]:=by simpa using c2
   subst hg;have R:Aw K E AA p2:=by simpa[E4,Cc]using O
   refine AJ9 hs hc h1 H (λj U=>absurd U (by simp[Pr.np])) (λf b=>G f (BN _ b)) (by simp[E4,Cc,Aw]) hi λJ w' H'=>L J w' ?_;obtain⟨⟨vs',Bs',H1⟩,B⟩:=H';have V:∀f∈Z.needs,next F o.dst e f:=by intro f b;rw[NM];by_cases g:f∈e.adds;exact .inr g;refine .inl ⟨G f (BB _ (List.mem_filter.2 ⟨b,by simpa using g⟩)),?_⟩;have:=Aj.1 c3 f b;simp only[Bool.or_eq_true,List.contains_iff_mem]at this;exact this.resolve_left g
   have C:∀j,j<p2.np->Bh (next F o.dst e) (AA+j):=by
    intro j U;have b:=x j U;have key:∀f,next F o.dst e f->AA+j∈f.A6->F f:=by
     intro f W M;rcases NM.1 W with q|q;exact q.1;have:=Aj.1 (Aj.1 c4 f q) _ M;have:AA+j<AA:=by simpa using this
     omega
    refine⟨λs q=>b.1 s (key _ q (by simp[Fact.A6])),λt l q M=>b.2 t l (key _ q (by simpa[Fact.A6]using M)) M⟩
   have hx:=AGG h2 H1 C V R;refine⟨hx.JN λf b=>?_,B⟩;rw[NM]at b;rw[NM,NM];rcases b with⟨I,Y⟩|q
   .obtain⟨q3,q4⟩:=AYA.1 Y;exact .inl ⟨.inl ⟨I,q3⟩,q4⟩
   .rcases Ac.1 q with q|q
    .exact .inr q
    .obtain⟨I,Y⟩:=List.mem_filter.1 q;exact .inl ⟨.inr I,Y⟩
  .cases h
 .exact AJ9 hs hc h H x G O hi L
end
end Go.Cat
namespace Go.Cat
def Kc(st:List Fact)(AA:Nat):Bool:=st.all λf=>f.A6.all λn=>decide (n<AA)
def OI(a b:List Fact):Bool:=a.all λf=>b.contains f
def FM(cf:CF)(sg:Nat->Option Sg)(ops:Array Oper):List Oper->List Fact->Nat->List Nat->Option (List Sq×List Fact×Nat)
 |[],st,AA,_=>some ([],st,AA)
 |o::os,st,AA,h=>(MY cf sg ops st AA o (h.headD 0)).bind λq=>
  if OI q.sm.needs st=true/\Kc st AA=true then
   (FM cf sg ops os (Hi st o.dst q.sm) (AA+q.it.p.np) h.tail).map λr=>(q::r.1,r.2)
  else none
theorem QB{a b:List Fact}(h:OI a b=true):∀f∈a,f∈b:=by intro f H;simp only[OI,Aj,List.contains_eq_mem,Ad]at h;exact h f H
theorem WM{st:List Fact}{AA:Nat}(h:Kc st AA=true){m:Nat}(b:AA<=m):Bh (·∈st) m:=by simp only[Kc,Aj,Ad]at h;constructor;intro s f;have:=h _ f m (by simp[Fact.A6]);omega;intro t l f H;have:=h _ f m (by simpa[Fact.A6]using H);omega
theorem ED.split{K:Nat->List D->List D->Prop}{E:Nat->D}:∀{x y:List It}{AA:Nat},ED K E AA (x++y)->ED K E AA x/\ED K E (AA+DM x) y
 |[],y,AA,h=>⟨trivial,by simpa[DM]using h⟩
 |it::x,y,AA,h=>by simp only[List.cons_append,ED]at h|-;obtain⟨q,Q⟩:=ED.split h.2;refine⟨⟨h.1,q⟩,?_⟩;simpa[DM,Nat.add_assoc]using Q
theorem AHD{cf:CF}{sg:Nat->Option Sg}{ops:Array Oper}:∀{os:List Oper}{st:List Fact}{AA:Nat}{H:List Nat}{r:List Sq}{s:List Fact}{C:Nat},FM cf sg ops os st AA H=some (r,s,C)->C=AA+DM (r.map (·.it))
 |[],st,AA,H,r,s,C,h=>by simp only[FM,AL,AJ]at h;obtain⟨rfl,rfl,rfl⟩:=h;simp[DM]
 |o::os,st,AA,H,r,s,C,h=>by
  simp only[FM,AS]at h;obtain⟨q,g,h⟩:=h;split at h;simp only[Ae,AJ]at h;obtain⟨⟨R,f,c2⟩,e,rfl,b⟩:=h;simp only[AJ]at b;obtain⟨rfl,rfl⟩:=b;have:=AHD e;simp only[List.map_cons,DM];omega
  cases h
section
variable{cf:CF}{sg:Nat->Option Sg}{c:Cx}{E:Nat->D}{K:Nat->List D->List D->Prop}{ops:Array Oper}
theorem Rk(I:Sound cf sg K)(B:cf.Fits c){Q:Exit->Act->World->Prop}:∀(os:List Oper)(i:Nat)(st:List Fact)(AA:Nat)(k:List Nat)(r:List Sq)(s:List Fact)(C:Nat),
  FM cf sg ops os st AA k=some (r,s,C)->(∀j o,os[j]?=some o->ops[i+j]?=some o)->ED K E AA (r.map (·.it))->
  ∀(a:Act)(w:World),Holds c (·∈st) E a w->(∀e w',Holds c (·∈s) E e w'->Q .normal e w')->wpOps c.P ops Q (List.range' i os.length) a w
 |[],i,st,AA,k,r,s,C=>λb _ _ a w H l=>by simp only[FM,AL,AJ]at b;obtain⟨rfl,rfl,rfl⟩:=b;simp only[Aa,List.range'_zero,wpOps];exact l a w H
 |o::os,i,st,AA,k,r,s,C=>λb G g a w H l=>by simp only[FM,AS]at b;obtain⟨q,L,b⟩:=b;split at b;rename_i h;simp only[Ae,AJ]at b;obtain⟨⟨T,R,c2⟩,M,rfl,x⟩:=b;simp only[AJ]at x;obtain⟨rfl,rfl⟩:=x;simp only[List.map_cons,ED]at g;simp only[AO,List.range'_succ];rw[wpOps_cons];refine Vq I B L H (λj _=>WM h.2 (by omega)) (QB h.1) g.1 (by simpa using G 0 o (by simp)) λe w' J=>?_;refine Rk I B os (i+1) _ _ _ _ _ _ M (λj o' O=>?_) g.2 e w' (J.mono λf N=>Q5.1 N) l;have:=G (j+1) o' (by simpa using O);rwa [show i+1+j=i+(j+1)from by omega];simp at b
def HK:List Fact->Nat->List Nat->Option (List Sq×List Fact×Nat×List Nat)
 |st,AA,[]=>some ([],st,AA,[])
 |st,AA,k::h=>if 100000<=k then(Kk st AA k).bind λps=>
   if OI ps.2.needs st=true/\Kc st AA=true then(HK (Hi st none ps.2) (AA+ps.1.np) h).map λr=>(⟨{ p:=ps.1 },ps.2,[]⟩::r.1,r.2)else none
  else some ([],st,AA,k::h)
def Ii(cf:CF)(sg:Nat->Option Sg)(ops:Array Oper):List Oper->List Fact->Nat->List Nat->Option (List Sq×List Fact×Nat)
 |[],st,AA,h=>(HK st AA h).map λr=>(r.1,r.2.1,r.2.2.1)
 |o::os,st,AA,h=>(HK st AA h).bind λr=>(MY cf sg ops r.2.1 r.2.2.1 o (r.2.2.2.headD 0)).bind λq=>
  if OI q.sm.needs r.2.1=true/\Kc r.2.1 r.2.2.1=true then
   (Ii cf sg ops os (Hi r.2.1 o.dst q.sm) (r.2.2.1+q.it.p.np) r.2.2.2.tail).map λz=>(r.1++q::z.1,z.2)
  else none
theorem ALH:∀(x y:List It),DM (x++y)=DM x+DM y
 |[],y=>by simp[DM]
 |it::x,y=>by simp[DM,ALH x y,Nat.add_assoc]
theorem Mg:∀{e:List Nat}{st:List Fact}{AA:Nat}{r:List Sq}{s:List Fact}{C:Nat}{H:List Nat},HK st AA e=some (r,s,C,H)->C=AA+DM (r.map (·.it))
 |[],st,AA,r,s,C,H,h=>by simp only[HK,AL,AJ]at h;obtain⟨rfl,_,rfl,_⟩:=h;simp[DM]
 |k::e,st,AA,r,s,C,H,h=>by
  unfold HK at h;split at h;simp only[AS]at h;obtain⟨ps,i,h⟩:=h;split at h;simp only[Ae,AJ]at h;obtain⟨⟨R,g,c2,j⟩,f,rfl,b⟩:=h;simp only[AJ]at b;obtain⟨rfl,rfl,rfl⟩:=b;have:=Mg f;simp only[List.map_cons,DM];omega
  cases h;simp only[AL,AJ]at h;obtain⟨rfl,_,rfl,_⟩:=h;simp[DM]
theorem Qx{a:Act}{w:World}:∀{l:List Nat}{st:List Fact}{AA:Nat}{r:List Sq}{s:List Fact}{C:Nat}{b:List Nat},HK st AA l=some (r,s,C,b)->ED K E AA (r.map (·.it))->
  Holds c (·∈st) E a w->Holds c (·∈s) E a w
 |[],st,AA,r,s,C,b,h=>λ_ H=>by simp only[HK,AL,AJ]at h;obtain⟨_,rfl,_,_⟩:=h;exact H
 |k::l,st,AA,r,s,C,b,h=>λe H=>by
  unfold HK at h;split at h
  .simp only[AS]at h;obtain⟨⟨p,sm⟩,G,h⟩:=h;simp only at h;split at h
   .rename_i i;simp only[Ae,AJ]at h;obtain⟨⟨R,M,c2,N⟩,I,rfl,g⟩:=h;simp only[AJ]at g;obtain⟨rfl,rfl,rfl⟩:=g;simp only[List.map_cons,ED,E4,Cc]at e;obtain⟨⟨vs,Bs,q⟩,x⟩:=H;have J:=AGG G q (λj _=>WM i.2 (by omega)) (QB i.1) e.1;have B:Holds c (next (·∈st) none sm) E a w:=⟨J,x⟩;exact Qx I e.2 (B.mono λf L=>Q5.1 L)
   cases h
  simp only[AL,AJ]at h;obtain⟨_,rfl,_,_⟩:=h;exact H
theorem AH0:∀{os:List Oper}{st:List Fact}{AA:Nat}{b:List Nat}{r:List Sq}{s:List Fact}{C:Nat},Ii cf sg ops os st AA b=some (r,s,C)->C=AA+DM (r.map (·.it))
 |[],st,AA,b,r,s,C,h=>by simp only[Ii,Ae,AJ]at h;obtain⟨⟨R,e,c2,i⟩,H,rfl,rfl,rfl⟩:=h;exact Mg H
 |o::os,st,AA,b,r,s,C,h=>by
  simp only[Ii,AS]at h;obtain⟨⟨R,e,c2,i⟩,H,q,g,h⟩:=h;simp only at g h;split at h;simp only[Ae,AJ]at h;obtain⟨⟨G,k,l⟩,j,rfl,f⟩:=h;simp only[AJ]at f;obtain⟨rfl,rfl⟩:=f;have x:=Mg H;have B:=AH0 j;simp only[List.map_append,List.map_cons,ALH,DM];omega
  cases h
theorem UG(O:Sound cf sg K)(M:cf.Fits c){Q:Exit->Act->World->Prop}:∀(os:List Oper)(i:Nat)(st:List Fact)(AA:Nat)(B:List Nat)(r:List Sq)(s:List Fact)(C:Nat),
  Ii cf sg ops os st AA B=some (r,s,C)->(∀j o,os[j]?=some o->ops[i+j]?=some o)->ED K E AA (r.map (·.it))->
  ∀(a:Act)(w:World),Holds c (·∈st) E a w->(∀g w',Holds c (·∈s) E g w'->Q .normal g w')->wpOps c.P ops Q (List.range' i os.length) a w
 |[],i,st,AA,B,r,s,C=>λb _ l a w H G=>by simp only[Ii,Ae,AJ]at b;obtain⟨⟨Z,I,c2,U⟩,k,rfl,rfl,rfl⟩:=b;simp only[Aa,List.range'_zero,wpOps];exact G a w (Qx k l H)
 |o::os,i,st,AA,B,r,s,C=>λb N l a w H G=>by simp only[Ii,AS]at b;obtain⟨⟨Z,I,c2,U⟩,k,q,J,b⟩:=b;simp only at J b;split at b;rename_i h;simp only[Ae,AJ]at b;obtain⟨⟨r4,st4,c4⟩,V,rfl,L⟩:=b;simp only[AJ]at L;obtain⟨rfl,rfl⟩:=L;rw[List.map_append]at l;obtain⟨x,e⟩:=l.split;rw[<-Mg k]at e;simp only[List.map_cons,ED]at e;have T:=Qx k x H;simp only[AO,List.range'_succ];rw[wpOps_cons];refine Vq O M J T (λj _=>WM h.2 (by omega)) (QB h.1) e.1 (by simpa using N 0 o (by simp)) λg w' R=>?_;refine UG O M os (i+1) _ _ _ _ _ _ V (λj o' Y=>?_) e.2 g w' (R.mono λf W=>Q5.1 W) G;have:=N (j+1) o' (by simpa using Y);rwa [show i+1+j=i+(j+1)from by omega];simp at b
def LU(cf:CF)(sg:Nat->Option Sg):List (Nat×Array Oper×List Nat)->List Fact->Nat->Option (List Sq×List Fact×Nat)
 |[],st,AA=>some ([],st,AA)
 |x::l,st,AA=>(Ii cf sg x.2.1 x.2.1.toList st AA x.2.2).bind λr=>(LU cf sg l r.2.1 r.2.2).map λq=>(r.1++q.1,q.2)
def NB:List (Nat×Array Oper×List Nat)->Code->Code
 |[],d=>d
 |x::l,d=>.seq (.region x.1 x.2.1 false) (NB l d)
theorem ZS(I:Sound cf sg K)(G:cf.Fits c){e:Exit->Act->World->Prop}{d:Code}:∀(l:List (Nat×Array Oper×List Nat))(st:List Fact)(AA:Nat)(r:List Sq)(s:List Fact)(C:Nat),LU cf sg l st AA=some (r,s,C)->
  ED K E AA (r.map (·.it))->∀(a:Act)(w:World),Holds c (·∈st) E a w->(∀g w',Holds c (·∈s) E g w'->d.wp c.P e g w')->(NB l d).wp c.P e a w
 |[],st,AA,r,s,C=>λb _ a w H k=>by simp only[LU,AL,AJ]at b;obtain⟨_,rfl,_⟩:=b;exact k a w H
 |x::l,st,AA,r,s,C=>λb B a w H k=>by simp only[LU,AS,Ae,AJ]at b;obtain⟨⟨U,O,T⟩,i,⟨V,R,c2⟩,M,rfl,q⟩:=b;simp only[AJ]at q;obtain⟨rfl,rfl⟩:=q;rw[List.map_append]at B;obtain⟨f,h⟩:=B.split;rw[<-AH0 i]at h;simp only[NB];refine wp_seq (wp_region ?_);rw[List.range_eq_range'];have:=UG I G (Q:=Exit.then ((NB l d).wp c.P e) e) x.2.1.toList 0 _ _ _ _ _ _ i (λj o N=>by simpa using N) f a w H λL W J=>ZS I G l _ _ _ _ _ M h L W J k;simpa using this
end
end Go.Cat
namespace Go.Cat
structure Rc where
 q:Sq
 AA:Nat
 dst:Option Nat
def C8:Nat->List Oper->List Sq->List Rc
 |AA,o::os,q::qs=>⟨q,AA,o.dst⟩::C8 (AA+q.it.p.np) os qs
 |_,_,_=>[]
def Rc.JK(r:Rc)(f:Fact):Bool:=!Ee r.dst r.q.sm.kill f
def Rc.AC9(r:Rc)(n:Nat):Bool:=decide (r.AA<=n/\n<r.AA+r.q.it.p.np)
def LM(x y:Rc):Bool:=
 x.q.sm.adds.any (y.q.sm.needs.contains ·)||x.q.sm.needs.any y.JK||y.q.sm.adds.any x.JK||y.q.sm.adds.any λf=>f.A6.any x.AC9
def G2(o:Oper):List Nat:=(o.after.toList.filter (Region.binds .any)).map (·.on)
def RK(acc:List Nat)(b:List Nat):Nat:=b.foldr (λd s=>s|||2^d|||acc.getD d 0) 0
def Jr:List Nat->List Oper->List Nat
 |acc,[]=>acc
 |acc,o::os=>Jr (acc++[RK acc (G2 o)]) os
def Rz(rs:List Rc)(bf:List Nat):Bool:=
 rs.zipIdx.all λy=>rs.zipIdx.all λx=>if x.2<y.2 then !LM x.1 y.1||(bf.getD y.2 0).testBit x.2 else true
def ZQ(os:List Oper):Bool:=os.zipIdx.all λx=>(G2 x.1).all λd=>decide (d<x.2)
def TG(st:List Fact)(AA:Nat)(os:List Oper)(qs:List Sq):Bool:=
 let rs:=C8 AA os qs
 Rz rs (Jr [] os)&&ZQ os&&(rs.all λr=>r.q.sm.adds.all λf=>f.A6.all λn=>decide (n<r.AA+r.q.it.p.np))&&Kc st AA
theorem AX1{acc s:List Nat}{i:Nat}(h:(RK acc s).testBit i=true):∃d∈s,i=d\/(acc.getD d 0).testBit i=true:=by
 induction s with
 |nil=>simp[RK]at h
 |cons d s I=>
  simp only[RK,List.foldr_cons,Nat.testBit_or,Bool.or_eq_true]at h
  rcases h with(h|h)|h
  .obtain⟨b,hd,q⟩:=I h
   exact⟨b,BL _ hd,q⟩
  .rw[Nat.testBit_two_pow]at h
   have H:d=i:=by simpa using h
   exact⟨d,List.mem_cons_self ..,.inl H.symm⟩
  .exact⟨d,List.mem_cons_self ..,.inr h⟩
theorem UB{S:Nat->Prop}{all:List Oper}(hd:∀k o,all[k]?=some o->∀d∈G2 o,d<k)(C:∀k o,S k->all[k]?=some o->∀d∈G2 o,S d):
  ∀(os pre:List Oper)(acc:List Nat),all=pre++os->acc.length=pre.length->
   (∀k o,k<pre.length->all[k]?=some o->(∀d∈G2 o,S d)->∀i,(acc.getD k 0).testBit i=true->S i)->
   ∀k o,all[k]?=some o->(∀d∈G2 o,S d)->∀i,((Jr acc os).getD k 0).testBit i=true->S i
 |[],pre,acc=>λf x h k o j=>by
  simp only[Jr]
  refine h k o ?_ j
  subst f
  rcases B7 k pre.length with q|q
  exact q
  simp[D7 q]at j
 |o::os,pre,acc=>λf x h=>by
  simp only[Jr]
  refine UB hd C os (pre++[o]) _ (by simp[f]) (by simp[x]) ?_
  intro k o' j e H i hi
  simp only[AZ,AO,Aa]at j
  rcases B7 k pre.length with q|q
  rw[Ap,DP (by omega),<-Ap]at hi
  exact h k o' q e H i hi
  have s:k=pre.length:=by omega
  subst s
  have B:o'=o:=by
   have:=e
   rw[f]at this
   simp at this
   exact this.symm
  subst B
  rw[Ap,GK (by omega)]at hi
  simp only[x,Nat.sub_self,List.getElem?_cons_zero,Option.getD_some]at hi
  obtain⟨d,b,hi⟩:=AX1 hi
  rcases hi with rfl|hi
  exact H _ b
  have l:d<pre.length:=hd _ _ e d b
  have:∃O,all[d]?=some O:=by
   refine⟨all[d]'(by rw[f];simp;omega),by simp⟩
  obtain⟨O,g⟩:=this
  exact h d O l g (C d O (H d b) g) i hi
section
variable(st:List Fact)(rs:List Rc)
def kl(i:Nat)(f:Fact):Prop:=∃r,rs[i]?=some r/\r.JK f=true
def H4(S:Nat->Prop)(f:Fact):Prop:=
 (f∈st/\∀i,S i->¬kl rs i f)\/∃j r,S j/\rs[j]?=some r/\f∈r.q.sm.adds/\∀i,S i->j<i->¬kl rs i f
end
section
variable{cf:CF}{sg:Nat->Option Sg}{E:Nat->D}{K:Nat->List D->List D->Prop}{ops:Array Oper}
theorem AMT{st0:List Fact}{rs:List Rc}:∀(os:List Oper)(i:Nat)(st:List Fact)(AA:Nat)(U:List Nat)(r:List Sq)(B:List Fact)(C:Nat),
  FM cf sg ops os st AA U=some (r,B,C)->(∀j x,(C8 AA os r)[j]?=some x->rs[i+j]?=some x)->rs.length=i+os.length->ED K E AA (r.map (·.it))->
  (∀f∈st,H4 st0 rs (· < i) f)->
  (∀j x o,(C8 AA os r)[j]?=some x->os[j]?=some o->(∃V h,MY cf sg ops V x.AA o h=some x.q)/\x.dst=o.dst/\(∀f∈x.q.sm.needs,H4 st0 rs (· < i+j) f)/\E4 K E x.AA x.q.it/\AA<=x.AA)/\
  (∀f∈B,H4 st0 rs (· < i+os.length) f)/\(C8 AA os r).length=os.length
 |[],i,st,AA,U,r,B,C=>λH _ _ _ g=>by
  simp only[FM,AL,AJ]at H
  obtain⟨rfl,rfl,rfl⟩:=H
  refine⟨by simp[C8],by simpa using g,by simp[C8]⟩
 |o::os,i,st,AA,U,r,B,C=>λH N L T g=>by
  simp only[FM,AS]at H
  obtain⟨q,h1,H⟩:=H
  split at H
  rename_i G
  simp only[Ae,AJ]at H
  obtain⟨⟨r2,st2,c2⟩,h2,rfl,W⟩:=H
  simp only[AJ]at W
  obtain⟨rfl,rfl⟩:=W
  simp only[List.map_cons,ED]at T
  have h0:rs[i]?=some ⟨q,AA,o.dst⟩:=by simpa using N 0 _ (by simp[C8])
  have O:∀f∈Hi st o.dst q.sm,H4 st0 rs (· < i+1) f:=by
   intro f I
   rcases Q5.1 I with⟨k1,Y⟩|k
   have M:¬kl rs i f:=by
    rintro⟨x,Q,J⟩
    rw[h0]at Q
    injection Q with Q
    subst Q
    simp only[Rc.JK,Bool.not_eq_true']at J
    cases f with
    |en n s=>simp[Ee]at J;exact Y J
    |sl t l=>simp[Ee]at J;exact Y J
   rcases g f k1 with⟨R,a2⟩|⟨j,x,R,a2,Z,a4⟩
   refine .inl ⟨R,λm P=>?_⟩
   rcases B7 m i with h|h
   exact a2 m h
   have:m=i:=by omega
   subst this;exact M
   refine .inr ⟨j,x,by show j<i+1;have:j<i:=R;omega,a2,Z,λm P b=>?_⟩
   rcases B7 m i with h|h
   exact a4 m h b
   have:m=i:=by have:m<i+1:=P;omega
   subst this;exact M
   refine .inr ⟨i,_,by show i<i+1;omega,h0,k,λm P b=>?_⟩
   have:m<i+1:=P
   omega
  obtain⟨b1,b2,b3⟩:=AMT os (i+1) _ _ _ _ _ _ h2 (λj x b=>by
   have:=N (j+1) x (by simpa[C8]using b)
   rwa [show i+1+j=i+(j+1)from by omega]) (by simp at L;omega) T.2 O
  refine⟨?_,?_,by simp[C8,b3]⟩
  intro j x o' b e
  cases j with
  |zero=>
   simp only[C8,List.getElem?_cons_zero,AL]at b e
   subst b e
   exact⟨⟨st,_,h1⟩,rfl,λf I=>g f (QB G.1 f I),T.1,Nat.le_refl _⟩
  |succ j=>
   simp only[C8,List.getElem?_cons_succ]at b e
   obtain⟨c1,c2,c3,c4,c5⟩:=b1 j x o' b e
   refine⟨c1,c2,λf I=>?_,c4,by omega⟩
   have:=c3 f I
   rwa [show i+1+j=i+(j+1)from by omega]at this
  intro f I
  have:=b2 f I
  simp only[AO]
  rwa [show i+1+os.length=i+(os.length+1)from by omega]at this
  simp at H
theorem AHJ:∀(os:List Oper)(qs:List Sq)(AA:Nat)(j k:Nat)(x y:Rc),(C8 AA os qs)[j]?=some x->(C8 AA os qs)[k]?=some y->j<k->x.AA+x.q.it.p.np<=y.AA
 |[],_,_,_,_,_,_=>λh=>by simp[C8]at h
 |_::_,[],_,_,_,_,_=>λh=>by simp[C8]at h
 |o::os,q::qs,AA,j,k,x,y=>λH b e=>by
  cases k with
  |zero=>omega
  |succ k=>
   simp only[C8,List.getElem?_cons_succ]at b
   cases j with
   |zero=>
    simp only[C8,List.getElem?_cons_zero,AL]at H
    subst H
    have:∀(os:List Oper)(qs:List Sq)(AA:Nat)(k:Nat)(y:Rc),(C8 AA os qs)[k]?=some y->AA<=y.AA:=by
     intro os
     induction os with
     |nil=>intro qs AA k y h;simp[C8]at h
     |cons o os i=>
      intro qs AA k y h
      cases qs with
      |nil=>simp[C8]at h
      |cons q qs=>
       cases k with
       |zero=>simp only[C8,List.getElem?_cons_zero,AL]at h;subst h;exact Nat.le_refl _
       |succ k=>simp only[C8,List.getElem?_cons_succ]at h;have:=i _ _ _ _ h;omega
    exact this _ _ _ _ _ b
   |succ j=>
    simp only[C8,List.getElem?_cons_succ]at H
    exact AHJ os qs _ j k x y H b (by omega)
theorem Py{rs:List Rc}{bf:List Nat}(h:Rz rs bf=true){i k:Nat}{x y:Rc}(f:rs[i]?=some x)(g:rs[k]?=some y)(H:i<k)(e:LM x y=true):(bf.getD k 0).testBit i=true:=by simp only[Rz,Aj]at h;have b:=h (y,k) (List.mem_zipIdx_iff_getElem?.2 g) (x,i) (List.mem_zipIdx_iff_getElem?.2 f);simp only[if_pos H,e,Bool.not_true,Bool.false_or]at b;exact b
end
section
variable{cf:CF}{sg:Nat->Option Sg}{c:Cx}{E:Nat->D}{K:Nat->List D->List D->Prop}{ops:Array Oper}
theorem Rc.AIB{r:Rc}{F:Fact->Prop}{f:Fact}(H:F f)(h:¬r.JK f=true):next F r.dst r.q.sm f:=by
 left;refine⟨H,?_⟩
 cases f<;>simp[Rc.JK,Ee]at h|-<;>exact h
theorem AUF(hs:Sound cf sg K)(hc:cf.Fits c){st:List Fact}{AA:Nat}{hh:List Nat}{qs:List Sq}{st':List Fact}{cnt':Nat}
  (ht:FM cf sg ops ops.toList st AA hh=some (qs,st',cnt')) (hd:TG st AA ops.toList qs=true) (hE:ED K E AA (qs.map (·.it)))
  {Q:Exit->Act->World->Prop} (hq:∀a' w',Holds c (·∈st') E a' w'->Q .normal a' w'):
  ∀(fuel:Nat)(L:Array Bool)(a:Act)(w:World),L.size=ops.size->((List.range ops.size).filter λi=>!L.getD i true).length<=fuel->
   (∀k o,L.getD k false=true->ops.toList[k]?=some o->∀d∈G2 o,L.getD d false=true)->
   Holds c (H4 st (C8 AA ops.toList qs) (λi=>L.getD i false=true)) E a w->wpAny c.P .any ops Q fuel L a w:=by
 simp only[TG,AU,Aj,Ad]at hd;obtain⟨⟨⟨B,hdeps⟩,hment⟩,hbd⟩:=hd;have hrl:(C8 AA ops.toList qs).length=0+ops.toList.length:=by
  have:∀(os:List Oper)(st:List Fact)(AA:Nat)(hh:List Nat)(qs:List Sq)(x:List Fact×Nat),FM cf sg ops os st AA hh=some (qs,x)->(C8 AA os qs).length=os.length:=by
   intro os;induction os with
   |nil=>intro st AA hh qs x h;simp[C8]
   |cons o os ih=>
    intro st AA hh qs x h
    simp only[FM,AS]at h
    obtain⟨q,_,h⟩:=h
    split at h
    .simp only[Ae,AJ]at h
     obtain⟨⟨r2,x2⟩,h2,rfl,_⟩:=h
     simp[C8,ih _ _ _ _ _ h2]
    .simp at h
  rw[this _ _ _ _ _ _ ht];omega
 obtain⟨hA,hfin,_⟩:=AMT (st0:=st) (rs:=C8 AA ops.toList qs) ops.toList 0 st AA hh qs st' cnt' ht (λj x hj=>by simpa using hj) hrl hE
  (λf J=>.inl ⟨J,λi hi=>by simp at hi⟩)
 generalize hrs:C8 AA ops.toList qs=rs at*;simp only[Nat.zero_add]at hA hfin hrl;have C:∀k o,ops.toList[k]?=some o->∀d∈G2 o,d<k:=by simp only[ZQ,Aj,Ad]at hdeps;intro k o ho d hd;exact hdeps (o,k) (List.mem_zipIdx_iff_getElem?.2 ho) d hd
 have hopl:∀k,k<ops.size->∃o,ops.toList[k]?=some o/\ops[k]?=some o:=λk b=>⟨ops[k],by simp[b],by simp[b]⟩;have hrc:∀k,k<ops.size->∃x,rs[k]?=some x:=λk b=>⟨rs[k]'(by rw[hrl];simpa using b),by simp⟩;have U:∀{k:Nat}{x:Rc},rs[k]?=some x->k<ops.size:=by intro k x h;rcases B7 k rs.length with q|q;rw[hrl]at q;simpa using q;rw[D7 q]at h;simp at h
 intro fuel;induction fuel with
 |zero=>
  intro L a w hsz J hcl H
  have V:∀k,k<ops.size->L.getD k false=true:=by
   intro k b
   cases hlk:L.getD k false with
   |true=>rfl
   |false=>
    have h0:(List.range ops.size).filter (λi=>!L.getD i true)=[]:=by
     exact Dd (by omega)
    have:k∈(List.range ops.size).filter (λi=>!L.getD i true):=by
     simp only[List.mem_filter,List.mem_range,b,true_and]
     rw[CX]at hlk|-
     rw[Array.getElem?_eq_getElem (by omega)]at hlk|-
     simp at hlk|-
     exact hlk
    rw[h0]at this;simp at this
  refine⟨?_,hq a w (H.mono λf J=>?_)⟩
  .unfold Region.ready
   rw[List.filter_eq_nil_iff]
   intro i hi
   have M:i<ops.size:=by simpa using hi
   have:=V i M
   rw[CX]at this
   rw[CX]
   rw[Array.getElem?_eq_getElem (by omega)]at this|-
   simp at this|-
   simp[this]
  .rcases hfin f J with⟨I,a2⟩|⟨j,x,I,a2,Y,a4⟩
   .refine .inl ⟨I,λi _ b=>?_⟩
    obtain⟨x,T,b⟩:=b
    exact a2 i (by simpa using U T) ⟨x,T,b⟩
   .refine .inr ⟨j,x,V j (U a2),a2,Y,λi _ hj b=>?_⟩
    obtain⟨y,hy,b⟩:=b
    exact a4 i (by simpa using U hy) hj ⟨y,hy,b⟩
 |succ fuel ih=>
  intro L a w hsz J hcl H
  have key:∀k,k<ops.size->L.getD k false=false\/L.getD k false=true:=λk _=>by cases L.getD k false<;>simp
  have toT:∀k,k<ops.size->L.getD k true=L.getD k false:=by
   intro k b
   rw[CX,CX,Array.getElem?_eq_getElem (by omega)]
   rfl
  refine⟨λhr=>?_,?_⟩
  ·
   have V:∀k,k<ops.size->L.getD k false=true:=by
    intro k
    induction k using Nat.strongRecOn with
    |_ k ihk=>
     intro b
     rcases key k b with h|h
     .exfalso
      have:k∈Region.ready .any ops L:=by
       unfold Region.ready
       simp only[List.mem_filter,List.mem_range,b,true_and,AU]
       refine⟨by rw[toT k b,h];rfl,?_⟩
       obtain⟨o,ho1,ho2⟩:=hopl k b
       rw[ho2]
       simp only[Option.map_some,Option.getD_some]
       rw[<-Array.all_toList]
       simp only[Aj,Bool.or_eq_true,Bool.not_eq_true']
       intro e he
       cases hb:Region.binds .any e with
       |false=>left;rfl
       |true=>
        right
        have hd:e.on∈G2 o:=by
         simp only[G2,List.mem_map,List.mem_filter]
         exact⟨e,⟨he,hb⟩,rfl⟩
        have:=C k o ho1 _ hd
        exact ihk e.on this (by omega)
      rw[hr]at this;simp at this
     .exact h
   refine hq a w (H.mono λf J=>?_)
   rcases hfin f J with⟨I,a2⟩|⟨j,x,I,a2,Y,a4⟩
   .refine .inl ⟨I,λi _ b=>?_⟩
    obtain⟨x,T,b⟩:=b
    exact a2 i (by simpa using U T) ⟨x,T,b⟩
   .refine .inr ⟨j,x,V j (U a2),a2,Y,λi _ hj b=>?_⟩
    obtain⟨y,hy,b⟩:=b
    exact a4 i (by simpa using U hy) hj ⟨y,hy,b⟩
  .intro k b
   unfold Region.ready at b
   simp only[List.mem_filter,List.mem_range,AU]at b
   obtain⟨hkl,hkn,hkd⟩:=b
   obtain⟨o,ho1,ho2⟩:=hopl k hkl
   obtain⟨x,T⟩:=hrc k hkl
   have N:L.getD k false=false:=by rw[toT k hkl]at hkn;simpa using hkn
   rw[ho2]at hkd
   simp only[Option.map_some,Option.getD_some]at hkd
   rw[<-Array.all_toList]at hkd
   simp only[Aj,Bool.or_eq_true,Bool.not_eq_true']at hkd
   have W:∀d∈G2 o,L.getD d false=true:=by
    intro d hd
    simp only[G2,List.mem_map,List.mem_filter]at hd
    obtain⟨e,⟨he,hb⟩,rfl⟩:=hd
    rcases hkd e he with h|h
    rw[hb]at h;simp at h
    exact h
   have hbef:∀i,((Jr [] ops.toList).getD k 0).testBit i=true->L.getD i false=true:=
    UB (S:=λi=>L.getD i false=true) C hcl ops.toList [] [] rfl rfl (λk _ h=>by simp at h) k o ho1 W
   have Z:∀i y,rs[i]?=some y->L.getD i false=true->k<i->((Jr [] ops.toList).getD i 0).testBit k=true->False:=by
    intro i y hy hi _ hb
    obtain⟨oi,O,_⟩:=hopl i (U hy)
    have:=UB (S:=λi=>L.getD i false=true) C hcl ops.toList [] [] rfl rfl (λk _ h=>by simp at h) i oi O (hcl i oi hi O) k hb
    rw[N]at this;simp at this
   obtain⟨⟨stj,h,h1⟩,h2,h3,h4,h5⟩:=hA k x o T ho1
   have hneeds:∀f∈x.q.sm.needs,H4 st rs (λi=>L.getD i false=true) f:=by
    intro f J
    have later:∀i,L.getD i false=true->k<i->¬kl rs i f:=by
     rintro i hi G ⟨y,hy,b⟩
     refine Z i y hy hi G (Py B T hy G ?_)
     simp only[LM,Bool.or_eq_true,List.any_eq_true]
     exact .inl (.inl (.inr ⟨f,J,b⟩))
    rcases h3 f J with⟨I,a2⟩|⟨j,y,I,a2,Y,a4⟩
    refine .inl ⟨I,λi hi=>?_⟩
    rcases Nat.lt_trichotomy i k with q|q|q
    exact a2 i q
    subst q;have M:L.getD i false=true:=hi;rw[N]at M;simp at M
    exact later i hi q
    have a1':j<k:=I
    refine .inr ⟨j,y,hbef j (Py B a2 T a1' ?_),a2,Y,λi hi hj=>?_⟩
    simp only[LM,Bool.or_eq_true,List.any_eq_true]
    exact .inl (.inl (.inl ⟨f,Y,by simpa using J⟩))
    rcases Nat.lt_trichotomy i k with q|q|q
    exact a4 i q hj
    subst q;have M:L.getD i false=true:=hi;rw[N]at M;simp at M
    exact later i hi q
   have hfresh:∀j,j<x.q.it.p.np->Bh (H4 st rs (λi=>L.getD i false=true)) (x.AA+j):=by
    intro j hj
    have hno:∀f,H4 st rs (λi=>L.getD i false=true) f->x.AA+j∉f.A6:=by
     rintro f (⟨I,_⟩|⟨i,y,I,a2,Y,_⟩) hm
     simp only[Kc,Aj,Ad]at hbd
     have:=hbd f I _ hm
     omega
     rcases Nat.lt_trichotomy i k with q|q|q
     have:=hment y (List.mem_of_getElem? a2) f Y _ hm
     have:=AHJ ops.toList qs AA i k y x (by rw[hrs];exact a2) (by rw[hrs];exact T) q
     omega
     subst q;have a1':L.getD i false=true:=I;rw[N]at a1';simp at a1'
     refine Z i y a2 I q (Py B T a2 q ?_)
     simp only[LM,Bool.or_eq_true,List.any_eq_true]
     exact .inr ⟨f,Y,x.AA+j,hm,by simp[Rc.AC9];omega⟩
    exact⟨λs J=>hno _ J (by simp[Fact.A6]),λt l J hm=>hno _ J (by simpa[Fact.A6]using hm)⟩
   refine Vq hs hc h1 H hfresh hneeds h4 ho2 λa' w' H'=>?_
   have g:∀i,(L.setIfInBounds k true).getD i false=true↔(i=k\/L.getD i false=true):=by
    intro i
    simp only[CX,Array.getElem?_setIfInBounds]
    by_cases R:k=i
    subst R;simp[show k<L.size by omega]
    simp only[if_neg R]
    constructor
    intro h;exact .inr h
    rintro(h|h)
    exact(R h.symm).elim
    exact h
   refine ih _ a' w' (by simpa using hsz) ?_ ?_ (H'.mono λf J=>?_)
   ·
    have hsub:((List.range ops.size).filter λi=>!(L.setIfInBounds k true).getD i true).length<((List.range ops.size).filter λi=>!L.getD i true).length:=by
     have e:((List.range ops.size).filter λi=>!(L.setIfInBounds k true).getD i true)=((List.range ops.size).filter λi=>!L.getD i true).filter (λi=>decide (i≠k)):=by
      rw[List.filter_filter]
      apply List.filter_congr
      intro i hi
      have M:i<ops.size:=by simpa using hi
      simp only[CX,Array.getElem?_setIfInBounds]
      by_cases R:k=i
      subst R;simp[show k<L.size by omega]
      have:i≠k:=λe=>R e.symm
      simp[if_neg R,this]
     rw[e]
     have hmem:k∈(List.range ops.size).filter λi=>!L.getD i true:=by
      simp only[List.mem_filter,List.mem_range,hkl,true_and]
      exact hkn
     exact List.length_filter_lt_length_iff_exists.2 ⟨k,hmem,by simp⟩
    omega
   .intro i oi hi O d hd
    rw[g]at hi|-
    right
    rcases hi with rfl|hi
    .rw[ho1]at O;injection O with O;subst O;exact W d hd
    .exact hcl i oi hi O d hd
   ·
    rcases J with⟨I,a2⟩|⟨j,y,I,a2,Y,a4⟩
    .have hk1:H4 st rs (λi=>L.getD i false=true) f:=.inl ⟨I,λi hi=>a2 i ((g i).2 (.inr hi))⟩
     have hk2:¬x.JK f=true:=λq=>a2 k ((g k).2 (.inl rfl)) ⟨x,T,q⟩
     rw[<-h2]
     exact Rc.AIB hk1 hk2
    .rcases(g j).1 I with rfl|b1
     .rw[T]at a2;injection a2 with a2;subst a2
      exact .inr Y
     .have hk1:H4 st rs (λi=>L.getD i false=true) f:=.inr ⟨j,y,b1,a2,Y,λi hi=>a4 i ((g i).2 (.inr hi))⟩
      have hk2:¬x.JK f=true:=by
       intro q
       rcases Nat.lt_trichotomy j k with G|G|G
       exact a4 k ((g k).2 (.inl rfl)) G ⟨x,T,q⟩
       subst G;have b1':L.getD j false=true:=b1;rw[N]at b1';simp at b1'
       refine Z j y a2 b1 G (Py B T a2 G ?_)
       simp only[LM,Bool.or_eq_true,List.any_eq_true]
       exact .inl (.inr ⟨f,Y,q⟩)
      rw[<-h2]
      exact Rc.AIB hk1 hk2
end
end Go.Cat
namespace Go.Cat
abbrev VT:=List (Nat×Sh)
abbrev HL:=List (Nat×List Nat)
def Nr(L:Nat):Nat->VT->List Fact
 |_,[]=>[]
 |i,(t,s)::r=>(if L.testBit i then [.sl t (.is i []),.en i s]else [])++Nr L (i+1) r
def Bw(vt:VT)(L:Nat):List Fact:=Nr L 0 vt
theorem YL{L:Nat}{f:Fact}:∀{vt:VT}{i:Nat},f∈Nr L i vt↔∃j t s,vt[j]?=some (t,s)/\L.testBit (i+j)=true/\(f=.sl t (.is (i+j) [])\/f=.en (i+j) s)
 |[],i=>by simp[Nr]
 |(t,s)::r,i=>by
  simp only[Nr,Ac,YL (vt:=r)];constructor;rintro(h|⟨j,T,s',H,b,e⟩);split at h;rename_i hL;refine⟨0,t,s,by simp,hL,?_⟩;simpa using h;simp at h;exact⟨j+1,T,s',by simpa using H,by rwa [show i+(j+1)=i+1+j from by omega],by rwa [show i+(j+1)=i+1+j from by omega]⟩;rintro⟨j,T,s',H,b,e⟩
  cases j with
  |zero=>
   simp only[List.getElem?_cons_zero,AL,AJ]at H
   obtain⟨rfl,rfl⟩:=H
   left
   simp only[Nat.add_zero]at b e
   rw[if_pos b]
   simpa using e
  |succ j=>
   right
   exact⟨j,T,s',by simpa using H,by rwa [show i+1+j=i+(j+1)from by omega],by rwa [show i+1+j=i+(j+1)from by omega]⟩
theorem D6{vt:VT}{L:Nat}{f:Fact}:f∈Bw vt L↔∃i t s,vt[i]?=some (t,s)/\L.testBit i=true/\(f=.sl t (.is i [])\/f=.en i s):=by unfold Bw;rw[YL];simp
theorem Gg{vt:VT}{L b:Nat}(h:∀i,b.testBit i=true->L.testBit i=true):∀f,f∈Bw vt b->f∈Bw vt L:=by intro f j;obtain⟨i,t,s,H,e,g⟩:=D6.1 j;exact D6.2 ⟨i,t,s,H,h i e,g⟩
def Ix(a b:Nat):Bool:=a&&&b==a
theorem Uu{a b:Nat}(h:Ix a b=true)(i:Nat)(e:a.testBit i=true):b.testBit i=true:=by
 have H:a&&&b=a:=by simpa[Ix]using h
 have:=congrArg (λx=>Nat.testBit x i) H;simp only[Nat.testBit_and,e,Bool.true_and]at this;exact this
theorem Holds.congr{c:Cx}{vt:VT}{L:Nat}{E E':Nat->D}{a:Act}{w:World}(h:Holds c (·∈Bw vt L) E a w)(B:∀i t s,vt[i]?=some (t,s)->L.testBit i=true->E' i=E i):
  Holds c (·∈Bw vt L) E' a w:=by
 obtain⟨⟨vs,Bs,H⟩,x⟩:=h;refine⟨⟨vs,Bs,?_,H.nodup,H.mine,H.apart,?_,H.agr,H.os,H.tape,H.output,H.defers,H.size⟩,x⟩
 .intro n s f;obtain⟨i,t,s',j,k,b⟩:=D6.1 f;have:=H.own n s f;rcases b with b|b
  .simp at b
  .injection b with e g;subst e g;rw[B n t s j k];exact this
 .intro t l f;obtain⟨i,T,s',j,k,b⟩:=D6.1 f;have:=H.loc t l f;rcases b with b|b
  .injection b with e g;subst e g;refine⟨λ_=>this.1 (by simp[Am]),λq=>(q (by simp[Am])).elim⟩
  .simp at b
def Sh.Eg:Sh->Bool
 |.v=>false
 |.y=>false
 |_=>true
theorem Sh.Kf{s:Sh}(h:¬s.Eg=true):s=.v\/s=.y:=by cases s<;>simp[Sh.Eg]at h|-
def JJ(st:List Fact)(mask:Nat):Nat->VT->Option (List (Option Nat))
 |_,[]=>some []
 |i,(t,s)::r=>(JJ st mask (i+1) r).bind λo=>
  if mask.testBit i then
   match Bm st t with
   |some (.is n [])=>match CB st n with
    |some s'=>if s'=s\/(s=.v/\s'.okF=true)\/(s=.y/\s'.okF=true)then some (some n::o)else none
    |none=>none
   |_=>none
  else some (none::o)
def Df:List (Option Nat)->VT->List Nat
 |some n::o,(_,s)::r=>if s.Eg=true then n::Df o r else Df o r
 |none::o,_::r=>Df o r
 |_,_=>[]
def Gl:List (Option Nat)->VT->List Nat
 |some n::o,(_,s)::r=>if s.Eg=true then Gl o r else n::Gl o r
 |none::o,_::r=>Gl o r
 |_,_=>[]
def VI(st:List Fact)(AA:Nat)(h:List Nat):Option (List Sq×List Fact×Nat×List Nat):=match h with
 |k::_=>if 500000<=k/\k<600000 then HK st AA h else some ([],st,AA,h)
 |[]=>some ([],st,AA,[])
def SN(cf:CF)(sg:Nat->Option Sg)(vt:VT)(ops:Array Oper)(draw:Bool)(L:Nat)(h:Nat×List Nat):Option S:=
 (VI (Bw vt L) vt.length h.2).bind λP=>(FM cf sg ops ops.toList P.2.1 P.2.2.1 P.2.2.2).bind λr=>
  (JJ r.2.1 h.1 0 vt).bind λout=>
   if MD vt.length ((P.1++r.1).map (·.it))=true/\(!draw||TG P.2.1 P.2.2.1 ops.toList r.1)=true/\(Df out vt).Nodup/\((Df out vt).all λn=>!(Gl out vt).contains n)=true then
    some (.reg ((P.1++r.1).map (·.it)) out)
   else none
theorem AQR{c:Cx}{E:Nat->D}{K:Nat->List D->List D->Prop}{st s:List Fact}{AA C:Nat}{h e:List Nat}{r:List Sq}(b:VI st AA h=some (r,s,C,e)):
  C=AA+DM (r.map (·.it))/\(ED K E AA (r.map (·.it))->∀{a:Act}{w:World},Holds c (·∈st) E a w->Holds c (·∈s) E a w):=by
 unfold VI at b;split at b
 .split at b
  .exact⟨Mg b,λf _ _ H=>Qx b f H⟩
  .simp only[AL,AJ]at b;obtain⟨rfl,rfl,rfl,_⟩:=b;exact⟨by simp[DM],λ_ _ _ H=>H⟩
 .simp only[AL,AJ]at b;obtain⟨rfl,rfl,rfl,_⟩:=b;exact⟨by simp[DM],λ_ _ _ H=>H⟩
theorem Ki{st:List Fact}{mask:Nat}:∀{vt:VT}{i:Nat}{out:List (Option Nat)},JJ st mask i vt=some out->out.length=vt.length/\
  ∀j t s,vt[j]?=some (t,s)->mask.testBit (i+j)=true->∃n s',out[j]?=some (some n)/\Fact.sl t (.is n [])∈st/\Fact.en n s'∈st/\(s'=s\/(s=.v/\s'.okF=true)\/(s=.y/\s'.okF=true))
 |[],i,out,h=>by simp only[JJ,AL]at h;subst h;simp
 |(t,s)::r,i,out,h=>by
  simp only[JJ,AS]at h;obtain⟨o,C,h⟩:=h;obtain⟨l,x⟩:=Ki C;split at h;rename_i B;split at h;rename_i n I;split at h;rename_i s' e;split at h;rename_i G;simp only[AL]at h;subst h;refine⟨by simp[l],λj T s2 H b=>?_⟩
  cases j with
  |zero=>
   simp only[List.getElem?_cons_zero,AL,AJ]at H
   obtain⟨rfl,rfl⟩:=H
   exact⟨n,s',by simp,AV6 I,AO2 e,G⟩
  |succ j=>
   obtain⟨N,k,q,Q,f,g⟩:=x j T s2 (by simpa using H) (by rwa [show i+1+j=i+(j+1)from by omega])
   exact⟨N,k,by simpa using q,Q,f,g⟩
  simp at h;simp at h;simp at h;rename_i B;simp only[AL]at h;subst h;refine⟨by simp[l],λj T s2 H b=>?_⟩
  cases j with
  |zero=>simp at b;exact(B b).elim
  |succ j=>
   obtain⟨N,k,q,Q,f,g⟩:=x j T s2 (by simpa using H) (by rwa [show i+1+j=i+(j+1)from by omega])
   exact⟨N,k,by simpa using q,Q,f,g⟩
theorem RO:∀{out:List (Option Nat)}{vt:VT}{j n t:Nat}{s:Sh},s.Eg=true->out[j]?=some (some n)->vt[j]?=some (t,s)->n∈Df out vt
 |[],_,_,_,_,_=>λ_ h=>by simp at h
 |_::_,[],_,_,_,_=>λ_ _ h=>by simp at h
 |o::out,(T,s')::vt,0,n,t,s=>λe H b=>by simp at H b;obtain⟨rfl,rfl⟩:=b;subst H;simp[Df,e]
 |o::out,(T,s')::vt,j+1,n,t,s=>λe H b=>by
  have:=RO (out:=out) (vt:=vt) e (by simpa using H) (by simpa using b)
  cases o with
  |none=>simpa[Df]using this
  |some m=>
   simp only[Df]
   split
   .exact BL _ this
   .exact this
theorem AEF:∀{out:List (Option Nat)}{vt:VT}{j n t:Nat}{s:Sh},out[j]?=some (some n)->vt[j]?=some (t,s)->s=.v\/s=.y->n∈Gl out vt
 |[],_,_,_,_,_=>λh=>by simp at h
 |_::_,[],_,_,_,_=>λ_ h=>by simp at h
 |o::out,(T,s')::vt,0,n,t,s=>λH b e=>by simp at H b;obtain⟨rfl,rfl⟩:=b;subst H;rcases e with rfl|rfl<;>simp[Gl,Sh.Eg]
 |o::out,(T,s')::vt,j+1,n,t,s=>λH b e=>by
  have:=AEF (out:=out) (vt:=vt) (by simpa using H) (by simpa using b) e
  cases o with
  |none=>simpa[Gl]using this
  |some m=>
   simp only[Gl]
   split
   .exact this
   .exact BL _ this
theorem YB:∀{out:List (Option Nat)}{vt:VT},(Df out vt).Nodup->∀{j k n t u:Nat}{s r:Sh},s.Eg=true->r.Eg=true->out[j]?=some (some n)->vt[j]?=some (t,s)->out[k]?=some (some n)->vt[k]?=some (u,r)->j=k
 |[],_=>λ_=>by simp
 |_::_,[]=>λ_=>by simp
 |o::out,(T,s')::vt=>λh=>by
  intro j k n t u s r i g H b e f
  have tl:(Df out vt).Nodup:=by
   cases o with
   |none=>simpa[Df]using h
   |some m=>
    simp only[Df]at h
    split at h
    .exact(List.nodup_cons.1 h).2
    .exact h
  cases j with
  |zero=>
   cases k with
   |zero=>rfl
   |succ k=>
    simp at H b
    obtain⟨rfl,rfl⟩:=b
    subst H
    have:=RO (out:=out) (vt:=vt) g (by simpa using e) (by simpa using f)
    simp only[Df,i,if_true]at h
    exact((List.nodup_cons.1 h).1 this).elim
  |succ j=>
   cases k with
   |zero=>
    simp at e f
    obtain⟨rfl,rfl⟩:=f
    subst e
    have:=RO (out:=out) (vt:=vt) i (by simpa using H) (by simpa using b)
    simp only[Df,g,if_true]at h
    exact((List.nodup_cons.1 h).1 this).elim
   |succ k=>
    have:=YB tl (j:=j) (k:=k) (n:=n) (t:=t) (u:=u) (s:=s) (r:=r) i g (by simpa using H) (by simpa using b) (by simpa using e) (by simpa using f)
    omega
theorem ARR{out:List (Option Nat)}{e:Env}{j n:Nat}(h:out[j]?=some (some n)):Env.E (Dg out e) j=e.E n:=by simp[Env.E,Dg,Ap,h]
theorem Pe{c:Cx}{st:List Fact}{e:Env}{a:Act}{w:World}{vt:VT}{mask:Nat}{out:List (Option Nat)}(h:Holds c (·∈st) e.E a w)(ho:JJ st mask 0 vt=some out)
  (hn:(Df out vt).Nodup) (hd:∀n∈Df out vt,n∉Gl out vt):Holds c (·∈Bw vt mask) (Env.E (Dg out e)) a w:=by
 obtain⟨⟨vs,Bs,H⟩,hfix⟩:=h;refine⟨?_,hfix⟩;obtain⟨_,hspec⟩:=Ki ho;let ix:Nat->Nat:=λi=>match out[i]? with|some (some n)=>n|_=>0;let own?:Nat->Bool:=λi=>match vt[i]? with|some (_,s)=>s.Eg|_=>false;have get:∀i t s,vt[i]?=some (t,s)->mask.testBit i=true->∃n s',out[i]?=some (some n)/\ix i=n/\Fact.sl t (.is n [])∈st/\Fact.en n s'∈st/\(s'=s\/(s=.v/\s'.okF=true)\/(s=.y/\s'.okF=true)):=by intro i t s g M;obtain⟨n,s',U,L,q3,Q⟩:=hspec i t s g (by simpa using M);exact⟨n,s',U,by simp[ix,U],L,q3,Q⟩
 let k:Nat->List Nat:=λi=>if own? i then Bs (ix i)else [];have B:∀i t s,vt[i]?=some (t,s)->s.Eg=true->k i=Bs (ix i):=by intro i t s h x;simp[k,own?,h,x]
 have R:∀i t s,vt[i]?=some (t,s)->s=.v\/s=.y->k i=[]:=by intro i t s h x;rcases x with rfl|rfl<;>simp[k,own?,h,Sh.Eg]
 have hO:∀b,OB (·∈Bw vt mask) k b->OB (·∈st) Bs b:=by rintro b ⟨i,s,O,C⟩;obtain⟨i',t,s',g,M,f⟩:=D6.1 O;rcases f with f|f;simp at f;injection f with G I;subst G I;by_cases x:s.Eg=true;rw[B i t s g x]at C;obtain⟨n,s2,U,L,q3,Q,T⟩:=get i t _ g M;exact⟨n,s2,Q,L▸C⟩;rw[R i t _ g (Sh.Kf x)]at C;simp at C
 refine⟨λi=>vs (ix i),k,?_,?_,?_,?_,?_,H.agr,H.os,H.tape,H.output,H.defers,H.size⟩
 .intro i s O;obtain⟨i',t,s',g,M,f⟩:=D6.1 O;rcases f with f|f
  .simp at f
  .injection f with G I;subst G I;obtain⟨n,s2,U,L,q3,Q,T⟩:=get i t _ g M;rw[ARR U,L];have W:=H.own n s2 Q;have fz:s=.v\/s=.y->s2.okF=true->Rd c.fid w.heap (λb=>OB (·∈Bw vt mask) k b\/c.Xb b) (e.E n) (vs n):=by
    intro x T;refine AE.freeze (λb _ q=>q.imp (hO b) id) s2 _ _ _ T ?_ W;rintro b C (⟨j,s3,hf3,N⟩|hx);obtain⟨j',t3,s4,V,k2,P⟩:=D6.1 hf3;rcases P with P|P;simp at P;injection P with G I;subst G I;by_cases Z:s3.Eg=true;rw[B j t3 s3 V Z]at N;obtain⟨m,s5,r1,r2,r3,r4,r5⟩:=get j t3 _ V k2;rw[r2]at N;have Y:n≠m:=by rintro rfl;exact hd n (RO Z r1 V) (AEF U g x)
    exact H.apart n s2 m s5 Q r4 Y b C N;rw[R j t3 _ V (Sh.Kf Z)]at N;simp at N;have:=c.hX b hx;rcases H.mine n s2 Q b C with q|q;omega;exact this.2 q
   rcases T with rfl|⟨rfl,T⟩|⟨rfl,T⟩
   .have:=AE.ext (Ao.refl (λ_=>False) _) (λ_ _ q=>q.elim) (λb _=>hO b) _ _ _ _ (λ_ _ q=>q) W;by_cases hs2:s2.Eg=true
    .rw[B i t s2 g hs2,L];exact this
    .rcases Sh.Kf hs2 with rfl|rfl
     .rw[R i t _ g (.inl rfl)];simp only[AE]at this|-;exact⟨trivial,this.2⟩
     .rw[R i t _ g (.inr rfl)];simp only[AE]at this|-;exact⟨trivial,this.2⟩
   .rw[R i t _ g (.inl rfl)];simp only[AE];exact⟨trivial,fz (.inl rfl) T⟩
   .rw[R i t _ g (.inr rfl)];simp only[AE];exact⟨trivial,(fz (.inr rfl) T).mono λb _ q=>.inl q⟩
 .intro i s O;obtain⟨i',t,s',g,M,f⟩:=D6.1 O;rcases f with f|f
  .simp at f
  .injection f with G I;subst G I;obtain⟨n,s2,U,L,q3,Q,T⟩:=get i t _ g M;by_cases x:s.Eg=true
   .rw[B i t s g x,L];exact H.nodup n s2 Q
   .rw[R i t _ g (Sh.Kf x)];exact List.nodup_nil
 .intro i s O b C;obtain⟨n,s2,Q,J⟩:=hO b ⟨i,s,O,C⟩;exact H.mine n s2 Q b J
 .intro i s j r O hg Y b C J;obtain⟨i',t,s',g,M,f⟩:=D6.1 O;obtain⟨j',t2,r',V,k2,P⟩:=D6.1 hg;rcases f with f|f
  .simp at f
  rcases P with P|P
  .simp at P
  injection f with G I;subst G I;injection P with G I;subst G I;obtain⟨n,s2,U,L,q3,Q,T⟩:=get i t _ g M;obtain⟨m,r2,p1,p2,p3,p4,p5⟩:=get j t2 _ V k2;by_cases x:s.Eg=true
  .by_cases hr:r.Eg=true
   .rw[B i t s g x,L]at C;rw[B j t2 r V hr,p2]at J;have:n≠m:=by rintro rfl;exact Y (YB hn x hr U g p1 V)
    exact H.apart n s2 m r2 Q p4 this b C J
   .rw[R j t2 _ V (Sh.Kf hr)]at J;simp at J
  .rw[R i t _ g (Sh.Kf x)]at C;simp at C
 .intro t l O;obtain⟨i,t',s',g,M,f⟩:=D6.1 O;rcases f with f|f
  .injection f with G I;subst G I;obtain⟨n,s2,U,L,q3,Q,T⟩:=get i t _ g M;have:=H.loc t _ q3;refine⟨λ_=>?_,λq=>(q (by simp[Am])).elim⟩;show a.tmps[t]?=some (vs (ix i));rw[L];exact this.1 (by simp[Am])
  .simp at f
def L7(cf:CF)(sg:Nat->Option Sg)(vt:VT)(l:List (Nat×Array Oper×List Nat))(L mask:Nat):Option S:=
 (LU cf sg l (Bw vt L) vt.length).bind λr=>(JJ r.2.1 mask 0 vt).bind λout=>
  if MD vt.length (r.1.map (·.it))=true/\(Df out vt).Nodup/\((Df out vt).all λn=>!(Gl out vt).contains n)=true then
   some (.reg (r.1.map (·.it)) out)
  else none
section
variable{cf:CF}{sg:Nat->Option Sg}{c:Cx}{K:Nat->List D->List D->Prop}
theorem AdC(V:Sound cf sg K)(R:cf.Fits c){vt:VT}{l:List (Nat×Array Oper×List Nat)}{L mask:Nat}{s:S}(b:L7 cf sg vt l L mask=some s)
  {Q:X->Env->Prop} {e:Env} (J:wpS K s Q e) (k:e.length=vt.length) {a:Act} {w:World} (H:Holds c (·∈Bw vt L) e.E a w) {d:Code} {C:Exit->Act->World->Prop}
  (T:∀j G w',j.length=vt.length->Q .n j->Holds c (·∈Bw vt mask) j.E G w'->d.wp c.P C G w'):(NB l d).wp c.P C a w:=by
 unfold L7 at b;simp only[AS]at b;obtain⟨⟨qs,Z,I⟩,W,out,B,b⟩:=b;simp only at B b;split at b
 .rename_i g;obtain⟨h,x,f⟩:=g;simp only[AL]at b;subst b;simp only[wpS]at J;obtain⟨t,Y,q2,M⟩:=MV _ e (by rw[k];exact h) J;rw[k]at M;have N:Holds c (·∈Bw vt L) (Env.E (e++t)) a w:=H.congr λi tt s hi _=>by
   have:i<e.length:=by rw[k];rcases B7 i vt.length with q|q;exact q;rw[D7 q]at hi;simp at hi
   exact JP this
  refine ZS V R l _ _ _ _ _ W M a w N λa2 w2 O=>?_;refine T _ a2 w2 ?_ Y (Pe O B x ?_)
  .rw[<-(Ki B).1];simp[Dg]
  .intro n U;simp only[Aj,Bool.not_eq_true',List.contains_eq_mem,decide_eq_false_iff_not]at f;exact f n U
 .simp at b
theorem ARO(hs:Sound cf sg K)(V:cf.Fits c){vt:VT}{id:Nat}{ops:Array Oper}{W:List Nat}{L mask:Nat}{s:S}(b:L7 cf sg vt [(id,ops,W)] L mask=some s)
  {Q:X->Env->Prop} {e:Env} (N:wpS K s Q e) (x:e.length=vt.length) {a:Act} {w:World} (H:Holds c (·∈Bw vt L) e.E a w) {k:Exit->Act->World->Prop}
  (Z:∀l I w',l.length=vt.length->Q .n l->Holds c (·∈Bw vt mask) l.E I w'->k .normal I w'):(Code.region id ops false).wp c.P k a w:=by
 unfold L7 at b;simp only[AS]at b;obtain⟨⟨qs,st',J⟩,O,out,C,b⟩:=b;simp only at C b;split at b
 .rename_i g;obtain⟨h,B,f⟩:=g;simp only[AL]at b;subst b;simp only[wpS]at N;obtain⟨t,q1,q2,G⟩:=MV _ e (by rw[x];exact h) N;rw[x]at G;have R:Holds c (·∈Bw vt L) (Env.E (e++t)) a w:=H.congr λi tt s hi _=>by
   have:i<e.length:=by rw[x];rcases B7 i vt.length with q|q;exact q;rw[D7 q]at hi;simp at hi
   exact JP this
  simp only[LU,AS,Ae,AJ]at O;obtain⟨⟨r1,st1,c1⟩,U,⟨r2,st2,c2⟩,⟨rfl,rfl,rfl⟩,rfl,M⟩:=O;simp only[List.append_nil]at G;refine wp_region ?_;rw[List.range_eq_range'];have:=UG hs V (Q:=k) ops.toList 0 _ _ _ _ _ _ U (λj o Y=>by simpa using Y) G a w R λa2 w2 T=>by simp only[AJ]at M;obtain⟨rfl,rfl⟩:=M;refine Z _ a2 w2 ?_ q1 (Pe T C B ?_);rw[<-(Ki C).1];simp[Dg];intro n hn;simp only[Aj,Bool.not_eq_true',List.contains_eq_mem,decide_eq_false_iff_not]at f;exact f n hn
  simpa using this
 .simp at b
end
def VC(cf:CF)(sg:Nat->Option Sg)(vt:VT)(O b:Array Oper)(L:Nat)(H h:Nat×List Nat):Option S:=
 (FM cf sg O O.toList (Bw vt L) vt.length H.2.tail).bind λr=>(FM cf sg b b.toList r.2.1 r.2.2 h.2).bind λq=>
  (JJ q.2.1 h.1 0 vt).bind λout=>
   if MD vt.length (r.1.map (·.it)++q.1.map (·.it))=true/\(Df out vt).Nodup/\((Df out vt).all λn=>!(Gl out vt).contains n)=true then
    some (.reg (r.1.map (·.it)++q.1.map (·.it)) out)
   else none
section
variable{cf:CF}{sg:Nat->Option Sg}{c:Cx}{K:Nat->List D->List D->Prop}
theorem AN6(Y:Sound cf sg K)(W:cf.Fits c){vt:VT}{M O:Array Oper}{L:Nat}{h1 U:Nat×List Nat}{s:S}(f:VC cf sg vt M O L h1 U=some s)
  {Q:X->Env->Prop} {e:Env} (V:wpS K s Q e) (G:e.length=vt.length) {a:Act} {w:World} (H:Holds c (·∈Bw vt L) e.E a w) {i1 Z:Nat} {b:Code} {l:Exit->Act->World->Prop}
  (hk:∀B N w',B.length=vt.length->Q .n B->Holds c (·∈Bw vt U.1) B.E N w'->b.wp c.P l N w'):(Code.seq (.region i1 M false) (.seq (.region Z O false) b)).wp c.P l a w:=by
 unfold VC at f;simp only[AS]at f;obtain⟨⟨qs,st',R⟩,k1,⟨qs2,st2,T⟩,k2,out,J,f⟩:=f;simp only at k2 J f;split at f
 .rename_i k;obtain⟨h,I,g⟩:=k;simp only[AL]at f;subst f;simp only[wpS]at V;obtain⟨t,q1,q2,q3⟩:=MV _ e (by rw[G];exact h) V;rw[G]at q3;obtain⟨q4,q5⟩:=q3.split;have x:=AHD k1;rw[<-x]at q5;have H1:Holds c (·∈Bw vt L) (Env.E (e++t)) a w:=H.congr λi tt s hi _=>by
   have:i<e.length:=by rw[G];rcases B7 i vt.length with q|q;exact q;rw[D7 q]at hi;simp at hi
   exact JP this
  refine wp_seq (wp_region ?_);rw[List.range_eq_range'];have:=Rk Y W (Q:=Exit.then ((Code.seq (.region Z O false) b).wp c.P l) l) M.toList 0 _ _ _ _ _ _ k1 (λj o C=>by simpa using C) q4 a w H1 λa1 w1 H2=>by
   refine wp_seq (wp_region ?_);rw[List.range_eq_range'];have:=Rk Y W (Q:=Exit.then (b.wp c.P l) l) O.toList 0 _ _ _ _ _ _ k2 (λj o C=>by simpa using C) q5 a1 w1 H2 λa2 w2 H3=>by refine hk _ a2 w2 ?_ q1 (Pe H3 J I ?_);rw[<-(Ki J).1];simp[Dg];intro n hn;simp only[Aj,Bool.not_eq_true',List.contains_eq_mem,decide_eq_false_iff_not]at g;exact g n hn
   simpa using this
  simpa using this
 .simp at f
theorem AcV(hs:Sound cf sg K)(W:cf.Fits c)(hm:cf.P.follows .mixedOrders=true){vt:VT}{ops:Array Oper}{draw:Bool}{L:Nat}{h:Nat×List Nat}{s:S}(x:SN cf sg vt ops draw L h=some s)
  {Q:X->Env->Prop} {e:Env} (hQ:wpS K s Q e) (Y:e.length=vt.length) {a:Act} {w:World} (H:Holds c (·∈Bw vt L) e.E a w) {id:Nat} {O:Exit->Act->World->Prop}
  (N:∀R C w',R.length=vt.length->Q .n R->Holds c (·∈Bw vt h.1) R.E C w'->O .normal C w'):(Code.region id ops draw).wp c.P O a w:=by
 unfold SN at x;simp only[AS]at x;obtain⟨⟨qp,st0,cnt0,hh0⟩,h0,⟨qs,st',cnt'⟩,U,out,V,x⟩:=x;simp only at U V x;split at x
 .rename_i I;obtain⟨l,g,Z,B⟩:=I;simp only[AL]at x;subst x;simp only[wpS]at hQ;obtain⟨t,q1,q2,J⟩:=MV _ e (by rw[Y];exact l) hQ;rw[Y]at J;obtain⟨p1,p2⟩:=AQR (c:=c) (K:=K) (E:=Env.E (e++t)) h0;rw[List.map_append]at J;obtain⟨q4,J⟩:=J.split;rw[<-p1]at J;have H1:Holds c (·∈st0) (Env.E (e++t)) a w:=p2 q4 <|H.congr λi tt s hi _=>by
   have:i<e.length:=by rw[Y];rcases B7 i vt.length with q|q;exact q;rw[D7 q]at hi;simp at hi
   exact JP this
  have fin:∀C w',Holds c (·∈st') (Env.E (e++t)) C w'->O .normal C w':=by intro C w' H';refine N _ C w' ?_ q1 (Pe H' V Z ?_);rw[<-(Ki V).1];simp[Dg];intro n hn;simp only[Aj,Bool.not_eq_true',List.contains_eq_mem,decide_eq_false_iff_not]at B;exact B n hn
  cases draw with
  |false=>
   refine wp_region ?_
   have:=Rk hs W (Q:=O) ops.toList 0 _ _ _ _ _ _ U (λj o hj=>by simpa using hj) J a w H1 fin
   rw[List.range_eq_range']
   simpa using this
  |true=>
   simp only[Bool.not_true,Bool.false_or]at g
   refine wp_region_any (by rw[W.P];exact hm) ?_
   obtain⟨⟨vs,Bs,b⟩,M⟩:=H1
   have H3:Holds c (·∈st0) (Env.E (e++t)) a { w with drawn:=w.drawn+1 }:=
    ⟨⟨vs,Bs,b.own,b.nodup,b.mine,b.apart,b.loc,b.agr,b.os,b.tape,b.output,b.defers,b.size⟩,M⟩
   refine AUF hs W U g J fin ops.size _ a _ (by simp) ?_ ?_ (H3.mono λf hf=>?_)
   .exact Nat.le_trans (List.length_filter_le _ _) (by simp)
   .intro k o N
    rw[CX,Array.getElem?_replicate]at N
    split at N<;>simp at N
   .rcases hf with⟨T,_⟩|⟨j,r,T,_⟩
    .exact T
    .have G:(Array.replicate ops.size false).getD j false=true:=T
     rw[CX,Array.getElem?_replicate]at G
     split at G<;>simp at G
 .simp at x
end
end Go.Cat
namespace Go.Cat
def AG6:Nat×List Nat->Bool
 |(_,k::_)=>k==77776
 |_=>false
def ALO:HL->Bool
 |(_,k::_)::_=>k==77777||k==77778
 |_=>false
abbrev Tr:=Option (S×HL×Option Nat×List (Nat×Nat))
def KG(o:Option Nat)(L:Nat):Option Nat:=match o with|none=>some L|some a=>some (a&&&L)
def FL(a b:Option Nat):Option Nat:=match a,b with|none,b=>b|a,none=>a|some x,some y=>some (x&&&y)
def idxOf(vt:VT)(t:Nat):Option Nat:=vt.findIdx? (λx=>x.1==t)
def Kt(body:HL->Nat->Tr)(h:HL):Nat->Nat->Option (Nat×S×HL×List (Nat×Nat))
 |0,_=>none
 |n+1,L=>(body h L).bind λr=>match r.2.2.1 with
  |none=>some (L,r.1,r.2.1,r.2.2.2)
  |some b=>if Ix L b then some (L,r.1,r.2.1,r.2.2.2)else Kt body h n (L&&&b)
def Mr(t:Nat):Code->Bool
 |.region _ ops _=>ops.toList.any λo=>o.dst==some t
 |.seq a b=>Mr t a||Mr t b
 |.cond _ a b=>Mr t a||Mr t b
 |_=>false
def Kg(t:Nat):Code->Code->Bool
 |.skip,y=>Mr t y
 |_,_=>false
theorem AKY{t:Nat}{x y:Code}(h:Kg t x y=true):x=.skip:=by cases x<;>first|rfl|simp[Kg]at h
def KR(m L i:Nat)(b:Bool):S:=.reg [⟨[],[],.cs .v (.b b)⟩] ((List.range m).map λj=>if j=i then some m else if L.testBit j=true then some j else none)
section
variable(cf:CF)(sg:Nat->Option Sg)(vt:VT)(res:List Nat)
def C6:Code->HL->Nat->Tr
 |.skip,H,L=>some (.skip,H,some L,[])
 |.region id ops draw,h::H,L=>if AG6 h=true then(if draw=true then none else(L7 cf sg vt [(id,ops,h.2.tail)] L h.1).map λs=>(s,H,some h.1,[]))
  else(SN cf sg vt ops draw L h).map λs=>(s,H,some h.1,[])
 |.seq a b,H,L=>if ALO H=true then match a,b,H with
  |.region I O false,.seq (.region J k false) (.seq (.region i3 Q false) (.seq (.region M R false) (.seq (.region N T false) (.seq (.region P U false) d)))),g::f::B::C::G::j::e=>
   (L7 cf sg vt [(I,O,g.2.tail),(J,k,f.2),(i3,Q,B.2),(M,R,C.2),(N,T,G.2),(P,U,j.2)] L j.1).bind λs=>(C6 d e j.1).map λq=>(.seq s q.1,q.2.1,q.2.2.1,q.2.2.2)
  |.region _ O false,.seq (.region _ k false) d,g::f::e=>(VC cf sg vt O k L g f).bind λs=>(C6 d e f.1).map λq=>(.seq s q.1,q.2.1,q.2.2.1,q.2.2.2)
  |_,_,_=>none
  else(C6 a H L).bind λr=>match r.2.2.1 with
  |none=>some (.seq r.1 .skip,r.2.1,none,r.2.2.2)
  |some l=>(C6 b r.2.1 l).map λq=>(.seq r.1 q.1,q.2.1,q.2.2.1,r.2.2.2++q.2.2.2)
 |.cond (.tmp t) x y,H,L=>(idxOf vt t).bind λi=>
  if L.testBit i then if Kg t x y=true then(C6 y H (L ^^^ 2^i)).map λq=>(.cond i (KR vt.length L i true) q.1,q.2.1,FL (some L) q.2.2.1,q.2.2.2)
  else if Kg t y x=true then(C6 x H (L ^^^ 2^i)).map λr=>(.cond i r.1 (KR vt.length L i false),r.2.1,FL r.2.2.1 (some L),r.2.2.2)
  else(C6 x H (L ^^^ 2^i)).bind λr=>(C6 y r.2.1 (L ^^^ 2^i)).map λq=>(.cond i r.1 q.1,q.2.1,FL r.2.2.1 q.2.2.1,r.2.2.2++q.2.2.2)
  else none
 |.cond (.const (.bool b)) x y,H,L=>(C6 x H L).bind λr=>(C6 y r.2.1 L).map λq=>if b=true then(r.1,q.2.1,r.2.2.1,r.2.2.2)else(q.1,q.2.1,q.2.2.1,q.2.2.2)
 |.block id b,H,L=>(C6 b H L).map λr=>
  (.block id r.1,r.2.1,(r.2.2.2.filter (λx=>x.1==id)).foldl (λo x=>KG o x.2) r.2.2.1,r.2.2.2.filter (λx=>x.1 != id))
 |.loop b,H,L=>(Kt (C6 b) H 5 L).map λr=>(.loop r.2.1,r.2.2.1,none,r.2.2.2)
 |.exit id,H,L=>some (.exit id,H,none,[(id,L)])
 |.ret,H,L=>if res.all (λi=>L.testBit i)then some (.ret,H,none,[])else none
 |_,_,_=>none
end
def rOK(res:List Nat)(L:Nat):Prop:=∀i∈res,L.testBit i=true
theorem exists_least{J:Nat->Prop}(h:∃n,J n):∃n,J n/\∀m,m<n->¬J m:=by
 obtain⟨n,f⟩:=h;induction n using Nat.strongRecOn with
 |_ n i=>
  by_cases e:∃m,m<n/\J m
  .obtain⟨m,H,b⟩:=e
   exact i m H b
  .exact⟨n,f,λm H b=>e ⟨m,H,b⟩⟩
theorem AK9{body:HL->Nat->Tr}{f:HL}:∀{n L:Nat}{r:Nat×S×HL×List (Nat×Nat)},Kt body f n L=some r->Ix r.1 L=true/\∃nb,body f r.1=some (r.2.1,r.2.2.1,nb,r.2.2.2)/\∀b,nb=some b->Ix r.1 b=true
 |0,_,_=>λh=>by simp[Kt]at h
 |n+1,L,r=>λh=>by
  simp only[Kt,AS]at h;obtain⟨⟨s,q,nb,ex⟩,e,h⟩:=h;simp only at h;split at h;simp only[AL]at h;subst h;exact⟨by simp[Ix],none,e,λb he=>by simp at he⟩;rename_i b;split at h;rename_i H;simp only[AL]at h;subst h;refine⟨by simp[Ix],some b,e,λl he=>?_⟩;injection he with he;subst he;exact H;obtain⟨k,j⟩:=AK9 h;refine⟨?_,j⟩;have g:∀i,r.1.testBit i=true->L.testBit i=true:=λi hi=>by have:=Uu k i hi;rw[Nat.testBit_and,AU]at this;exact this.1
  simp only[Ix,beq_iff_eq];apply Nat.eq_of_testBit_eq;intro i;rw[Nat.testBit_and]
  cases hi:r.1.testBit i with
  |false=>rfl
  |true=>rw[g i hi];rfl
theorem QW{id:Nat}:∀{exs:List (Nat×Nat)}{o:Option Nat}{L:Nat},((id,L)∈exs\/o=some L)->∃b,exs.foldl (λo x=>KG o x.2) o=some b/\∀i,b.testBit i=true->L.testBit i=true
 |[],o,L=>λh=>by
  simp only[Cy,false_or]at h
  exact⟨L,by simp[h],λ_ h=>h⟩
 |(k,M)::exs,o,L=>λh=>by
  simp only[List.foldl_cons]
  have step:∀N,(KG o M=some N)->(∀i,N.testBit i=true->L.testBit i=true)->∃b,exs.foldl (λo x=>KG o x.2) (KG o M)=some b/\∀i,b.testBit i=true->L.testBit i=true:=by
   intro N g j
   obtain⟨b,e,f⟩:=QW (id:=id) (exs:=exs) (o:=KG o M) (L:=N) (.inr g)
   exact⟨b,e,λi hi=>j i (f i hi)⟩
  rcases h with h|h
  rcases AY.1 h with h|h
  injection h with l H
  subst H
  cases o with
  |none=>exact step L rfl λ_ h=>h
  |some A=>
   refine step (A&&&L) rfl λi hi=>?_
   rw[Nat.testBit_and,AU]at hi;exact hi.2
  exact QW (id:=id) (.inl h)
  subst h
  refine step (L&&&M) rfl λi hi=>?_
  rw[Nat.testBit_and,AU]at hi;exact hi.1
def xe:X->Exit
 |.n=>.normal
 |.ex id=>.exit id
 |.r=>.ret
section
variable{cf:CF}{sg:Nat->Option Sg}{c:Cx}{K:Nat->List D->List D->Prop}{vt:VT}{res:List Nat}
theorem Ux{t i:Nat}(h:idxOf vt t=some i):∃s,vt[i]?=some (t,s):=by
 unfold idxOf at h;obtain⟨H,b,_⟩:=List.findIdx?_eq_some_iff_getElem.1 h;refine⟨vt[i].2,?_⟩;rw[GB H];have:vt[i].1=t:=by simpa using b
 rw[<-this]
theorem ASO{e:Env}{i j:Nat}(h:j≠i):Env.E (e.set i .u) j=e.E j:=by simp[Env.E,Ap,List.getElem?_set_ne (Ne.symm h)]
theorem Ad2{L i m:Nat}{b:Bool}{Q:X->Env->Prop}{e:Env}(h:wpS K (KR m L i b) Q (e.set i .u))(l:e.length=m)(hi:i<m)(s:Env.E e i=.b b):
  ∃f:Env,f.length=m/\Q .n f/\∀j,j<m->L.testBit j=true->Env.E f j=Env.E e j:=by
 simp only[KR,wpS,EY,H7,Cc,A7,AW]at h;refine⟨_,?_,h,λj H hL=>?_⟩
 .simp[Dg]
 .have g:∀o:Option Nat,((List.range m).map λj=>if j=i then some m else if L.testBit j=true then some j else none)[j]?=some o->Env.E (Dg ((List.range m).map λj=>if j=i then some m else if L.testBit j=true then some j else none) (e.set i .u++[.b b])) j=match o with|some n=>Env.E (e.set i .u++[.b b]) n|none=>.u:=by
   intro o x
   show(Dg _ _).getD j .u=_
   rw[Ap,Dg,List.getElem?_map,x]
   cases o<;>rfl
  have k:((List.range m).map λj=>if j=i then some m else if L.testBit j=true then some j else none)[j]?=some (if j=i then some m else some j):=by
   rw[List.getElem?_map,List.getElem?_range H,Option.map_some,if_pos hL]
  rw[g _ k]
  by_cases q:j=i
  .subst q
   rw[if_pos rfl,s]
   simp[Env.E,Ap,<-l]
  .rw[if_neg q]
   show Env.E (e.set i .u++[.b b]) j=Env.E e j
   simp only[Env.E,Ap]
   rw[DP (by simpa[l]using H),List.getElem?_set_ne (Ne.symm q)]
theorem Fh(hs:Sound cf sg K)(hc:cf.Fits c)(hm:cf.P.follows .mixedOrders=true):∀(code:Code)(hh:HL)(L:Nat)(s:S)(Y:HL)(W:Option Nat)(exs:List (Nat×Nat)),
  C6 cf sg vt res code hh L=some (s,Y,W,exs)->∀(Q:X->Env->Prop)(e:Env)(a:Act)(w:World)(Z:Exit->Act->World->Prop),wpS K s Q e->e.length=vt.length->Holds c (·∈Bw vt L) e.E a w->
  (∀x k l w',k.length=vt.length->Q x k->(∃C,(match x with|.n=>W=some C|.ex id=>(id,C)∈exs|.r=>rOK res C)/\Holds c (·∈Bw vt C) k.E l w')->Z (xe x) l w')->
  code.wp c.P Z a w
 |.skip,hh,L,s,Y,W,exs=>λg Q e a w Z G V H B=>by
  simp only[C6,AL,AJ]at g
  obtain⟨rfl,rfl,rfl,rfl⟩:=g
  exact wp_skip (B .n e a w V G ⟨L,rfl,H⟩)
 |.region id ops draw,[],L,s,Y,W,exs=>λg=>by simp[C6]at g
 |.region id ops draw,h::hh,L,s,Y,W,exs=>λg Q e a w Z G V H B=>by
  unfold C6 at g
  split at g
  split at g
  cases g
  rename_i hd
  simp only[Ae,AJ]at g
  obtain⟨s',h1,rfl,rfl,rfl,rfl⟩:=g
  have:draw=false:=by simpa using hd
  subst this
  exact ARO hs hc h1 G V H λk l w' f N U=>B .n k l w' f N ⟨h.1,rfl,U⟩
  simp only[Ae,AJ]at g
  obtain⟨s',h1,rfl,rfl,rfl,rfl⟩:=g
  exact AcV hs hc hm h1 G V H λk l w' f N U=>B .n k l w' f N ⟨h.1,rfl,U⟩
 |.seq x y,hh,L,s,Y,W,exs=>λg Q e a w Z G V H B=>by
  unfold C6 at g
  split at g
  split at g
  rename_i i1 o1 i2 o2 i3 o3 i4 o4 i5 o5 i6 o6 d h1 h2 h3 h4 h5 h6 hs' _
  simp only[AS,Ae,AJ]at g
  obtain⟨s1,hr,⟨s2,hx3,n3,e3⟩,hd,rfl,rfl,rfl,rfl⟩:=g
  simp only[wpS]at G
  refine AdC hs hc (d:=d) hr G V H λk l w' f N U=>?_
  exact Fh hs hc hm d hs' h6.1 _ _ _ _ hd Q k l w' Z N f U B
  rename_i i1 o1 i2 o2 d h1 h2 hs' _ _
  simp only[AS,Ae,AJ]at g
  obtain⟨s1,hr,⟨s2,h3,n3,e3⟩,hd,rfl,rfl,rfl,rfl⟩:=g
  simp only[wpS]at G
  refine AN6 hs hc hr G V H λk l w' f N U=>?_
  exact Fh hs hc hm d hs' h2.1 _ _ _ _ hd Q k l w' Z N f U B
  cases g
  simp only[AS]at g
  obtain⟨⟨s1,h1,n1,e1⟩,hx,g⟩:=g
  simp only at g
  split at g
  simp only[AL,AJ]at g
  obtain⟨rfl,rfl,rfl,rfl⟩:=g
  simp only[wpS]at G
  refine wp_seq (Fh hs hc hm x hh L _ _ _ _ hx _ e a w _ G V H ?_)
  rintro z k l w' f N ⟨C,R,U⟩
  cases z with
  |n=>simp at R
  |ex id=>exact B (.ex id) k l w' f N ⟨C,R,U⟩
  |r=>exact B .r k l w' f N ⟨C,R,U⟩
  rename_i L1
  simp only[Ae,AJ]at g
  obtain⟨⟨s2,h2,n2,e2⟩,hy,rfl,rfl,rfl,rfl⟩:=g
  simp only[wpS]at G
  refine wp_seq (Fh hs hc hm x hh L _ _ _ _ hx _ e a w _ G V H ?_)
  rintro z k l w' f N ⟨C,R,U⟩
  cases z with
  |n=>
   injection R with R
   subst R
   refine Fh hs hc hm y _ _ _ _ _ _ hy Q k l w' Z N f U ?_
   rintro z2 e3 a3 w3 hl3 hq3 ⟨L3,hz3,H3⟩
   refine B z2 e3 a3 w3 hl3 hq3 ⟨L3,?_,H3⟩
   cases z2 with
   |n=>exact hz3
   |ex id=>exact BB _ hz3
   |r=>exact hz3
  |ex id=>exact B (.ex id) k l w' f N ⟨C,BN _ R,U⟩
  |r=>exact B .r k l w' f N ⟨C,R,U⟩
 |.cond (.tmp t) x y,hh,L,s,Y,W,exs=>λg Q e a w Z G V H B=>by
  simp only[C6,AS]at g
  obtain⟨i,hi,g⟩:=g
  split at g
  rename_i hL
  obtain⟨sh,hvt⟩:=Ux hi
  have H0:=H
  obtain⟨⟨vs,Bs,HG⟩,hfix⟩:=H
  have f1:=HG.own i sh (D6.2 ⟨i,t,sh,hvt,hL,.inr rfl⟩)
  have f2:=(HG.loc t _ (D6.2 ⟨i,t,sh,hvt,hL,.inl rfl⟩)).1 (by simp[Am])
  have hsub:∀j,(L ^^^ 2^i).testBit j=true->L.testBit j=true/\j≠i:=by
   intro j O
   rw[Nat.testBit_xor,Nat.testBit_two_pow]at O
   by_cases hij:i=j
   subst hij;simp[hL]at O
   simp[hij]at O;exact⟨O,λq=>hij q.symm⟩
  have U:Holds c (·∈Bw vt (L ^^^ 2^i)) (Env.E (e.set i .u)) a w:=
   (Holds.mono ⟨⟨vs,Bs,HG⟩,hfix⟩ (Gg λj O=>(hsub j O).1)).congr λj _ _ _ O=>ASO (hsub j O).2
  have him:i<vt.length:=by
   rcases B7 i vt.length with q|q
   exact q
   rw[D7 q]at hvt;cases hvt
  have hback:∀{b:Bool},wpS K (KR vt.length L i b) Q (e.set i .u)->e.E i=.b b->∃k:Env,k.length=vt.length/\Q .n k/\Holds c (·∈Bw vt L) k.E a w:=by
   intro b hw hb
   obtain⟨k,q1,q2,q3⟩:=Ad2 hw V him hb
   refine⟨k,q1,q2,H0.congr λj t s O hLj=>q3 j ?_ hLj⟩
   rcases B7 j vt.length with q|q
   exact q
   rw[D7 q]at O;cases O
  split at g
  rename_i hkp
  obtain rfl:=AKY hkp
  simp only[Ae,AJ]at g
  obtain⟨⟨s2,h2,n2,e2⟩,hy,rfl,rfl,rfl,rfl⟩:=g
  simp only[wpS]at G
  split at G
  rename_i hb
  rw[hb]at f1
  have hv:a.eval (.tmp t)=.bool true:=by
   rw[f1.bool]at f2;simp[Act.eval,f2]
  obtain⟨k,q1,q2,q3⟩:=hback G hb
  refine wp_cond_true hv (wp_skip ?_)
  cases n2 with
  |none=>exact B .n k a w q1 q2 ⟨L,by simp[FL],q3⟩
  |some M=>
   refine B .n k a w q1 q2 ⟨L&&&M,by simp[FL],q3.mono (Gg λj O=>?_)⟩
   rw[Nat.testBit_and,AU]at O;exact O.1
  rename_i hb
  rw[hb]at f1
  have hv:a.eval (.tmp t)=.bool false:=by
   rw[f1.bool]at f2;simp[Act.eval,f2]
  refine wp_cond_false hv (Fh hs hc hm y hh _ _ _ _ _ hy Q _ a w Z G (by simpa using V) U ?_)
  rintro z k l w' f N ⟨C,R,H2⟩
  cases z with
  |n=>
   have T:n2=some C:=R
   refine B .n k l w' f N ⟨L&&&C,by simp[FL,T],H2.mono (Gg λj O=>?_)⟩
   rw[Nat.testBit_and,AU]at O;exact O.2
  |ex id=>exact B (.ex id) k l w' f N ⟨C,R,H2⟩
  |r=>exact B .r k l w' f N ⟨C,R,H2⟩
  exact G.elim
  split at g
  rename_i hkp
  obtain rfl:=AKY hkp
  simp only[Ae,AJ]at g
  obtain⟨⟨s1,h1,n1,e1⟩,hx,rfl,rfl,rfl,rfl⟩:=g
  simp only[wpS]at G
  split at G
  rename_i hb
  rw[hb]at f1
  have hv:a.eval (.tmp t)=.bool true:=by
   rw[f1.bool]at f2;simp[Act.eval,f2]
  refine wp_cond_true hv (Fh hs hc hm x hh _ _ _ _ _ hx Q _ a w Z G (by simpa using V) U ?_)
  rintro z k l w' f N ⟨C,R,H2⟩
  cases z with
  |n=>
   have T:n1=some C:=R
   refine B .n k l w' f N ⟨C&&&L,by simp[FL,T],H2.mono (Gg λj O=>?_)⟩
   rw[Nat.testBit_and,AU]at O;exact O.1
  |ex id=>exact B (.ex id) k l w' f N ⟨C,R,H2⟩
  |r=>exact B .r k l w' f N ⟨C,R,H2⟩
  rename_i hb
  rw[hb]at f1
  have hv:a.eval (.tmp t)=.bool false:=by
   rw[f1.bool]at f2;simp[Act.eval,f2]
  obtain⟨k,q1,q2,q3⟩:=hback G hb
  refine wp_cond_false hv (wp_skip ?_)
  cases n1 with
  |none=>exact B .n k a w q1 q2 ⟨L,by simp[FL],q3⟩
  |some M=>
   refine B .n k a w q1 q2 ⟨M&&&L,by simp[FL],q3.mono (Gg λj O=>?_)⟩
   rw[Nat.testBit_and,AU]at O;exact O.2
  exact G.elim
  simp only[AS,Ae,AJ]at g
  obtain⟨⟨s1,h1,n1,e1⟩,hx,⟨s2,h2,n2,e2⟩,hy,rfl,rfl,rfl,rfl⟩:=g
  simp only[wpS]at G
  split at G
  rename_i hb
  rw[hb]at f1
  have hv:a.eval (.tmp t)=.bool true:=by
   rw[f1.bool]at f2;simp[Act.eval,f2]
  refine wp_cond_true hv (Fh hs hc hm x hh _ _ _ _ _ hx Q _ a w Z G (by simpa using V) U ?_)
  rintro z k l w' f N ⟨C,R,H2⟩
  cases z with
  |n=>
   cases n2 with
   |none=>
    have T:n1=some C:=R
    exact B .n k l w' f N ⟨C,by simp[FL,T],H2⟩
   |some M=>
    have T:n1=some C:=R
    refine B .n k l w' f N ⟨C&&&M,by simp[FL,T],H2.mono (Gg λj O=>?_)⟩
    rw[Nat.testBit_and,AU]at O;exact O.1
  |ex id=>exact B (.ex id) k l w' f N ⟨C,BN _ R,H2⟩
  |r=>exact B .r k l w' f N ⟨C,R,H2⟩
  rename_i hb
  rw[hb]at f1
  have hv:a.eval (.tmp t)=.bool false:=by
   rw[f1.bool]at f2;simp[Act.eval,f2]
  refine wp_cond_false hv (Fh hs hc hm y _ _ _ _ _ _ hy Q _ a w Z G (by simpa using V) U ?_)
  rintro z k l w' f N ⟨C,R,H2⟩
  cases z with
  |n=>
   have T:n2=some C:=R
   cases n1 with
   |none=>exact B .n k l w' f N ⟨C,by simp[FL,T],H2⟩
   |some M=>
    refine B .n k l w' f N ⟨M&&&C,by simp[FL,T],H2.mono (Gg λj O=>?_)⟩
    rw[Nat.testBit_and,AU]at O;exact O.2
  |ex id=>exact B (.ex id) k l w' f N ⟨C,BB _ R,H2⟩
  |r=>exact B .r k l w' f N ⟨C,R,H2⟩
  exact G.elim
  simp at g
 |.block id b,hh,L,s,Y,W,exs=>λg Q e a w Z G V H B=>by
  simp only[C6,Ae,AJ]at g
  obtain⟨⟨s1,h1,n1,e1⟩,hb,rfl,rfl,rfl,rfl⟩:=g
  simp only[wpS]at G
  refine wp_block (Fh hs hc hm b hh L _ _ _ _ hb _ e a w _ G V H ?_)
  rintro z k l w' f N ⟨C,R,U⟩
  cases z with
  |n=>
   have T:n1=some C:=R
   obtain⟨L2,q1,q2⟩:=QW (id:=id) (exs:=e1.filter (λx=>x.1==id)) (o:=n1) (L:=C) (.inr T)
   exact B .n k l w' f N ⟨L2,q1,U.mono (Gg q2)⟩
  |ex j=>
   have T:(j,C)∈e1:=R
   by_cases O:j=id
   .subst O
    have hq':Q .n k:=by simpa using N
    obtain⟨L2,q1,q2⟩:=QW (id:=j) (exs:=e1.filter (λx=>x.1==j)) (o:=n1) (L:=C) (.inl (by simp[T]))
    simp only[xe,Exit.inBlock,if_true]
    exact B .n k l w' f hq' ⟨L2,q1,U.mono (Gg q2)⟩
   .have hq':Q (.ex j) k:=by simpa[O]using N
    simp only[xe,Exit.inBlock,if_neg O]
    exact B (.ex j) k l w' f hq' ⟨C,by simp[T,O],U⟩
  |r=>exact B .r k l w' f N ⟨C,R,U⟩
 |.loop b,hh,L,s,Y,W,exs=>λg Q e a w Z G V H B=>by
  simp only[C6,Ae,AJ]at g
  obtain⟨⟨Lh,s1,h1,e1⟩,hb,rfl,rfl,rfl,rfl⟩:=g
  obtain⟨k1,nb,k2,k3⟩:=AK9 hb
  simp only at k1 k2 k3
  simp only[wpS]at G
  let J:Act->World->Nat->Prop:=λa w n=>∃e,Di (wpS K s1) n Q e/\e.length=vt.length/\Holds c (·∈Bw vt Lh) e.E a w
  let I:Act->World->Prop:=λa w=>∃n,J a w n
  open Classical in
  let μ:Act->World->Nat:=λa w=>if h:∃n,J a w n then Classical.choose (exists_least h)else 0
  have hμ:∀a w,I a w->J a w (μ a w)/\∀m,m < μ a w->¬J a w m:=by
   intro a w h
   have h':∃n,J a w n:=h
   simp only[μ,dif_pos h']
   exact Classical.choose_spec (exists_least h')
  obtain⟨n,hn⟩:=G
  refine wp_loop I μ ⟨n,e,hn,V,H.mono (Gg (Uu k1))⟩ ?_
  intro a w hI
  obtain⟨⟨e,hw,hl2,H2⟩,hmin⟩:=hμ a w hI
  generalize hμn:μ a w=n at*
  cases n with
  |zero=>simp[Di]at hw
  |succ n=>
   simp only[Di]at hw
   refine Fh hs hc hm b hh Lh _ _ _ _ k2 _ e a w _ hw hl2 H2 ?_
   rintro z k l w' f N ⟨C,R,U⟩
   cases z with
   |n=>
    have hJ:J l w' n:=⟨k,N,f,U.mono (Gg (Uu (k3 C R)))⟩
    refine⟨⟨n,hJ⟩,?_⟩
    have:=hμ l w' ⟨n,hJ⟩
    have hle:¬n < μ l w':=λq=>this.2 n q hJ
    show μ l w' < n+1
    omega
   |ex id=>exact B (.ex id) k l w' f N ⟨C,R,U⟩
   |r=>exact B .r k l w' f N ⟨C,R,U⟩
 |.exit id,hh,L,s,Y,W,exs=>λg Q e a w Z G V H B=>by
  simp only[C6,AL,AJ]at g
  obtain⟨rfl,rfl,rfl,rfl⟩:=g
  exact wp_exit (B (.ex id) e a w V G ⟨L,by simp,H⟩)
 |.ret,hh,L,s,Y,W,exs=>λg Q e a w Z G V H B=>by
  simp only[C6]at g
  split at g
  rename_i hr
  simp only[AL,AJ]at g
  obtain⟨rfl,rfl,rfl,rfl⟩:=g
  exact wp_ret (B .r e a w V G ⟨L,λi hi=>Aj.1 hr i hi,H⟩)
  simp at g
 |.cond (.const v) x y,hh,L,s,Y,W,exs=>λg Q e a w Z G V H B=>by
  cases v with
  |bool b=>
   simp only[C6,AS,Ae]at g
   obtain⟨⟨s1,h1,n1,e1⟩,hx,⟨s2,h2,n2,e2⟩,hy,heq⟩:=g
   cases b with
   |true=>
    simp only[if_true,AJ]at heq
    obtain⟨rfl,rfl,rfl,rfl⟩:=heq
    exact wp_cond_true rfl (Fh hs hc hm x hh _ _ _ _ _ hx Q _ a w Z G V H B)
   |false=>
    simp only[Gw,if_false,AJ]at heq
    obtain⟨rfl,rfl,rfl,rfl⟩:=heq
    exact wp_cond_false rfl (Fh hs hc hm y _ _ _ _ _ _ hy Q _ a w Z G V H B)
  |_=>simp[C6]at g
 |.cond (.global _) _ _,_,_,_,_,_,_=>λg=>by simp[C6]at g
 |.cond (.func _) _ _,_,_,_,_,_,_=>λg=>by simp[C6]at g
 |.rangeFunc ..,_,_,_,_,_,_=>λg=>by simp[C6]at g
 |.scope _,_,_,_,_,_,_=>λg=>by simp[C6]at g
 |.label _,_,_,_,_,_,_=>λg=>by simp[C6]at g
 |.goto _,_,_,_,_,_,_=>λg=>by simp[C6]at g
 |.refuse _,_,_,_,_,_,_=>λg=>by simp[C6]at g
end
structure IF where
 cl:List (Nat×Nat)
 np:Nat
 nv:Nat
 res:List Nat
 body:S
def Fl(cl:List (Nat×Nat))(rs:List D):Bool:=cl.all λx=>match rs[x.1]? with
 |some d=>Iw x.2 d
 |none=>false
def Body(K:Nat->List D->List D->Prop)(f:IF)(s rs:List D):Prop:=
 (s.length=f.np/\Fl f.cl rs=true)/\wpS K f.body (λx e=>(match x with|.ex _=>False|_=>True)/\rs=f.res.map e.E) (s++List.replicate (f.nv-f.np) .u)
def Im(P:Program)(vt:VT):List ResultVar->Option (List (Nat×Option Nat))
 |[]=>some []
 |.tmp t::r=>(idxOf vt t).bind λi=>(Im P vt r).map ((i,none)::·)
 |.cell t ty::r=>(Dj P ty).bind λn=>(idxOf vt t).bind λi=>(Im P vt r).map ((i,some n)::·)
def NJ:Option (Nat×Nat×List Nat)->List Nat
 |none=>[]
 |some x=>x.1::x.2.2
def AD2(vt:VT)(ps:List Sh):Bool:=ps.zipIdx.all λx=>vt[x.2]?==some (x.2,x.1)
def Nh:Option Nat->Sh->Option Sh
 |none,q=>some q
 |some _,.b s=>some (.a s)
 |some _,_=>none
def XO(vt:VT)(R:List (Nat×Option Nat))(qs:List Sh):Bool:=R.length==qs.length&&(R.zip qs).all λx=>((vt[x.1.1]?).bind λy=>Nh x.1.2 y.2)==some x.2
def O5(R:List (Nat×Option Nat)):List (Nat×Nat):=R.zipIdx.filterMap λx=>x.1.2.map λn=>(x.2,n)
def Xg(res:List Nat):Option Nat->Bool
 |some L=>res.all (λi=>L.testBit i)
 |none=>true
def Oi(cf:CF)(sg:Nat->Option Sg)(vt:VT)(h:HL)(fn:Func)(s:Sg):Option IF:=
 match fn.body with
 |none=>none
 |some code=>(Im cf.P vt fn.results.toList).bind λx=>(C6 cf sg vt (x.map (·.1)++s.io) code h (2^s.ps.length-1)).bind λr=>
  if s.ps.length<=vt.length/\s.ps.length<=fn.ntmps/\AD2 vt s.ps=true/\XO vt (x++s.io.map λi=>(i,none)) s.outs=true/\(x.map (·.1)++s.io).Nodup/\r.2.2.2=[]/\Xg (x.map (·.1)++s.io) r.2.2.1=true/\cf.nt=fn.ntmps/\
    ((s.io++NJ s.fb).all λi=>cf.fx.contains i&&decide (i<s.ps.length))=true/\x.length=s.qs.length/\cf.cl=s.fb then
   some ⟨O5 x,s.ps.length,vt.length,x.map (·.1)++s.io,r.1⟩
  else none
theorem Sl{P:Program}{vt:VT}:∀{l:List ResultVar}{res:List (Nat×Option Nat)},Im P vt l=some res->l.length=res.length/\
  ∀(j:Nat)(x:Nat×Option Nat),res[j]?=some x->∃t s,vt[x.1]?=some (t,s)/\((x.2=none/\l[j]?=some (ResultVar.tmp t))\/∃n ty,x.2=some n/\Dj P ty=some n/\l[j]?=some (ResultVar.cell t ty))
 |[],res,h=>by simp only[Im,AL]at h;subst h;simp
 |.tmp t::l,res,h=>by
  simp only[Im,AS,Ae]at h;obtain⟨i,hi,r,f,rfl⟩:=h;obtain⟨e,b⟩:=Sl f;refine⟨by simp[e],λj k H=>?_⟩
  cases j with
  |zero=>
   simp at H;subst H
   obtain⟨s,g⟩:=Ux hi
   exact⟨t,s,g,.inl ⟨rfl,by simp⟩⟩
  |succ j=>simpa using b j k (by simpa using H)
 |.cell t ty::l,res,h=>by
  simp only[Im,AS,Ae]at h;obtain⟨n,q,i,hi,r,f,rfl⟩:=h;obtain⟨e,b⟩:=Sl f;refine⟨by simp[e],λj k H=>?_⟩
  cases j with
  |zero=>
   simp at H;subst H
   obtain⟨s,g⟩:=Ux hi
   exact⟨t,s,g,.inr ⟨n,ty,rfl,q,by simp⟩⟩
  |succ j=>simpa using b j k (by simpa using H)
theorem AbK{x:List (Nat×Option Nat)}{rs:List D}(h:Fl (O5 x) rs=true){j i n:Nat}(H:x[j]?=some (i,some n)):∃xs,rs[j]?=some (.g xs)/\xs.length=n:=by
 simp only[Fl,Aj]at h;have:=h (j,n) (by unfold O5;refine List.mem_filterMap.2 ⟨((i,some n),j),?_,rfl⟩;rw[List.mem_iff_getElem?];exact⟨j,by simp[List.getElem?_zipIdx,H]⟩);simp only at this;split at this;rename_i d hd;unfold Iw at this;split at this;rename_i xs;exact⟨xs,hd,by simpa using this⟩
 cases this
 cases this
theorem AB6{n i:Nat}:(2^n-1).testBit i=decide (i<n):=Nat.testBit_two_pow_sub_one n i
theorem BO.of{α:Type}{R:Sh->D->Value->List Nat->Prop}{E:α->D}{vs:α->Value}{Bs:α->List Nat}:∀(res:List α)(qs:List Sh),res.length=qs.length->
  (∀(j:Nat)(i:α)(q:Sh),res[j]?=some i->qs[j]?=some q->R q (E i) (vs i) (Bs i))->BO R qs (res.map E) (res.map vs) (res.flatMap Bs)
 |[],[],_,_=>by simp[BO]
 |i::res,q::qs,l,h=>by simp only[List.map_cons,List.flatMap_cons,BO];exact⟨Bs i,res.flatMap Bs,rfl,h 0 i q (by simp) (by simp),BO.of res qs (by simpa using l) λj k r H b=>h (j+1) k r (by simpa using H) (by simpa using b)⟩
 |[],_::_,l,_=>by simp at l
 |_::_,[],l,_=>by simp at l
theorem AKF{P:Program}{w:World}{tm:Array Value}:∀(l:List ResultVar)(s:List Value),l.length=s.length->
  (∀(j:Nat)(v:Value),s[j]?=some v->(∃t,l[j]?=some (ResultVar.tmp t)/\tm.getD t undef=v)\/∃t ty,l[j]?=some (ResultVar.cell t ty)/\(do loadVar ty (<-asAddr (tm.getD t undef)):Sem Value).run P w=.ok v w)->
  (l.mapM (λ(x:ResultVar)=>match x with|.tmp t=>(Pure.pure (tm.getD t undef):Sem Value)|.cell a t=>do loadVar t (<-asAddr (tm.getD a undef)))).run P w=.ok s w
 |[],[],_,_=>rfl
 |r::l,v::s,b,h=>by
  rw[List.mapM_cons,Sem.run_bind];have i:=AKF l s (by simpa using b) λj v f=>by simpa using h (j+1) v (by simpa using f)
  rcases h 0 v (by simp)with⟨t,H,e⟩|⟨t,ty,H,e⟩
  simp only[List.getElem?_cons_zero,AL]at H;subst H;simp only[Sem.run_pure,Result.andThen,Sem.run_bind];rw[i];simp[e];simp only[List.getElem?_cons_zero,AL]at H;subst H;simp only[e,Result.andThen,Sem.run_bind];rw[i];simp
 |[],_::_,b,_=>by simp at b
 |_::_,[],b,_=>by simp at b
section
variable{cf:CF}{sg:Nat->Option Sg}{K:Nat->List D->List D->Prop}{vt:VT}
theorem AW3(l:List Value):Ip (if h:l.toArray.size=1 then l.toArray[0]else .tuple l.toArray) l:=by
 match l with
 |[]=>simp[Ip]
 |[x]=>simp[Ip]
 |x::y::l=>simp[Ip]
theorem AH7{α β:Type}:∀{l:List (α×β)},l.Pairwise (λa b=>a.1≠b.1)->∀x∈l,∀y∈l,x≠y->x.1≠y.1
 |[],_,x,i,_,_,_=>by simp at i
 |a::l,h,x,i,y,k,f=>by obtain⟨j,q⟩:=List.pairwise_cons.1 h;rcases AY.1 i with rfl|g;rcases AY.1 k with rfl|H;exact(f rfl).elim;exact j y H;rcases AY.1 k with rfl|H;exact λe=>j x g e.symm;exact AH7 q x g y H f
theorem AQ3(hs:Sound cf sg K)(W:cf.P.follows .mixedOrders=true)(hgof:∀f k,cf.gof f=some k->cf.fid k=f){hl:HL}{fn:Func}{s:Sg}{f:IF}{fi:FuncId}
  (Z:Oi cf sg vt hl fn s=some f) (hfn:cf.P.funcs[fi]?=some fn) {ds rs:List D} (I:Body K f ds rs):G5 cf.P cf.fid fi s ds rs:=by
 intro w X args B hB hX hargs hfbc;unfold Oi at Z;split at Z
 .simp at Z
 .rename_i code hcode;simp only[AS]at Z;obtain⟨T,hres,⟨st,hl2,nrm,exs⟩,htr,Z⟩:=Z;split at Z
  .rename_i hcond;obtain⟨c1,c2,c3,c4,c5,c6,c7,c8,c9,c10,c11⟩:=hcond;simp only[Aj,AU,List.contains_eq_mem,Ad]at c9;simp only[AL]at Z;subst Z;subst c6;obtain⟨⟨hdl,V⟩,hwp⟩:=I;obtain⟨l1,l2,bf,k1,k2,k3,k4⟩:=BO.fn hargs hB;let c:Cx:=⟨cf.P,cf.fid,w,(·∈B),X,cf.nt,(s.io++NJ s.fb).map λi=>(i,args.getD i undef),hX⟩;have hc:cf.Fits c:=⟨rfl,rfl,rfl,hgof,by
    intro x hx;obtain⟨i,hi,rfl⟩:=List.mem_map.1 hx;exact(c9 i hi).1,by
    intro m k cs V;rw[c11]at V;rw[V]at hfbc;obtain⟨b,hs,e,fz,q1,q2,q3,q4⟩:=hfbc;refine⟨b,hs,e,fz,λi=>args.getD i undef,?_,?_,q2,q3,q4⟩
    .refine List.mem_map.2 ⟨m,BB _ (by rw[V];simp[NJ]),?_⟩;simp[Ap,q1]
    .intro t Z;exact List.mem_map.2 ⟨t,BB _ (by rw[V];simp[NJ,Z]),rfl⟩⟩
   let a0:Act:={ tmps:=args.toArray++Array.replicate (fn.ntmps-args.toArray.size) undef,defers:=[] };let e0:Env:=ds++List.replicate (vt.length-s.ps.length) D.u;have he0:e0.length=vt.length:=by simp[e0];omega
   have pv:∀i t sh,vt[i]?=some (t,sh)->(2^s.ps.length-1).testBit i=true->i<s.ps.length/\t=i/\s.ps[i]?=some sh:=by
    intro i t sh L M;rw[AB6]at M;have hi:i<s.ps.length:=by simpa using M
    simp only[AD2,Aj]at c3;have:=c3 (s.ps[i],i) (List.mem_zipIdx_iff_getElem?.2 (by simp[hi]));simp only[beq_iff_eq]at this;rw[L]at this;simp only[AL,AJ]at this;exact⟨hi,this.1,by rw[this.2];simp[hi]⟩
   have getE:∀i,i<ds.length->e0.E i=ds.getD i .u:=by intro i hi;simp[Env.E,e0,Ap,DP hi]
   have H0:Holds c (·∈Bw vt (2^s.ps.length-1)) e0.E a0 w:=by
    refine⟨⟨λi=>args.getD i undef,bf,?_,?_,?_,?_,?_,Ao.refl _ _,rfl,rfl,rfl,rfl,?_⟩,?fixed⟩
    case fixed=>
     intro x hx
     obtain⟨i,hi,rfl⟩:=List.mem_map.1 hx
     have hil:=(c9 i hi).2
     show(args.toArray++Array.replicate (fn.ntmps-args.toArray.size) undef)[i]?=_
     rw[Array.getElem?_append_left (by simp;omega)]
     simp[Ap,show i<args.length by omega]
    intro n sh hf;obtain⟨i,t,s',L,M,G⟩:=D6.1 hf;rcases G with G|G;simp at G;injection G with O Q;subst O Q;obtain⟨q1,q2,q3⟩:=pv n t sh L M;rw[getE n (by omega)];have:=k1 n sh (ds.getD n .u) (args.getD n undef) q3 (by simp[Ap,show n<ds.length by omega]) (by simp[Ap,show n<args.length by omega]);refine AE.ext (Ao.refl (λ_=>False) _) (λ_ _ q=>q.elim) (λb _ I=>?_) _ _ _ _ (λ_ _ q=>q) this;obtain⟨m,r,W,hbm⟩:=I;obtain⟨i2,t2,s2,g1,g2,g3⟩:=D6.1 W;rcases g3 with g3|g3;simp at g3;injection g3 with O Q;subst O Q;exact(k2 m (by have:=(pv m t2 r g1 g2).1;omega)).2 b hbm;intro n sh hf;obtain⟨i,t,s',L,M,G⟩:=D6.1 hf;rcases G with G|G;simp at G;injection G with O Q;subst O Q;exact(k2 n (by have:=(pv n t sh L M).1;omega)).1;intro n sh hf b I;obtain⟨i,t,s',L,M,G⟩:=D6.1 hf;rcases G with G|G;simp at G;injection G with O Q;subst O Q;exact .inr ((k2 n (by have:=(pv n t sh L M).1;omega)).2 b I);intro n sh m r hf hg hne b I hb2;obtain⟨i,t,s',L,M,G⟩:=D6.1 hf;obtain⟨i2,t2,s2,g1,g2,g3⟩:=D6.1 hg;rcases G with G|G;simp at G;rcases g3 with g3|g3;simp at g3;injection G with O Q;subst O Q;injection g3 with O Q;subst O Q;have p1:=(pv n t sh L M).1;have p2:=(pv m t2 r g1 g2).1;exact k3 n m (by omega) (by omega) hne b I hb2;intro t l hf;obtain⟨i,t',s',L,M,G⟩:=D6.1 hf;rcases G with G|G;injection G with O Q;subst O Q;obtain⟨q1,q2,q3⟩:=pv i t s' L M;subst q2;refine⟨λ_=>?_,λq=>(q (by simp[Am])).elim⟩;show(args.toArray++Array.replicate (fn.ntmps-args.toArray.size) undef)[t]?=_;rw[Array.getElem?_append_left (by simp;omega)];simp[Ap,show t<args.length by omega];simp at G;show(args.toArray++Array.replicate (fn.ntmps-args.toArray.size) undef).size=cf.nt;simp;omega
   refine calls_of_wp hfn hcode ?_;refine Fh hs hc W code hl _ _ _ _ _ htr _ e0 a0 w _ hwp he0 H0 ?_;rintro z e' a' w' hl' ⟨hz1,hz2⟩ ⟨L',hz,⟨vs,Bs,H⟩,hfix⟩;have hrL:(∃id,z=.ex id)\/rOK (T.map (·.1)++s.io) L':=by
    cases z with
    |n=>
     right
     have hz':nrm=some L':=hz
     simp only[hz',Xg]at c7
     exact λi hi=>Aj.1 c7 i hi
    |ex id=>exact .inl ⟨id,rfl⟩
    |r=>exact .inr hz
   rcases hrL with⟨id,rfl⟩|hrL
   .exact hz1.elim
   have hres2:=Sl hres;simp only[XO,AU,beq_iff_eq,Aj]at c4;obtain⟨J,Y⟩:∃J:List (Nat×Option Nat),J=T++s.io.map λi=>(i,none):=⟨_,rfl⟩;have hro1:T.map (·.1)++s.io=J.map (·.1):=by rw[Y];simp[List.map_map,Function.comp_def]
   rw[hro1]at c5 hrL;have hz2:rs=(T.map (·.1)++s.io).map e'.E:=hz2;rw[hro1]at hz2;rw[<-Y]at c4;have R:∀(j:Nat)(x:Nat×Option Nat),J[j]?=some x->∃t q q',vt[x.1]?=some (t,q)/\Nh x.2 q=some q'/\s.outs[j]?=some q'/\Fact.en x.1 q∈Bw vt L'/\Fact.sl t (.is x.1 [])∈Bw vt L':=by
    intro j x N;have hL:=hrL x.1 (List.mem_map.2 ⟨x,List.mem_of_getElem? N,rfl⟩);have hjl:j<J.length:=by
     rcases B7 j J.length with q|q
     .exact q
     .rw[D7 q]at N;simp at N
    have hjq:s.outs[j]?=some (s.outs[j]'(by omega)):=by simp
    have:=c4.2 (x,s.outs[j]'(by omega)) (by rw[List.mem_iff_getElem?];exact⟨j,by simp[List.getElem?_zip_eq_some,N]⟩)
    cases hvi:vt[x.1]? with
    |none=>rw[hvi]at this;simp at this
    |some tq=>
     obtain⟨t,q⟩:=tq
     rw[hvi]at this
     simp only[Option.bind_some]at this
     exact⟨t,q,_,rfl,this,hjq,D6.2 ⟨x.1,t,q,hvi,hL,.inr rfl⟩,D6.2 ⟨x.1,t,q,hvi,hL,.inl rfl⟩⟩
   have hv:∀x,x∈J->∃q,Fact.en x.1 q∈Bw vt L':=by intro x hi;obtain⟨j,N⟩:=List.mem_iff_getElem?.1 hi;obtain⟨t,q,_,_,_,_,G,_⟩:=R j x N;exact⟨q,G⟩
   let U:Nat×Option Nat->Value:=λx=>match x.2 with
   |none=>vs x.1
   |some _=>match vs x.1 with
    |.pointer (some ⟨b,_,_⟩)=>match w'.heap[b]? with
     |some (.cells cs _ _)=>.agg cs
     |_=>undef
    |_=>undef
   let C:Nat×Option Nat->List Nat:=λx=>match x.2 with
   |none=>Bs x.1
   |some _=>(Bs x.1).tail
   have hCB:∀x,∀b∈C x,b∈Bs x.1:=by
    intro x b I;obtain⟨i,k⟩:=x
    cases k with
    |none=>exact I
    |some n=>exact List.mem_of_mem_tail I
   have hroN:J.Nodup:=(List.pairwise_map.1 c5).imp λh e=>h (congrArg _ e);have hinj:∀x∈J,∀y∈J,x≠y->x.1≠y.1:=AH7 (List.pairwise_map.1 c5);have hBn:(J.flatMap C).Nodup:=by
    have key:∀l:List (Nat×Option Nat),(∀x∈l,x∈J)->l.Nodup->(l.flatMap C).Nodup:=by
     intro l;induction l with
     |nil=>intro _ _;simp
     |cons x l ih=>
      intro W hn
      obtain⟨n1,n2⟩:=List.nodup_cons.1 hn
      simp only[List.flatMap_cons]
      obtain⟨s1,hs1⟩:=hv x (W x (List.mem_cons_self ..))
      refine List.nodup_append.2 ⟨?_,ih (λy hy=>W y (BL _ hy)) n2,λb I b' hb' e=>?_⟩
      .have h0:=H.nodup x.1 s1 hs1
       obtain⟨i,k⟩:=x
       cases k with
       |none=>exact h0
       |some n=>exact List.Nodup.sublist (List.tail_sublist _) h0
      .subst e
       obtain⟨y,hy,hb2⟩:=List.mem_flatMap.1 hb'
       obtain⟨s2,hs2⟩:=hv y (W y (BL _ hy))
       exact H.apart x.1 s1 y.1 s2 hs1 hs2 (hinj x (W x (List.mem_cons_self ..)) y (W y (BL _ hy)) (λe=>n1 (e▸hy))) b (hCB x b I) (hCB y b hb2)
    exact key J (λ_ h=>h) hroN
   have hio:s.io.map vs=s.io.map λi=>args.getD i undef:=by
    apply List.map_congr_left;intro i hi;have hmem:(i,none)∈J:=by rw[Y];exact BB _ (List.mem_map.2 ⟨i,hi,rfl⟩)
    obtain⟨j,N⟩:=List.mem_iff_getElem?.1 hmem;obtain⟨t,q,_,L,_,_,_,h4⟩:=R j _ N;obtain⟨_,rfl,_⟩:=pv i t q L (by rw[AB6];simpa using(c9 i (BN _ hi)).2);have O:=(H.loc t _ h4).1 (by simp[Am]);have Q:=hfix (t,args.getD t undef) (List.mem_map.2 ⟨t,BN _ hi,rfl⟩);rw[O]at Q;injection Q
   have cell:∀(j i n:Nat),J[j]?=some (i,some n)->∃q xs b cs e B',Fact.en i (.b q)∈Bw vt L'/\s.outs[j]?=some (.a q)/\e'.E i=.g xs/\xs.length=n/\vs i=.pointer (some ⟨b,0,none⟩)/\w'.heap[b]?=some (.cells cs e (0,0))/\cs.size=n/\Bs i=b::B'/\
     AM (AE cf.fid w'.heap (OB (·∈Bw vt L') Bs) X q) xs cs.toList B':=by
    intro j i n N
    obtain⟨t,q,q',L,M,G,h4,h5⟩:=R j _ N
    cases q with
    |b q=>
     simp only[Nh,AL]at M
     subst M
     have hown:=H.own i _ h4
     simp only[AE]at hown
     obtain⟨xs,b,cs,e,fz,B',k1,k2,k3,k4,k5,k6,k7⟩:=hown
     have hfz:fz=(0,0):=k5
     subst hfz
     have hjr:T[j]?=some (i,some n):=by
      rw[Y]at N
      rcases B7 j T.length with r|r
      rwa [DP r]at N
      rw[GK r]at N
      simp only[List.getElem?_map,Ae,AJ]at N
      obtain⟨_,_,_,h⟩:=N
      cases h
     obtain⟨ys,z1,z2⟩:=AbK V hjr
     have hrs:rs[j]?=some (e'.E i):=by rw[hz2];simp[N]
     rw[hrs,k1]at z1
     injection z1 with z1
     injection z1 with z1
     subst z1
     exact⟨q,xs,b,cs,e,B',h4,G,k1,z2,k3,k4,by omega,k2,k7⟩
    |_=>simp[Nh]at M
   have hUc:∀(i n:Nat)(b:Nat)(cs:Array Value)(e:TypeId),vs i=.pointer (some ⟨b,0,none⟩)->w'.heap[b]?=some (.cells cs e (0,0))->U (i,some n)=.agg cs:=by intro i n b cs e L M;simp only[U,L,M]
   have hEach:BO (AE cf.fid w'.heap (·∈J.flatMap C) X) s.outs rs (T.map U++s.io.map λi=>args.getD i undef) (J.flatMap C):=by
    have hmapU:T.map U++(s.io.map λi=>args.getD i undef)=J.map U:=by rw[Y,List.map_append,<-hio];simp[List.map_map,Function.comp_def,U]
    rw[hmapU,hz2,List.map_map];refine BO.of J s.outs c4.1 λj x q L M=>?_;have hO:∀b,b∈J.flatMap C->OB (·∈Bw vt L') Bs b:=by intro b I;obtain⟨m,W,I⟩:=List.mem_flatMap.1 I;obtain⟨r,hr⟩:=hv m W;exact⟨m.1,r,hr,hCB m b I⟩
    obtain⟨i,k⟩:=x
    cases k with
    |none=>
     obtain⟨t,q0,q',_,G,h4,h5,_⟩:=R j _ L
     simp only[Nh,AL]at G
     subst G
     rw[M]at h4;injection h4 with h4;subst h4
     exact AE.ext (Ao.refl (λ_=>False) _) (λ_ _ q=>q.elim) (λb _ I=>hO b I) _ _ _ _ (λ_ _ q=>q) (H.own i q h5)
    |some n=>
     obtain⟨q0,xs,b,cs,e,B',z1,z2,z3,z4,z5,z6,z7,z8,z9⟩:=cell j i n L
     rw[M]at z2;injection z2 with z2;subst z2
     rw[hUc i n b cs e z5 z6]
     show AE cf.fid w'.heap (·∈J.flatMap C) X (.a q0) (e'.E i) (.agg cs) (Bs i).tail
     rw[z3,z8]
     simp only[AE,List.tail_cons]
     refine⟨xs,cs,rfl,rfl,by omega,AM.imp (λd v B1 _ r=>?_) z9⟩
     exact AE.ext (Ao.refl (λ_=>False) _) (λ_ _ q=>q.elim) (λb _ I=>hO b I) _ _ _ _ (λ_ _ q=>q) r
   have hvals:∀(j:Nat)(v:Value),(T.map U)[j]?=some v->(∃t,fn.results.toList[j]?=some (ResultVar.tmp t)/\a'.tmps.getD t undef=v)\/∃t ty,fn.results.toList[j]?=some (ResultVar.cell t ty)/\(do loadVar ty (<-asAddr (a'.tmps.getD t undef)):Sem Value).run cf.P w'=.ok v w':=by
    intro j v N;simp only[List.getElem?_map,Ae]at N;obtain⟨x,hi,rfl⟩:=N;obtain⟨t,s1,L,h7⟩:=hres2.2 j x hi;have hj2:J[j]?=some x:=by rw[Y,DP];exact hi;rcases B7 j T.length with q|q;exact q;rw[D7 q]at hi;simp at hi
    obtain⟨t2,q,q',h1',_,_,_,h6⟩:=R j x hj2;rw[L]at h1';simp only[AL,AJ]at h1';obtain⟨rfl,rfl⟩:=h1';have hl:=(H.loc t _ h6).1 (by simp[Am]);have hg:a'.tmps.getD t undef=vs x.1:=by simp[CX,hl]
    rcases h7 with⟨h7,h8⟩|⟨n,ty,h7,h8,h9⟩;left;refine⟨t,h8,?_⟩;rw[hg];obtain⟨i,k⟩:=x;simp only at h7;subst h7;rfl;right;refine⟨t,ty,h9,?_⟩;obtain⟨i,k⟩:=x;simp only at h7;subst h7;obtain⟨q0,xs,b,cs,e,B',z1,z2,z3,z4,z5,z6,z7,z8,z9⟩:=cell j i n hj2;rw[hUc i n b cs e z5 z6,hg,z5];obtain⟨fs,inf,y1,y2,y3,_,_⟩:=J6 h8;have:=run_loadVar_row (P:=cf.P) w' b e ty cs (0,0) (.struct fs) z6 y1 rfl (by simp[y2,y3,z7])
    simpa[asAddr]using this
   have hrun:(results fn a'.tmps).run cf.P w'=.ok (if h:(T.map U).toArray.size=1 then(T.map U).toArray[0]else .tuple (T.map U).toArray) w':=by unfold results;rw[Sem.run_bind];have O:=AKF (P:=cf.P) (w:=w') (tm:=a'.tmps) fn.results.toList (T.map U) (by simp[hres2.1]) hvals;rw[Array.mapM_eq_mapM_toList,Sem.run_map];erw [O];rfl
   have hQ:∃v,(results fn a'.tmps).run cf.P w'=.ok v w'/\∃v_1 vs_1 B',Ending.returned v=.returned v_1/\Ip v_1 vs_1/\vs_1.length=s.qs.length/\Ao (·∈B) w.heap w'.heap/\w'.os=w.os/\w'.tape=w.tape/\w'.output=w.output/\
     B'.Nodup/\(∀b∈B',b∈B\/w.heap.size<=b)/\BO (AE cf.fid w'.heap (·∈B') X) s.outs rs (vs_1++s.io.map λi=>args.getD i undef) B':=by
    refine⟨_,hrun,_,T.map U,J.flatMap C,rfl,?_,by simp[c10],H.agr,H.os,H.tape,H.output,hBn,?_,hEach⟩
    .exact AW3 _
    .intro b I
     obtain⟨m,W,I⟩:=List.mem_flatMap.1 I
     obtain⟨r,hr⟩:=hv m W
     exact(H.mine m.1 r hr b (hCB m b I)).symm
   cases z with
   |n=>exact⟨H.defers,hQ⟩
   |ex id=>exact hz1.elim
   |r=>exact⟨H.defers,hQ⟩
  .simp at Z
end
end Go.Cat
namespace Go.Cat
section
variable(cf:CF)(sg:Nat->Option Sg)
def ABR(ops:Array Oper)(st:List Fact)(AA:Nat)(o:Oper)(k:Nat):Option (It×Sm):=
 (Ms ops st o.guard).bind λg=>(Ok cf sg st AA o g.1 k).map λps=>(⟨skZ sg g.1 ps.1,g.1,ps.1⟩,RH k ps.2)
def qIt(ops:Array Oper)(st:List Fact)(AA:Nat)(o:Oper)(k:Nat):Option (It×Sm):=
 if 2000000<=k then(ABR cf sg ops st AA o 0).bind λq=>(Kk (Hi st o.dst q.2) AA (k-2000000)).map λps=>
   (⟨[],[],ps.1⟩,⟨[],q.2.kill++ps.2.kill,ps.2.adds++q.2.adds.filter (Ee none ps.2.kill)⟩)
 else ABR cf sg ops st AA o k
def Oj:List Fact->Nat->List Nat->Option (List It×List Fact×Nat×List Nat)
 |st,AA,[]=>some ([],st,AA,[])
 |st,AA,k::h=>if 100000<=k then(Kk st AA k).bind λps=>
   (Oj (Hi st none ps.2) (AA+ps.1.np) h).map λr=>(⟨[],[],ps.1⟩::r.1,r.2)
  else some ([],st,AA,k::h)
def VO(g:Bool)(ops:Array Oper):List Oper->List Fact->Nat->List Nat->Option (List It×List Fact×Nat)
 |[],st,AA,h=>if g then(Oj st AA h).map λr=>(r.1,r.2.1,r.2.2.1)else some ([],st,AA)
 |o::os,st,AA,h=>(if g then Oj st AA h else some ([],st,AA,h)).bind λr=>(qIt cf sg ops r.2.1 r.2.2.1 o (r.2.2.2.headD 0)).bind λq=>
   (VO g ops os (Hi r.2.1 o.dst q.2) (r.2.2.1+q.1.p.np) r.2.2.2.tail).map λ(z:List It×List Fact×Nat)=>(r.1++q.1::z.1,z.2)
def WC(st:List Fact)(mask:Nat):Nat->VT->List (Option Nat)
 |_,[]=>[]
 |i,(t,_)::r=>(if mask.testBit i then match Bm st t with
   |some (.is n _)=>some n
   |_=>none
  else none)::WC st mask (i+1) r
def Xy:List (Bool×Array Oper×List Nat)->List Fact->Nat->Option (List It×List Fact×Nat)
 |[],st,AA=>some ([],st,AA)
 |x::l,st,AA=>match VO cf sg x.1 x.2.1 x.2.1.toList st AA x.2.2 with
  |some (a,b,c)=>match Xy l b c with
   |some (e,y)=>some (a++e,y)
   |none=>none
  |none=>none
def UX(vt:VT)(l:List (Bool×Array Oper×List Nat))(L mask:Nat):Option S:=
 (Xy cf sg l (Bw vt L) vt.length).map λr=>.reg r.1 (WC r.2.1 mask 0 vt)
def qPro(vt:VT)(ops:Array Oper)(L:Nat)(h:Nat×List Nat):Option S:=
 (match h.2 with
  |k::_=>if 500000<=k/\k<600000 then Oj (Bw vt L) vt.length h.2 else some ([],Bw vt L,vt.length,h.2)
  |[]=>some ([],Bw vt L,vt.length,[])).bind λp=>(VO cf sg false ops ops.toList p.2.1 p.2.2.1 p.2.2.2).map λ(r:List It×List Fact×Nat)=>.reg (p.1++r.1) (WC r.2.1 h.1 0 vt)
variable(vt:VT)
def qS(m:Bool):Code->HL->Nat->Tr
 |.skip,H,L=>some (.skip,H,some L,[])
 |.region _ ops _,h::H,L=>(if m then some .skip else if AG6 h=true then UX cf sg vt [(true,ops,h.2.tail)] L h.1
   else qPro cf sg vt ops L h).map λs=>(s,H,some h.1,[])
 |.seq a b,H,L=>if ALO H=true then match a,b,H with
  |.region _ O false,.seq (.region _ k false) (.seq (.region _ I false) (.seq (.region _ J false) (.seq (.region _ M false) (.seq (.region _ N false) d)))),g::f::B::C::G::j::e=>
   (if m then some .skip else UX cf sg vt [(true,O,g.2.tail),(true,k,f.2),(true,I,B.2),(true,J,C.2),(true,M,G.2),(true,N,j.2)] L j.1).bind λs=>(qS m d e j.1).map λq=>(.seq s q.1,q.2.1,q.2.2.1,q.2.2.2)
  |.region _ O false,.seq (.region _ k false) d,g::f::e=>(if m then some .skip else UX cf sg vt [(false,O,g.2.tail),(false,k,f.2)] L f.1).bind λs=>(qS m d e f.1).map λq=>(.seq s q.1,q.2.1,q.2.2.1,q.2.2.2)
  |_,_,_=>none
  else(qS m a H L).bind λr=>match r.2.2.1 with
  |none=>some (.seq r.1 .skip,r.2.1,none,r.2.2.2)
  |some l=>(qS m b r.2.1 l).map λq=>(.seq r.1 q.1,q.2.1,q.2.2.1,r.2.2.2++q.2.2.2)
 |.cond (.tmp t) x y,H,L=>(idxOf vt t).bind λi=>
  if Kg t x y=true then(qS m y H (L ^^^ 2^i)).map λq=>(.cond i (KR vt.length L i true) q.1,q.2.1,FL (some L) q.2.2.1,q.2.2.2)
  else if Kg t y x=true then(qS m x H (L ^^^ 2^i)).map λr=>(.cond i r.1 (KR vt.length L i false),r.2.1,FL r.2.2.1 (some L),r.2.2.2)
  else(qS m x H (L ^^^ 2^i)).bind λr=>(qS m y r.2.1 (L ^^^ 2^i)).map λq=>(.cond i r.1 q.1,q.2.1,FL r.2.2.1 q.2.2.1,r.2.2.2++q.2.2.2)
 |.cond (.const (.bool b)) x y,H,L=>(qS m x H L).bind λr=>(qS m y r.2.1 L).map λq=>if b=true then(r.1,q.2.1,r.2.2.1,r.2.2.2)else(q.1,q.2.1,q.2.2.1,q.2.2.2)
 |.block id b,H,L=>(qS m b H L).map λr=>
  (.block id r.1,r.2.1,(r.2.2.2.filter (λx=>x.1==id)).foldl (λo x=>KG o x.2) r.2.2.1,r.2.2.2.filter (λx=>x.1 != id))
 |.loop b,H,L=>(Kt (qS true b) H 5 L).bind λr=>if m then some (.loop r.2.1,r.2.2.1,none,r.2.2.2)else(qS false b H r.1).map λq=>(.loop q.1,q.2.1,none,q.2.2.2)
 |.exit id,H,L=>some (.exit id,H,none,[(id,L)])
 |.ret,H,L=>some (.ret,H,none,[])
 |_,_,_=>none
end
def qF(cf:CF)(sg:Nat->Option Sg)(vt:VT)(h:HL)(fn:Func)(s:Sg):Option IF:=
 match fn.body with
 |none=>none
 |some code=>(Im cf.P vt fn.results.toList).bind λx=>(qS cf sg vt false code h (2^s.ps.length-1)).map λr=>
   ⟨O5 x,s.ps.length,vt.length,x.map (·.1)++s.io,r.1⟩
end Go.Cat
namespace Go.Cat
structure Row where
 k:Nat
 f:Nat
 s:Sg
def rowOf(tab:List Row)(k:Nat):Option Row:=tab.find? λr=>r.k==k
def GL(tab:List Row)(k:Nat):Nat:=match rowOf tab k with|some r=>r.f|none=>0
def AI0(tab:List Row)(f:Nat):Option Nat:=(tab.find? λr=>r.f==f).map (·.k)
def Ll(tab:List Row)(k:Nat):Option Sg:=(rowOf tab k).map (·.s)
def S4(P:Program)(f:Nat):Bool:=match P.funcs[f]? with
 | some fn => fn.body.isSome && fn.name != "runtime.NumGoroutine"
 |none=>false
def NL(P:Program)(tab:List Row):Bool:=tab.all λr=>(GL tab r.k==r.f)&&S4 P r.f
def Jo(P:Program)(tab:List Row)(nt:Nat)(io:List Nat:=[])(fb:Option (Nat×Nat×List Nat):=none):CF:=⟨P,GL tab,AI0 tab,nt,io++NJ fb,fb⟩
def KS(P:Program)(tab:List Row):Nat->List D->List D->Prop:=λk b rs=>∃r,rowOf tab k=some r/\G5 P (GL tab) r.f r.s b rs
theorem enters{P:Program}{f:Nat}(h:S4 P f=true)(args:Array Value)(w:World):(callFunc f args).run P w=.ok (.enter f args) w:=by unfold S4 at h;split at h;rename_i fn H;simp only[AU,bne_iff_ne]at h;unfold callFunc;rw[Sem.run_bind];simp only[run_program,Result.andThen,H];rw[if_neg (by simpa using h.2),if_neg (by cases b:fn.body<;>simp[b]at h|-)];rfl;simp at h
theorem AO1{tab:List Row}{k:Nat}{r:Row}(h:rowOf tab k=some r):r∈tab/\r.k=k:=by refine⟨List.mem_of_find?_eq_some h,?_⟩;have:=List.find?_some h;simpa using this
theorem KS.sound{P:Program}{tab:List Row}{nt:Nat}{io:List Nat}{fb:Option (Nat×Nat×List Nat)}(h:NL P tab=true):Sound (Jo P tab nt io fb) (Ll tab) (KS P tab):=by
 simp only[NL,Aj,AU]at h;constructor;rintro k e rs s ⟨r,H,g⟩ b;simp only[Ll,H,Option.map_some,AL]at b;subst b;show G5 P (GL tab) (GL tab k) r.s e rs;simp only[GL,H];exact g;intro k s b args w;simp only[Ll,Ae]at b;obtain⟨r,H,_⟩:=b;show(callFunc (GL tab k) args).run P w=_;have:GL tab k=r.f:=by simp only[GL,H]
 rw[show(Jo P tab nt io fb).fid k=r.f from this,show GL tab k=r.f from this];exact enters (h r (AO1 H).1).2 args w
theorem KS.AVE{P:Program}{tab:List Row}(h:NL P tab=true)(G:P.follows .mixedOrders=true){k nt:Nat}{io:List Nat}{fb:Option (Nat×Nat×List Nat)}{r:Row}{vt:VT}{C:HL}{fn:Func}{f:IF}(I:rowOf tab k=some r)
  (J:Oi (Jo P tab nt io fb) (Ll tab) vt C fn r.s=some f) (H:P.funcs[r.f]?=some fn) {b rs:List D} (B:Body (KS P tab) f b rs):KS P tab k b rs:=by
 refine⟨r,I,AQ3 (cf:=Jo P tab nt io fb) (KS.sound h) G ?_ J H B⟩;intro g j e;simp only[Jo,AI0,Ae]at e;obtain⟨x,i,rfl⟩:=e;have l:=List.mem_of_find?_eq_some i;have q:x.f=g:=by simpa using List.find?_some i
 simp only[NL,Aj,AU]at h;have:=(h x l).1;show GL tab x.k=g;rw[<-q];simpa using this
end Go.Cat
namespace Go.Cat
def Gs{α:Type}(n:Nat)(k:Nat->α):α:=match n with
 |0=>k 0
 |m+1=>k (m+1)
theorem Jv{α:Type}(n:Nat)(k:Nat->α):Gs n k=k n:=by cases n<;>rfl
def N2{α:Type}(n:Int)(k:Int->α):α:=match n with
 |.ofNat m=>Gs m λm=>k (.ofNat m)
 |.negSucc m=>Gs m λm=>k (.negSucc m)
theorem AJD{α:Type}(n:Int)(k:Int->α):N2 n k=k n:=by cases n<;>simp[N2,Jv]
def PN{α:Type}(b:Bool)(k:Bool->α):α:=match b with
 |true=>k true
 |false=>k false
theorem W8{α:Type}(b:Bool)(k:Bool->α):PN b k=k b:=by cases b<;>rfl
noncomputable def Pp{α:Type}(l:List Nat):(List Nat->α)->α:=
 List.rec (motive:=λ_=>(List Nat->α)->α) (λk=>k []) (λn _ i k=>Gs n λn=>i λl=>k (n::l)) l
theorem Wo{α:Type}:∀(l:List Nat)(k:List Nat->α),Pp l k=k l
 |[],_=>rfl
 |n::l,k=>by show Gs n (λn=>Pp l λl=>k (n::l))=_;rw[Jv,Wo l]
noncomputable def fD{α:Type}(d:D):(D->α)->α:=
 D.rec (motive_1:=λ_=>(D->α)->α) (motive_2:=λ_=>(List D->α)->α)
  (λk=>k .u) (λq n k=>N2 n λn=>k (.i q n)) (λx k=>PN x λx=>k (.b x)) (λx k=>Pp x λx=>k (.s x))
  (λ_ h k=>h λxs=>k (.l xs)) (λ_ h k=>h λxs=>k (.g xs)) (λk=>k .z) (λ_ h k=>h λxs=>k (.p xs)) (λn _ h k=>h λxs=>k (.f n xs))
  (λk=>k []) (λ_ _ I e k=>I λd=>e λl=>k (d::l)) d
mutual
theorem SU{α:Type}:∀(d:D)(k:D->α),fD d k=k d
 |.u,k=>rfl
 |.i q n,k=>(AJD n λn=>k (.i q n) :)
 |.b x,k=>(W8 x λx=>k (.b x) :)
 |.s x,k=>(Wo x λx=>k (.s x) :)
 |.l xs,k=>MZ xs _
 |.g xs,k=>MZ xs _
 |.z,k=>rfl
 |.p xs,k=>MZ xs _
 |.f n xs,k=>MZ xs _
theorem MZ{α:Type}:∀(l:List D)(k:List D->α),(D.rec_1 (motive_1:=λ_=>(D->α)->α) (motive_2:=λ_=>(List D->α)->α)
  (λk=>k .u) (λq n k=>N2 n λn=>k (.i q n)) (λx k=>PN x λx=>k (.b x)) (λx k=>Pp x λx=>k (.s x))
  (λ_ h k=>h λxs=>k (.l xs)) (λ_ h k=>h λxs=>k (.g xs)) (λk=>k .z) (λ_ h k=>h λxs=>k (.p xs)) (λn _ h k=>h λxs=>k (.f n xs))
  (λk=>k []) (λ_ _ I e k=>I λd=>e λl=>k (d::l)) l:(List D->α)->α) k=k l
 |[],k=>rfl
 |d::l,k=>(SU d _).trans (MZ l _)
end
def fV{α:Type}(d:D)(k:D->α):α:=match d with
 |.u=>k .u
 |.i q n=>k (.i q n)
 |.b x=>k (.b x)
 |.s x=>k (.s x)
 |.l xs=>k (.l xs)
 |.g xs=>k (.g xs)
 |.z=>k .z
 |.p xs=>k (.p xs)
 |.f n xs=>k (.f n xs)
theorem ACH{α:Type}(d:D)(k:D->α):fV d k=k d:=by cases d<;>rfl
noncomputable def HT{α:Type}(l:List D):(List D->α)->α:=
 List.rec (motive:=λ_=>(List D->α)->α) (λk=>k []) (λd _ i k=>fV d λd=>i λl=>k (d::l)) l
theorem Nq{α:Type}:∀(l:List D)(k:List D->α),HT l k=k l
 |[],k=>rfl
 |d::l,k=>(ACH d λd=>HT l λl=>k (d::l)).trans (Nq l λl=>k (d::l))
noncomputable def fT{α:Type}(d:D)(k:D->α):α:=match d with
 |.i q n=>N2 n λn=>k (.i q n)
 |.b x=>PN x λx=>k (.b x)
 |.l xs=>HT xs λxs=>k (.l xs)
 |d=>fD d k
theorem AQW{α:Type}(d:D)(k:D->α):fT d k=k d:=by unfold fT;split;exact AJD _ _;exact W8 _ _;exact Nq _ _;exact SU _ _
def deep:Pr->Bool
 |.up _ [_] _=>false
 |.up _ _ _=>true
 |.mk _ _ _=>true
 |_=>false
theorem AcI{n:Int}(h:-9223372036854775808<=n)(H:n<=9223372036854775807):IntKind.wrap .i64 n=n:=by simp[IntKind.wrap,IntKind.bits,IntKind.signed]at*;omega
def Ji(k:IntKind)(n:Int):Int:=match k,n with
 |.i64,.ofNat m=>if Nat.ble m 9223372036854775807 then .ofNat m else IntKind.wrap .i64 (.ofNat m)
 |.i64,.negSucc m=>if Nat.ble m 9223372036854775807 then .negSucc m else IntKind.wrap .i64 (.negSucc m)
 |.u8,.ofNat m=>.ofNat (Nat.mod m 256)
 |k,n=>k.wrap n
theorem Yb(k:IntKind)(n:Int):Ji k n=k.wrap n:=by unfold Ji;split;split;rename_i m h;have:=Nat.le_of_ble_eq_true h;simp[IntKind.wrap,IntKind.bits,IntKind.signed];omega;rfl;split;rename_i m h;have:=Nat.le_of_ble_eq_true h;exact(AcI (by omega) (by omega)).symm;rfl;rename_i m;show((m%256:Nat):Int)=_;unfold IntKind.wrap;simp only[IntKind.bits,IntKind.signed];simp;rfl
def Kd:Int->Int->Bool
 |.ofNat a,.ofNat b=>Nat.ble a b
 |.negSucc _,.ofNat _=>true
 |.ofNat _,.negSucc _=>false
 |.negSucc a,.negSucc b=>Nat.ble b a
theorem AR2(a b:Int):Kd a b=decide (a<=b):=by unfold Kd;split;rw[Bool.eq_iff_iff];simp[Nat.ble_eq];rw[Bool.eq_iff_iff];simp;omega;rw[Bool.eq_iff_iff];simp;omega;rw[Bool.eq_iff_iff];simp[Nat.ble_eq];omega
def KL:Int->Int->Bool
 |.ofNat a,.ofNat b=>Nat.beq a b
 |.negSucc a,.negSucc b=>Nat.beq a b
 |_,_=>false
theorem Qb(a b:Int):KL a b=(a==b):=by
 unfold KL;split;rw[Bool.eq_iff_iff];simp[Nat.beq_eq];omega;rw[Bool.eq_iff_iff];simp[Nat.beq_eq];rename_i H e;rw[Bool.eq_iff_iff];constructor;simp;intro h;have:a=b:=by simpa using h
 subst this
 cases a with
 |ofNat n=>exact(H n n rfl rfl).elim
 |negSucc n=>exact(e n n rfl rfl).elim
def Ve:Int->Int->Int
 |.ofNat a,.ofNat b=>.ofNat (Nat.add a b)
 |a,b=>Int.add a b
theorem ATB(a b:Int):Ve a b=a+b:=by unfold Ve;split<;>rfl
def Um:Int->Int->Int
 |.ofNat a,.ofNat b=>.ofNat (Nat.mul a b)
 |a,b=>Int.mul a b
theorem AV1(a b:Int):Um a b=a*b:=by unfold Um;split<;>rfl
def VB(O:BinOp)(k:IntKind)(a b:Int):Option D:=
 match O with
 |.add=>some (.i k (Ji k (Ve a b)))
 |.sub=>some (.i k (Ji k (Int.sub a b)))
 |.mul=>some (.i k (Ji k (Um a b)))
 |.quo=>bif KL b (.ofNat 0)then none else some (.i k (Ji k (Int.tdiv a b)))
 |.rem=>bif KL b (.ofNat 0)then none else some (.i k (Int.tmod a b))
 |.eql=>some (.b (KL a b))
 |.neq=>some (.b (!KL a b))
 |.lss=>some (.b (!Kd b a))
 |.leq=>some (.b (Kd a b))
 |.gtr=>some (.b (!Kd a b))
 |.geq=>some (.b (Kd b a))
 |O=>Eo O k a b
theorem AR1(O:BinOp)(k:IntKind)(a b:Int):VB O k a b=Eo O k a b:=by
 have s:Int.sub a b=a-b:=rfl;have H:KL b (.ofNat 0)=decide (b=0):=by rw[Qb];rw[Bool.eq_iff_iff];simp
 unfold VB;split<;>simp only[Eo,Yb,ATB,AV1,s,AR2,Qb];rw[<-Qb,H];by_cases h:b=0<;>simp[h];rw[<-Qb,H];by_cases h:b=0<;>simp[h];simp[bne];simp only[AL,D.b.injEq];rw[Bool.eq_iff_iff];simp;simp only[AL,D.b.injEq];rw[Bool.eq_iff_iff];simp
def Tc:IntKind->IntKind->Bool
 |.i64,.i64=>true
 |.u8,.u8=>true
 |a,b=>decide (a=b)
theorem ATP(a b:IntKind):Tc a b=decide (a=b):=by unfold Tc;split<;>simp
noncomputable def at_(n:Nat)(l:List D):D:=List.rec (motive:=λ_=>Nat->D) (λ_=>.u) (λd _ i n=>Nat.rec (motive:=λ_=>D) d (λm _=>i m) n) l n
theorem Qt:∀(n:Nat)(l:List D),at_ n l=l.getD n .u
 |n,[]=>by cases n<;>rfl
 |0,d::_=>rfl
 |n+1,_::l=>(Qt n l).trans rfl
noncomputable def look(r:List D)(c n:Nat):D:=bif Nat.ble c n then .u else at_ (Nat.pred (Nat.sub c n)) r
theorem look_eq{r:List D}{c:Nat}(h:r.length=c)(n:Nat):look r c n=(r.reverse).getD n .u:=by
 unfold look
 cases b:Nat.ble c n with
 |true=>
  have:=Nat.le_of_ble_eq_true b
  rw[cond_true,Ap,D7 (by simp;omega)];rfl
 |false=>
  have:¬c<=n:=λh=>by rw[show Nat.ble c n=true by simpa using h]at b;cases b
  rw[cond_false,Qt,Ap,Ap,List.getElem?_reverse (by omega)]
  congr 2
  show c-n-1=_
  omega
section
variable(F:Nat->List D->Option (List D))
def VN:Bool->Bool->Bool
 |true,b=>b
 |false,true=>false
 |false,false=>true
noncomputable def evG(E:Nat->D)(l:List (Nat×Bool)):Option Bool:=
 List.rec (motive:=λ_=>Option Bool) (some true) (λx _ i=>match E x.1 with
  |.b y=>bif VN y x.2 then i else some false
  |_=>none) l
theorem YV(E:Nat->D):∀(l:List (Nat×Bool)),evG E l=Cc E l
 |[]=>rfl
 |(n,want)::r=>by
  show(match E n with|.b y=>bif VN y want then evG E r else some false|_=>none)=_;simp only[Cc];split;rename_i x h;rw[h]
  cases x<;>cases want<;>simp[YV E r,VN];rename_i h;split;rename_i x H;exact absurd H (h x);rfl
noncomputable def nth(l:List D)(n:Nat):Option D:=List.rec (motive:=λ_=>Nat->Option D) (λ_=>none) (λd _ i n=>Nat.rec (motive:=λ_=>Option D) (some d) (λm _=>i m) n) l n
theorem Pz:∀(l:List D)(n:Nat),nth l n=l[n]?
 |[],n=>rfl
 |d::l,0=>rfl
 |d::l,n+1=>(Pz l n).trans (by simp)
noncomputable def KH(l:List D)(n:Nat)(x:D):List D:=List.rec (motive:=λ_=>Nat->List D) (λ_=>[]) (λd l i n=>Nat.rec (motive:=λ_=>List D) (x::l) (λm _=>d::i m) n) l n
theorem Ps(x:D):∀(l:List D)(n:Nat),KH l n x=l.set n x
 |[],n=>rfl
 |d::l,0=>rfl
 |d::l,n+1=>(congrArg (d::·) (Ps x l n)).trans (by simp)
def Z4:D->Option Nat
 |.i _ (.ofNat m)=>some m
 |_=>none
noncomputable def Ow(d i:D):Option D:=match d,Z4 i with
 |.l xs,some m=>(nth xs m).bind known
 |_,_=>none
theorem Wp(d i:D):Ow d i=Dr d i:=by
 unfold Ow Dr Z4
 cases d<;>cases i<;>try rfl
 rename_i xs k n
 cases n with
 |ofNat m=>simp[Pz]
 |negSucc m=>simp
noncomputable def evQ(E:Nat->D):Pr->Option D
 |.bi O a b=>match ev E a,ev E b with
  |.i k a,.i e b=>match O with
   |.shl=>CA .shl (.i k a) (.i e b)
   |.shr=>CA .shr (.i k a) (.i e b)
   |O=>bif Tc k e then VB O k a b else none
  |a,b=>CA O a b
 |.cv k a=>match ev E a with
  |.i _ n=>some (.i k (Ji k n))
  |_=>none
 |.ix a [] i=>Ow (ev E a) (ev E i)
 |.iy a i=>(Ow (ev E a) (ev E i)).bind GD
 |.up n [P] a=>bif (ev E a).one then(PE.ev E P).bind λi=>match E n with
   |.l xs=>(nth xs i).bind λ_=>some (.l (KH xs i (ev E a)))
   |.g xs=>(nth xs i).bind λ_=>some (.g (KH xs i (ev E a)))
   |_=>none
  else none
 |p=>AW E p
theorem AYE(E:Nat->D)(p:Pr):evQ E p=AW E p:=by
 unfold evQ;split;rename_i O a b;simp only[AW];split;rename_i k x s y e f;rw[e,f];split;rfl;rfl;rename_i B C;rw[ATP];simp only[CA];by_cases j:k=s<;>simp[j,AR1];rfl;rename_i k a;simp only[AW];split;rename_i h;rw[h,Yb];rename_i h;split;rename_i n q;exact absurd q (h _ _);rfl;rename_i a i;simp[AW,EM,Ai,Wp];simp only[AW,Wp];rename_i n P a;simp only[AW,List.mapM_cons,List.mapM_nil,Option.bind_eq_bind,Option.pure_def]
 cases(ev E a).one with
 |false=>simp
 |true=>
  simp only[cond_true,if_true]
  cases PE.ev E P with
  |none=>simp
  |some i=>
   simp only[Option.bind_some]
   split
   .rename_i xs h
    rw[h]
    simp only[An,Pz,Ps]
    cases xs[i]?<;>simp
   .rename_i xs h
    rw[h]
    simp only[An,Pz,Ps]
    cases xs[i]?<;>simp
   .rename_i h H
    cases hE:E n with
    |l xs=>exact absurd hE (h xs)
    |g xs=>exact absurd hE (H xs)
    |_=>simp[An]
 rfl
noncomputable def M1(l:List D):List D->List D:=List.rec (motive:=λ_=>List D->List D) (λr=>r) (λd _ i r=>i (d::r)) l
theorem L0:∀(l r:List D),M1 l r=l.reverse++r
 |[],r=>rfl
 |d::l,r=>(L0 l (d::r)).trans (by simp)
noncomputable def us(n:Nat):List D->List D:=Nat.rec (motive:=λ_=>List D->List D) (λr=>r) (λ_ i r=>i (.u::r)) n
theorem TK:∀(n:Nat)(r:List D),us n r=List.replicate n .u++r
 |0,r=>rfl
 |n+1,r=>(TK n (.u::r)).trans (by
  rw[List.replicate_succ']
  simp)
noncomputable def Mm(l:List D):Nat->Nat:=List.rec (motive:=λ_=>Nat->Nat) (λn=>n) (λ_ _ i n=>i (n+1)) l
theorem Un:∀(l:List D)(n:Nat),Mm l n=l.length+n
 |[],n=>by simp[Mm]
 |_::l,n=>(Un l (n+1)).trans (by simp;omega)
noncomputable def AKZ(E:Nat->D)(l:List A):List D:=List.rec (motive:=λ_=>List D) [] (λa _ i=>ev E a::i) l
theorem AME(E:Nat->D):∀(l:List A),AKZ E l=l.map (ev E)
 |[]=>rfl
 |a::l=>congrArg (ev E a::·) (AME E l)
noncomputable def WQ{α:Type}(it:It)(r:List D)(c:Nat)(k:List D->Nat->Option α):Option α:=
 match evG (look r c) it.g with
 |some true=>match it.p with
  |.nop=>k r c
  |.ca g xs m=>HT (AKZ (look r c) xs) λs=>(F g s).bind λrs=>bif Nat.beq (Mm rs 0) m then Gs (Nat.add c m) λC=>k (M1 rs r) C else none
  |.cd ..=>none
  |.sp ..=>none
  |.sw ..=>none
  |.mo ..=>none
  |.tk n=>(Kb (look r c n)).bind λd=>fV d λd=>Gs (Nat.succ (Nat.succ c)) λC=>k (.g [.u]::d::r) C
  |p=>(evQ (look r c) p).bind λd=>(bif deep p then fD d else fT d) λd=>Gs (Nat.succ c) λC=>k (d::r) C
 |some false=>Gs (Nat.add c it.p.np) λC=>(match it.z with|[]=>k (us it.p.np r) C|z=>k (M1 (Ci (look r c) z it.p.np) r) C)
 |none=>none
noncomputable def Sn{α:Type}(i:List It)(r:List D)(c:Nat)(k:List D->Nat->Option α):Option α:=
 List.rec (motive:=λ_=>List D->Nat->Option α) k (λit _ h r c=>WQ F it r c h) i r c
noncomputable def V5(E:Nat->D)(l:List (Option Nat)):List D:=List.rec (motive:=λ_=>List D) [] (λx _ i=>(match x with|some n=>E n|none=>.u)::i) l
theorem WI(e:Env):∀(l:List (Option Nat)),V5 e.E l=Dg l e
 |[]=>rfl
 |some n::l=>congrArg (e.E n::·) (WI e l)
 |none::l=>congrArg (D.u::·) (WI e l)
noncomputable def M3(R:Env->Option (X×Env))(n:Nat):Env->Option (X×Env):=
 Nat.rec (motive:=λ_=>Env->Option (X×Env)) (λ_=>none) (λ_ i e=>(R e).bind λr=>match r with
  |(.n,b)=>i b
  |r=>some r) n
noncomputable def FE(n:Nat)(s:S):Env->Option (X×Env):=
 S.rec (motive:=λ_=>Env->Option (X×Env)) (λe=>some (.n,e))
  (λI out e=>Gs (Mm e 0) λc=>Sn F I (M1 e []) c λr c=>HT (V5 (look r c) out) λg=>some (.n,g))
  (λ_ _ ia i e=>(ia e).bind λr=>match r with
   |(.n,f)=>i f
   |r=>some r)
  (λc _ _ ix iy e=>match at_ c e with
   |.b true=>HT (KH e c .u) λe=>ix e
   |.b false=>HT (KH e c .u) λe=>iy e
   |_=>none)
  (λid _ i e=>(i e).bind λr=>match r with
   |(.ex j,f)=>bif Nat.beq j id then some (.n,f)else some (.ex j,f)
   |r=>some r)
  (λ_ i e=>M3 i n e)
  (λid e=>some (.ex id,e)) (λe=>some (.r,e)) s
end
variable{F:Nat->List D->Option (List D)}{K:Nat->List D->List D->Prop}
theorem WE{E:Nat->D}:∀(n:Nat),Ci E [] n=List.replicate n .u
 |0=>rfl
 |n+1=>by rw[Ci,WE n];rfl
theorem AVK{α:Type}(U:∀g s rs,F g s=some rs->K g s rs){it:It}{r:List D}{c:Nat}{k:List D->Nat->Option α}{x:α}(e:r.length=c){Q:Env->Prop}(h:WQ F it r c k=some x)
  (q:∀R C,R.length=C->k R C=some x->Q R.reverse):H7 K it r.reverse Q:=by
 have T:look r c=Env.E r.reverse:=funext λn=>look_eq e n;unfold WQ at h;unfold H7;rw[T,YV]at h;split at h
 .rename_i l;rw[l];split at h
  .rename_i H;rw[H];exact q _ _ e h
  .rename_i g xs m H;rw[H];simp only[Nq,AS,AME,Jv,Un]at h;obtain⟨rs,f,b⟩:=h
   cases i:Nat.beq (rs.length+0) m with
   |false=>rw[i,cond_false]at b;cases b
   |true=>
    rw[i,cond_true]at b
    have B:rs.length=m:=by simpa using Nat.eq_of_beq_eq_true i
    refine⟨rs,U _ _ _ f,B,?_⟩
    have:=q _ _ ?_ b
    .rw[L0]at this;simpa using this
    .rw[L0];simp only[AZ,List.length_reverse,B,e];show _=c+m;omega
  .cases h
  .cases h
  .cases h
  .cases h
  .rename_i n H;rw[H];simp only[AS,ACH,Jv]at h;obtain⟨d,f,b⟩:=h;have:=q _ _ (by simp[e]) b;show match Kb (Env.E r.reverse n)with|some d=>Q (r.reverse++[d,.g [.u]])|none=>False;rw[f];simpa using this
  .rename_i p f b L N O P M;have j:∀(d:D)(k:D->Option α),(bif deep it.p then fD d else fT d) k=k d:=λd k=>by cases deep it.p<;>simp[SU,AQW]
   simp only[AS,j,Jv,AYE]at h;obtain⟨d,I,J⟩:=h;have:=q _ _ (by simp[e]) J;show A7 K it.p r.reverse Q;unfold A7;split
   .rename_i H;exact(f H).elim
   .rename_i H;exact(b _ _ _ H).elim
   .rename_i H;exact(L _ _ _ _ H).elim
   .rename_i H;exact(M _ H).elim
   .rename_i H;exact(N _ _ _ H).elim
   .rename_i H;exact(O _ H).elim
   .rename_i H;exact(P _ _ _ H).elim
   .rw[I];simpa using this
 .rename_i l;rw[l];simp only[Jv]at h;split at h
  .rename_i G;have:=q _ _ ?_ h
   .rw[G,WE];rw[TK]at this;simpa using this
   .rw[TK];simp only[AZ,List.length_replicate,e];show _=c+_;omega
  .rename_i z G;have:=q _ _ ?_ h
   .rw[L0]at this;simpa using this
   .rw[L0];simp only[AZ,List.length_reverse,MM,e];show _=c+_;omega
 .cases h
theorem AE7{α:Type}(e:∀g s rs,F g s=some rs->K g s rs):∀{i:List It}{r:List D}{c:Nat}{k:List D->Nat->Option α}{x:α}(_:r.length=c){Q:Env->Prop}(_:Sn F i r c k=some x)
  (_:∀R C,R.length=C->k R C=some x->Q R.reverse),EY K i r.reverse Q
 |[],r,c,k,x,H,Q,h,q=>q _ _ H h
 |it::i,r,c,k,x,H,Q,h,q=>AVK e H h λR C b f=>AE7 e b f q
theorem AaD(R:Env->Option (X×Env))(n:Nat)(e:Env):M3 R (n+1) e=(R e).bind λr=>match r with
  |(.n,b)=>M3 R n b
  |r=>some r:=rfl
theorem AXN(n:Nat)(e:Env):FE F n .skip e=some (.n,e):=rfl
theorem AZM(n:Nat)(i:List It)(out:List (Option Nat))(e:Env):FE F n (.reg i out) e=Gs (Mm e 0) λc=>Sn F i (M1 e []) c λr c=>HT (V5 (look r c) out) λb=>some (.n,b):=rfl
theorem AQ4(n:Nat)(a b:S)(e:Env):FE F n (.seq a b) e=(FE F n a e).bind λr=>match r with
  |(.n,f)=>FE F n b f
  |r=>some r:=rfl
theorem AY3(n c:Nat)(a b:S)(e:Env):FE F n (.cond c a b) e=match at_ c e with
  |.b true=>HT (KH e c .u) λe=>FE F n a e
  |.b false=>HT (KH e c .u) λe=>FE F n b e
  |_=>none:=rfl
theorem AZ4(n id:Nat)(b:S)(e:Env):FE F n (.block id b) e=(FE F n b e).bind λr=>match r with
  |(.ex j,f)=>bif Nat.beq j id then some (.n,f)else some (.ex j,f)
  |r=>some r:=rfl
theorem AYJ(n:Nat)(b:S)(e:Env):FE F n (.loop b) e=M3 (FE F n b) n e:=rfl
theorem AdW(n id:Nat)(e:Env):FE F n (.exit id) e=some (.ex id,e):=rfl
theorem AdO(n:Nat)(e:Env):FE F n .ret e=some (.r,e):=rfl
theorem AMY{R:Env->Option (X×Env)}{W:(X->Env->Prop)->Env->Prop}(f:∀e x b Q,R e=some (x,b)->Q x b->W Q e):∀(n:Nat){e b:Env}{x:X}{Q:X->Env->Prop},
  M3 R n e=some (x,b)->Q x b->Di W n Q e
 |0,_,_,_,_,h,_=>by cases h
 |n+1,e,b,x,Q,h,q=>by
  simp only[AaD,AS]at h;obtain⟨⟨y,i⟩,g,H⟩:=h;refine f _ _ _ _ g ?_
  cases y with
  |n=>exact AMY f n H q
  |ex j=>simp only[AL,AJ]at H;obtain⟨rfl,rfl⟩:=H;exact q
  |r=>simp only[AL,AJ]at H;obtain⟨rfl,rfl⟩:=H;exact q
theorem KZ(i:∀g I rs,F g I=some rs->K g I rs)(n:Nat):∀(s:S){e f:Env}{x:X}{Q:X->Env->Prop}(_:FE F n s e=some (x,f))(_:Q x f),wpS K s Q e
 |.skip,e,f,x,Q,h,q=>by simp only[AXN,AL,AJ]at h;obtain⟨rfl,rfl⟩:=h;exact q
 |.reg N out,e,f,x,Q,h,q=>by simp only[AZM,Jv,Nq,Un,L0]at h;have:=AE7 (r:=e.reverse++[]) (Q:=λk=>Q .n (Dg out k)) i (by simp) h ?_;simp only[List.append_nil,List.reverse_reverse]at this;exact this;intro R L B J;simp only[AL,AJ]at J;obtain⟨rfl,rfl⟩:=J;have M:look R L=Env.E R.reverse:=funext λn=>look_eq B n;rw[M,WI]at q;exact q
 |.seq a b,e,f,x,Q,h,q=>by
  simp only[AQ4,AS]at h;obtain⟨⟨y,k⟩,l,H⟩:=h;refine KZ i n a l ?_
  cases y with
  |n=>exact KZ i n b H q
  |ex j=>simp only[AL,AJ]at H;obtain⟨rfl,rfl⟩:=H;exact q
  |r=>simp only[AL,AJ]at H;obtain⟨rfl,rfl⟩:=H;exact q
 |.cond c a b,e,f,x,Q,h,q=>by
  simp only[AY3,Nq,Qt,Ps]at h;simp only[wpS];change (match e.E c with|.b true=>_|.b false=>_|_=>_)=_ at h;split at h;rename_i C;rw[C];exact KZ i n a h q;rename_i C;rw[C];exact KZ i n b h q
  cases h
 |.block id b,e,f,x,Q,h,q=>by
  simp only[AZ4,AS]at h;obtain⟨⟨y,k⟩,l,H⟩:=h;refine KZ i n b l ?_
  cases y with
  |n=>simp only[AL,AJ]at H;obtain⟨rfl,rfl⟩:=H;exact q
  |ex j=>
   simp only at H
   cases hb:Nat.beq j id with
   |true=>
    rw[hb,cond_true]at H
    have G:=Nat.eq_of_beq_eq_true hb
    simp only[AL,AJ]at H;obtain⟨rfl,rfl⟩:=H
    show if j=id then _ else _
    rw[if_pos G];exact q
   |false=>
    rw[hb,cond_false]at H
    have G:=Nat.ne_of_beq_eq_false hb
    simp only[AL,AJ]at H;obtain⟨rfl,rfl⟩:=H
    show if j=id then _ else _
    rw[if_neg G];exact q
  |r=>simp only[AL,AJ]at H;obtain⟨rfl,rfl⟩:=H;exact q
 |.loop b,e,f,x,Q,h,q=>by simp only[AYJ]at h;exact⟨n,AMY (W:=wpS K b) (λe x f Q h q=>KZ i n b h q) n h q⟩
 |.exit id,e,f,x,Q,h,q=>by simp only[AdW,AL,AJ]at h;obtain⟨rfl,rfl⟩:=h;exact q
 |.ret,e,f,x,Q,h,q=>by simp only[AdO,AL,AJ]at h;obtain⟨rfl,rfl⟩:=h;exact q
noncomputable def QN(F:Nat->List D->Option (List D))(n:Nat)(f:IF)(s:List D):Option (List D):=
 if s.length=f.np then(FE F n f.body (s++List.replicate (f.nv-f.np) .u)).bind λr=>match r with
  |(.ex _,_)=>none
  |(_,e)=>bif Fl f.cl (f.res.map λn=>at_ n e)then some (f.res.map λn=>at_ n e)else none
 else none
theorem ART(B:∀g s rs,F g s=some rs->K g s rs){n:Nat}{f:IF}{s rs:List D}(h:QN F n f s=some rs):Body K f s rs:=by
 unfold QN at h;split at h;rename_i C;simp only[AS]at h;obtain⟨⟨x,e⟩,b,H⟩:=h;have i:(∀j,x≠.ex j)/\Fl f.cl rs=true/\rs=f.res.map λn=>at_ n e:=by
  cases x with
  |ex j=>cases H
  |n=>
   simp only at H
   cases hc:Fl f.cl (f.res.map λn=>at_ n e)with
   |true=>rw[hc,cond_true,AL]at H;exact⟨by simp,by rw[<-H];exact hc,H.symm⟩
   |false=>rw[hc,cond_false]at H;cases H
  |r=>
   simp only at H
   cases hc:Fl f.cl (f.res.map λn=>at_ n e)with
   |true=>rw[hc,cond_true,AL]at H;exact⟨by simp,by rw[<-H];exact hc,H.symm⟩
   |false=>rw[hc,cond_false]at H;cases H
 obtain⟨k,l,q⟩:=i;refine⟨⟨C,l⟩,KZ B n _ b ?_⟩;have he:rs=f.res.map (Env.E e):=q.trans (List.map_congr_left λn _=>Qt n e)
 cases x with
 |ex j=>exact(k j rfl).elim
 |n=>exact⟨trivial,he⟩
 |r=>exact⟨trivial,he⟩
 cases h
noncomputable def EC(T:Nat->Option IF)(n d:Nat):Nat->List D->Option (List D):=
 Nat.rec (motive:=λ_=>Nat->List D->Option (List D)) (λ_ _=>none) (λ_ i k s=>(T k).bind λf=>QN i n f s) d
theorem ACV{T:Nat->Option IF}(H:∀k f s rs,T k=some f->Body K f s rs->K k s rs)(n:Nat):∀(d k:Nat)(s rs:List D),EC T n d k s=some rs->K k s rs
 |0,_,_,_,h=>by cases h
 |d+1,k,s,rs,h=>by change ((T k).bind λf=>QN (EC T n d) n f s)=some rs at h;simp only[AS]at h;obtain⟨f,b,e⟩:=h;exact H _ _ _ _ b (ART (ACV H n d) e)
end Go.Cat
namespace Go.Cat
class Has(K:Nat->List D->List D->Prop)(k:Nat)(f:IF):Prop where
 h:∀ds rs,Body K f ds rs->K k ds rs
class KC(K:Nat->List D->List D->Prop)(l:List (Nat×IF)):Prop where
 h:∀k f,(k,f)∈l->∀ds rs,Body K f ds rs->K k ds rs
instance{K:Nat->List D->List D->Prop}:KC K []:=⟨by simp⟩
instance{K:Nat->List D->List D->Prop}{k:Nat}{f:IF}{l:List (Nat×IF)}[a:Has K k f][b:KC K l]:KC K ((k,f)::l):=by
 refine⟨λg e h=>?_⟩;rcases AY.1 h with h|h
 cases h;exact a.h;exact b.h _ _ h
noncomputable def Dx(l:List (Nat×IF))(k:Nat):Option IF:=
 List.rec (motive:=λ_=>Option IF) none (λx _ i=>bif Nat.beq x.1 k then some x.2 else i) l
theorem AJT{k:Nat}{f:IF}:∀{l:List (Nat×IF)},Dx l k=some f->(k,f)∈l
 |[],h=>by cases h
 |(j,g)::r,h=>by
  change (bif Nat.beq j k then some g else Dx r k)=some f at h
  cases hb:Nat.beq j k with
  |true=>rw[hb,cond_true]at h;cases h;rw[Nat.eq_of_beq_eq_true hb];simp
  |false=>rw[hb,cond_false]at h;exact BL _ (AJT h)
theorem run{K:Nat->List D->List D->Prop}(l:List (Nat×IF))[KC K l](n d k:Nat){s rs:List D}(h:EC (Dx l) n d k s=some rs):K k s rs:=
 ACV (λk f s rs H b=>KC.h k f (AJT H) s rs b) n d k s rs h
end Go.Cat
namespace Go.Cat
section
variable{K:Nat->List D->List D->Prop}
theorem AGO{p:Pr}{e:Env}{Q i:Env->Prop}(H:∀e,Q e->i e)(h:A7 K p e Q):A7 K p e i:=by unfold A7 at*;split at h;exact H _ h;obtain⟨rs,b,f,g⟩:=h;exact⟨rs,b,f,H _ g⟩;obtain⟨h0,rs,b,f,g⟩:=h;exact⟨h0,rs,b,f,H _ g⟩;split at h;exact H _ h;exact h.elim;split at h;exact H _ h;exact h.elim;split at h;exact H _ h;exact h.elim;split at h;exact H _ h;exact h.elim;split at h;exact H _ h;exact h.elim
theorem Q2:∀{i:List It}{e:Env}{Q b:Env->Prop}(_:∀e,Q e->b e)(_:EY K i e Q),EY K i e b
 |[],e,Q,b,H,h=>H _ h
 |it::i,e,Q,b,H,h=>by simp only[EY,H7]at*;split at h;exact AGO (λe h=>Q2 H h) h;exact Q2 H h;exact h
theorem AM4{R:(X->Env->Prop)->Env->Prop}(f:∀Q b e,(∀x e,Q x e->b x e)->R Q e->R b e):∀(n:Nat){e:Env}{Q b:X->Env->Prop}(_:∀x e,Q x e->b x e)(_:Di R n Q e),Di R n b e
 |0,_,_,_,_,h=>h.elim
 |n+1,e,Q,b,H,h=>by
  simp only[Di]at*;refine f _ _ _ ?_ h;intro x e h
  cases x with
  |n=>exact AM4 f n H h
  |ex j=>exact H _ _ h
  |r=>exact H _ _ h
theorem DJ:∀(s:S){e:Env}{Q f:X->Env->Prop}(_:∀x e,Q x e->f x e)(_:wpS K s Q e),wpS K s f e
 |.skip,e,Q,f,H,h=>H _ _ h
 |.reg I out,e,Q,f,H,h=>Q2 (λe h=>H _ _ h) h
 |.seq a b,e,Q,f,H,h=>by
  refine DJ a ?_ h;intro x e h
  cases x with
  |n=>exact DJ b H h
  |ex j=>exact H _ _ h
  |r=>exact H _ _ h
 |.cond c a b,e,Q,f,H,h=>by simp only[wpS]at*;split at h;exact DJ a H h;exact DJ b H h;exact h
 |.block id b,e,Q,f,H,h=>by
  refine DJ b ?_ h;intro x e h
  cases x with
  |n=>exact H _ _ h
  |ex j=>
   show if j=id then _ else _
   have g:if j=id then Q .n e else Q (.ex j) e:=h
   split
   .rename_i i;rw[if_pos i]at g;exact H _ _ g
   .rename_i i;rw[if_neg i]at g;exact H _ _ g
  |r=>exact H _ _ h
 |.loop b,e,Q,f,H,h=>by obtain⟨n,h⟩:=h;exact⟨n,AM4 (R:=wpS K b) (λQ f e H h=>DJ b H h) n H h⟩
 |.exit id,e,Q,f,H,h=>H _ _ h
 |.ret,e,Q,f,H,h=>H _ _ h
theorem AZ6{b:S}{Q:X->Env->Prop}{e:Env}(I:Nat->Env->Prop)(m:Nat)(h0:I m e)
  (step:∀m e,I m e->wpS K b (λx f=>match x with|.n=>∃M,M < m/\I M f|x=>Q x f) e):wpS K (.loop b) Q e:=by
 suffices ∀(m:Nat)(e:Env),I m e->∃n,Di (wpS K b) n Q e by exact this m e h0
 intro m;induction m using Nat.strongRecOn with
 |ind m i=>
  intro e H
  have s:=step m e H
  suffices ∀(m:Nat)(e:Env),I m e->Di (wpS K b) (m+1) Q e from⟨m+1,this m e H⟩
  clear s H i e m
  intro m
  induction m using Nat.strongRecOn with
  |ind m i=>
   intro e H
   simp only[Di]
   refine DJ b ?_ (step m e H)
   intro x e h
   cases x with
   |n=>
    obtain⟨M,g,h⟩:=h
    have:=i M g e h
    exact W (by omega) this
   |ex j=>exact h
   |r=>exact h
where
 W {b:S} {Q:X->Env->Prop}:∀{n N:Nat}{e:Env}(_:n<=N)(_:Di (wpS K b) n Q e),Di (wpS K b) N Q e
  |0,_,_,_,h=>h.elim
  |n+1,0,_,k,_=>by omega
  |n+1,N+1,e,k,h=>by
   simp only[Di]at*
   refine DJ b ?_ h
   intro x e h
   cases x with
   |n=>exact W (by omega) h
   |ex j=>exact h
   |r=>exact h
end
noncomputable def BH(n:Nat)(p:Nat->Bool):Bool:=Nat.rec (motive:=λ_=>Bool) true (λn i=>bif p n then i else false) n
theorem BQ{p:Nat->Bool}:∀{n:Nat},BH n p=true->∀i,i<n->p i=true
 |0,_,i,hi=>by omega
 |n+1,h,i,hi=>by
  change (bif p n then BH n p else false)=true at h
  cases hp:p n with
  |false=>rw[hp,cond_false]at h;cases h
  |true=>
  rw[hp,cond_true]at h;rcases B7 i n with k|k
  .exact BQ h i k
  .have:i=n:=by omega
   subst this;exact hp
end Go.Cat
