/-
 Steps between two operations, which do nothing: a part of what is owned is taken out, and put back.
-/
import Derived.Test.YthoilpmggmenbaaGreatCatTwo
set_option linter.unusedSimpArgs false
set_option linter.unusedVariables false
namespace Go.Cat
theorem AM.at{R:D->Value->List Nat->Prop}:∀{xs:List D}{vs:List Value}{B:List Nat}{i:Nat}{x:D},AM R xs vs B->xs[i]?=some x->
  ∃y e j f,vs[i]?=some y/\B=e++(j++f)/\R x y j/\∀g b,R g y b->AM R (xs.set i g) vs (e++(b++f))
 |[],_,_,_,_=>λ_ h=>by simp at h
 |I::xs,v::vs,B,0,x=>λh H=>by simp only[AM]at h;obtain⟨B1,B2,rfl,l,q⟩:=h;simp at H;subst H;refine⟨v,[],B1,B2,by simp,by simp,l,λg b k=>?_⟩;simp only[List.set_cons_zero,List.nil_append,AM];exact⟨b,B2,rfl,k,q⟩
 |I::xs,v::vs,B,i+1,x=>λh H=>by simp only[AM]at h;obtain⟨B1,B2,rfl,l,q⟩:=h;obtain⟨y,e,j,f,s,rfl,C,G⟩:=AM.at q (by simpa using H);refine⟨y,B1++e,j,f,by simpa using s,by simp,C,λg b k=>?_⟩;simp only[List.set_cons_succ,AM];exact⟨B1,e++(b++f),by simp,l,G g b k⟩
 |_::_,[],_,_,_=>λh _=>by simp[AM]at h
theorem AE.split{fid:Nat->Nat}{h:Array Obj}{O X:Nat->Prop}{es:Sh}(hes:es.Fc=true):∀(is:List Nat)(s:Sh)(d I dh:D)(v y:Value)(B:List Nat)(gb go:Nat),is≠[]->AE fid h O X s d v B->B.Nodup->
  s.under is.length=some es->Aq is d=some I->Aw is d .u=some dh->Wk h is v gb go y->
  ∃B1 B2,AE fid h O X es I y B1/\AE fid h O X s dh v B2/\(∀k∈B1,k∈B/\k∉B2)/\(∀k∈B2,k∈B)/\B1.Nodup/\B2.Nodup
 |[],_,_,_,_,_,_,_,_,_,hne=>(hne rfl).elim
 |i::is,s,d,I,dh,v,y,B,gb,go,_=>λr hnd T f G U=>by
  have row:∀(s':Sh)(xs:List D)(row:List Value)(P:List Nat),AM (AE fid h O X s') xs row P->P.Nodup->s'.under is.length=some es->(xs[i]?.bind (Aq is))=some I->
    ∀z,row[i]?=some z->(is=[]/\y=z\/is≠[]/\Wk h is z gb go y)->
    ∃x J B1 B2,xs[i]?=some x/\Aw is x .u=some J/\AE fid h O X es I y B1/\AM (AE fid h O X s') (xs.set i J) row B2/\(∀k∈B1,k∈P/\k∉B2)/\(∀k∈B2,k∈P)/\B1.Nodup/\B2.Nodup:=by
   intro s' xs row P he hn hu f z R hy
   cases hx:xs[i]? with
   |none=>rw[hx]at f;simp at f
   |some x=>
    rw[hx]at f
    simp only[Option.bind_some]at f
    obtain⟨z',Ba,Bi,Bc,V,rfl,k2,k3⟩:=AM.at he hx
    rw[R]at V
    injection V with V
    subst V
    obtain⟨W,n2,n3⟩:=List.nodup_append.1 hn
    obtain⟨n4,n5,n6⟩:=List.nodup_append.1 n2
    rcases hy with⟨rfl,rfl⟩|⟨hne,hy⟩
    .simp only[Aq,AL]at f
     subst f
     simp only[A6,Sh.under,AL]at hu
     subst hu
     refine⟨x,.u,Bi,Ba++([]++Bc),rfl,by simp[Aw],k2,k3 .u [] (AE.Yc hes _),?_,?_,n4,?_⟩
     .intro k H
      refine⟨by simp[H],λq=>?_⟩
      rcases Ac.1 q with q|q
      .exact n3 k q k (by simp[H]) rfl
      .exact n6 k H k (by simpa using q) rfl
     .intro k H
      simp only[List.nil_append,Ac]at H|-
      exact H.imp id .inr
     .refine List.nodup_append.2 ⟨W,by simpa using n5,λa ha b N e=>?_⟩
      exact n3 a ha b (by simp only[List.nil_append]at N;simp[N]) e
    .have Q:∃J,Aw is x .u=some J:=by
      have gs:∀(is:List Nat)(x I:D),Aq is x=some I->∃J,Aw is x .u=some J:=by
       intro is
       induction is with
       |nil=>intro x I _;exact⟨.u,rfl⟩
       |cons j is ih=>
        intro x I f
        cases x with
        |l ys=>
         simp only[Aq,AW]at f
         obtain⟨c1,R,f⟩:=f
         obtain⟨q,hq⟩:=ih c1 I f
         exact⟨.l (ys.set j q),by simp[Aw,R,hq]⟩
        |g ys=>
         simp only[Aq,AW]at f
         obtain⟨c1,R,f⟩:=f
         obtain⟨q,hq⟩:=ih c1 I f
         exact⟨.g (ys.set j q),by simp[Aw,R,hq]⟩
        |_=>simp[Aq]at f
      exact gs is x I f
     obtain⟨J,Q⟩:=Q
     obtain⟨B1,B2,q1,q2,q3,q4,q5,q6⟩:=AE.split hes is s' x I J _ y Bi gb go hne k2 n4 hu f Q hy
     refine⟨x,J,B1,Ba++(B2++Bc),rfl,Q,q1,k3 J B2 q2,?_,?_,q5,?_⟩
     .intro k H
      have:=q3 k H
      refine⟨by simp[this.1],λq=>?_⟩
      rcases Ac.1 q with q|q
      .exact n3 k q k (by simp[this.1]) rfl
      .rcases Ac.1 q with q|q
       .exact this.2 q
       .exact n6 k this.1 k q rfl
     .intro k H
      simp only[Ac]at H|-
      rcases H with H|H|H
      .exact .inl H
      .exact .inr (.inl (q4 k H))
      .exact .inr (.inr H)
     .refine List.nodup_append.2 ⟨W,List.nodup_append.2 ⟨q6,n5,λa ha b N e=>n6 a (q4 a ha) b N e⟩,λa ha b N e=>?_⟩
      rcases Ac.1 N with N|N
      .exact n3 a ha b (by simp[q4 b N]) e
      .exact n3 a ha b (by simp[N]) e
  cases s with
  |v=>simp[Sh.under]at T
  |y=>simp[Sh.under]at T
  |a s=>simp[Sh.under]at T
  |m=>simp[Sh.under]at T
  |b s'=>
   simp only[AO,Sh.under]at T
   simp only[AE]at r
   obtain⟨xs,b1,L,e1,Z,P,rfl,rfl,rfl,M,ht,hl,he⟩:=r
   simp only[Wk]at U
   obtain⟨b2,o2,cs2,e2,fz2,z,hv,C,R,U⟩:=U
   obtain⟨rfl,rfl⟩:=hv.box
   rw[M]at C
   injection C with C
   injection C with q5 q6 q7
   subst q5 q6 q7
   obtain⟨W,n2⟩:=List.nodup_cons.1 hnd
   simp only[Aq]at f
   obtain⟨x,J,B1,B2,V,k2,k3,k4,k5,k6,k7,k8⟩:=row s' xs L.toList P he n2 T f z (by rw[Array.getElem?_toList];exact R) (by
    rcases U with⟨Y,_,_,a4⟩|⟨Y,a2⟩
    .exact .inl ⟨Y,a4⟩
    .exact .inr ⟨Y,a2⟩)
   simp only[Aw,V,Option.bind_some,k2,Option.map_some,AL]at G
   subst G
   refine⟨B1,_::B2,k3,?_,?_,?_,k7,List.nodup_cons.2 ⟨λq=>W (k6 _ q),k8⟩⟩
   .simp only[AE]
    exact⟨_,_,L,e1,Z,B2,rfl,rfl,rfl,M,ht,by simp[hl],k4⟩
   .intro k H
    refine⟨BN _ (k5 k H).1,λq=>?_⟩
    rcases A7.1 q with rfl|q
    .exact W (k5 _ H).1
    .exact(k5 k H).2 q
   .intro k H
    rcases A7.1 H with rfl|H
    .simp
    .exact BN _ (k6 k H)
  |o s'=>
   simp only[AO,Sh.under]at T
   simp only[AE]at r
   rcases r with⟨q|q,_⟩|⟨xs,rfl,r⟩
   .subst q;simp[Aq]at f
   .cases d<;>simp[Aq]at f<;>simp[D.flat]at q
   simp only[Wk]at U
   obtain⟨b2,o2,cs2,e2,fz2,z,hv,C,R,U⟩:=U
   rcases r with⟨rfl,rfl,_⟩|⟨b1,off,cap,L,e1,Z,P,rfl,rfl,M,ht,h1,h2,h3,he⟩
   .exact hv.none.elim
   obtain⟨rfl,hi,rfl⟩:=hv.slice
   rw[M]at C
   injection C with C
   injection C with q5 q6 q7
   subst q5 q6 q7
   obtain⟨W,n2⟩:=List.nodup_cons.1 hnd
   simp only[Aq]at f
   obtain⟨x,J,B1,B2,V,k2,k3,k4,k5,k6,k7,k8⟩:=row s' xs (L.toList.drop off) P he n2 T f z (by rw[Eo];exact R) (by
    rcases U with⟨Y,_,_,a4⟩|⟨Y,a2⟩
    .exact .inl ⟨Y,a4⟩
    .exact .inr ⟨Y,a2⟩)
   simp only[Aw,V,Option.bind_some,k2,Option.map_some,AL]at G
   subst G
   refine⟨B1,_::B2,k3,?_,?_,?_,k7,List.nodup_cons.2 ⟨λq=>W (k6 _ q),k8⟩⟩
   .simp only[AE]
    refine .inr ⟨_,rfl,.inr ⟨_,off,cap,L,e1,Z,B2,rfl,by simp,M,ht,by simpa using h1,h2,h3,k4⟩⟩
   .intro k H
    refine⟨BN _ (k5 k H).1,λq=>?_⟩
    rcases A7.1 q with rfl|q
    .exact W (k5 _ H).1
    .exact(k5 k H).2 q
   .intro k H
    rcases A7.1 H with rfl|H
    .simp
    .exact BN _ (k6 k H)
def Wy:List Fact->Nat->Option (Nat×List PE×Nat)
 |[],_=>none
 |.sl t (.ip r p m [])::st,u=>if t=u then some (r,p,m)else Wy st u
 |_::st,u=>Wy st u
def Q1:List Fact->Nat->Option Nat
 |[],_=>none
 |.sl t (.ag r [])::st,u=>if t=u then some r else Q1 st u
 |_::st,u=>Q1 st u
def TC(st:List Fact)(r:Nat):List Nat:=st.filterMap λf=>match f with
 |.sl t (.ag R [])=>if R=r then some t else none
 |_=>none
def Cg(n:Nat)(l:List (Nat×Gd)):List Fact:=l.map λy=>.sl y.1 (.is n y.2)
def GU(n:Nat)(l:List Nat):List Fact:=l.map λy=>.sl y (.ag n [])
def AMI(l:List (Nat×Gd)):List (Nat×Gd):=l.drop (l.length-1)
def NF(st:List Fact)(AA:Nat)(code:Nat):Option (Pr×Sm):=
 if 600000<=code then
  match CD st ((code-600000)%1000)with
  |some (.ip r p m [])=>(CV st r).bind λf=>(f.under p.length).bind λes=>(FI es).bind λi=>
    some (.sp r p (min i ((code-600000)/1000)),⟨[.sl ((code-600000)%1000) (.ip r p m []),.en r f]++(Cg r (AMI (slotsOf st r))++GU r []),[r],
     .en AA (ow ((code-600000)/1000))::.en (AA+1) f::.sl ((code-600000)%1000) (.is AA [])::.sl ((code-600000)%1000) (.ip (AA+1) p AA [])::(Cg (AA+1) (AMI (slotsOf st r))++GU (AA+1) [])⟩)
  |_=>none
 else if 550000<=code then
  match CD st (code-550000)with
  |some (.is n [])=>(CV st n).bind λs=>if s.okF=true then
    some (.cy (.e n),⟨[.sl (code-550000) (.is n []),.en n s]++Cg n (slotsOf st n),[n],.en AA .v::Cg AA (slotsOf st n)⟩)else none
  |_=>none
 else if 500000<=code then
  match CD st (code-500000)with
  |some (.is n [])=>match CV st n with
   |some (.o s)=>some (.ln (.e n) [],⟨[.sl (code-500000) (.is n []),.en n (.o s)],[],[.sl (code-500000) (.is n []),.sl (code-500000) (.lh n [])]⟩)
   |_=>none
  |_=>none
 else if 400000<=code then
  match CD st (code-400000),Q1 st (code-400000)with
  |some (.is m []),some h=>match CV st m,CV st h with
   |some (.a s),some (.b s')=>if s=s'/\m≠h then some (.cy (.e m),⟨[.sl (code-400000) (.is m []),.sl (code-400000) (.ag h []),.en m (.a s),.en h (.b s)]++Cg h (slotsOf st h),[m,h],.en AA (.b s)::Cg AA (slotsOf st h)⟩)else none
   |_,_=>none
  |_,_=>none
 else if 300000<=code then
  match(match Q1 st (code-300000)with
   |some r=>some (r,Loc.ag r [])
   |none=>match CD st (code-300000)with
    |some (.ia r m [])=>some (r,.ia r m [])
    |_=>none)with
  |some (r,l)=>match CV st r with
   |some (.b s)=>if s.Fc=true then some (.sw r,⟨[.sl (code-300000) l,.en r (.b s)]++Cg r (slotsOf st r),[r],.en AA (.a s)::.en (AA+1) (.b s)::.sl (code-300000) (.is AA [])::.sl (code-300000) (.ag (AA+1) [])::Cg (AA+1) (slotsOf st r)⟩)else none
   |_=>none
  |none=>none
 else if 200000<=code then
  match CD st (code-200000),Wy st (code-200000)with
  |some (.is m []),some (h,p,M)=>match CV st m,CV st h with
   |some s1,some f=>(FI s1).bind λk=>(f.under p.length).bind λes=>(FI es).bind λi=>
     if m≠h then some (.jn h p (.e m) (min k i),⟨[.sl (code-200000) (.is m []),.sl (code-200000) (.ip h p M []),.en m s1,.en h f]++(Cg h (slotsOf st h)++GU h (TC st h)),[m,h],.en AA f::(Cg AA (slotsOf st h)++GU AA (TC st h))⟩)else none
   |_,_=>none
  |_,_=>none
 else if 100000<=code then
  match CD st ((code-100000)%1000)with
  |some (.ip r p m [])=>(CV st r).bind λf=>(f.under p.length).bind λes=>(FI es).bind λi=>
    some (.sp r p (min i ((code-100000)/1000)),⟨[.sl ((code-100000)%1000) (.ip r p m []),.en r f]++(Cg r (slotsOf st r)++GU r (TC st r)),[r],
     .en AA (ow ((code-100000)/1000))::.en (AA+1) f::.sl ((code-100000)%1000) (.is AA [])::.sl ((code-100000)%1000) (.ip (AA+1) p AA [])::(Cg (AA+1) (slotsOf st r)++GU (AA+1) (TC st r))⟩)
  |_=>none
 else none
theorem AdD(k:Nat):(ow k).Fc=true:=by cases k<;>rfl
section
variable{cf:CF}{sg:Nat->Option Sg}{c:Cx}{F:Fact->Prop}{E:Nat->D}{a:Act}{w:World}{vs:Nat->Value}{Bs:Nat->List Nat}{AA:Nat}{sm:Sm}{st:List Fact}{p:Pr}
 {K:Nat->List D->List D->Prop}
theorem BP.two(H:BP c F E a w vs Bs){r:Nat}{sr:Sh}(U:F (.en r sr)){m:Nat}(P:Bw F m)(R:Bw F (m+1)){s1 s2:Sh}{v1 v2:Value}{B1 B2:List Nat}
  (o1:AE c.fid w.heap (OB F Bs) c.Xb s1 (E m) v1 B1) (o2:AE c.fid w.heap (OB F Bs) c.Xb s2 (E (m+1)) v2 B2) (L:B1.Nodup) (n2:B2.Nodup) (b1:∀k∈B1,k∈Bs r/\k∉B2) (b2:∀k∈B2,k∈Bs r):
  BP c (next F none ⟨[],[r],[.en m s1,.en (m+1) s2]⟩) E a w (AU (AU vs m v1) (m+1) v2) (AU (AU Bs m B1) (m+1) B2):=by
 let V:Nat->Value:=AU (AU vs m v1) (m+1) v2;let W:Nat->List Nat:=AU (AU Bs m B1) (m+1) B2;have C:V m=v1:=by simp only[V];rw[B8 _ _ (by omega),BL]
 have G:V (m+1)=v2:=by simp only[V];rw[BL]
 have g:W m=B1:=by simp only[W];rw[B8 _ _ (by omega),BL]
 have i:W (m+1)=B2:=by simp only[W];rw[BL]
 have N:∀n s',(n=m\/n=m+1)->next F none ⟨[],[r],[.en m s1,.en (m+1) s2]⟩ (.en n s')->(n=m/\s'=s1)\/(n=m+1/\s'=s2):=by rintro n s' b (⟨q,_⟩|q);rcases b with rfl|rfl;exact(P.1 _ q).elim;exact(R.1 _ q).elim;simp only[A7,D4,or_false]at q;rcases q with q|q;injection q with Q M;exact .inl ⟨Q,M⟩;injection q with Q M;exact .inr ⟨Q,M⟩
 refine BP.step (λn=>n=m\/n=m+1) (λn=>n∈[r]) (λ_=>False) none H (λn b=>by rw[B8 _ _ (λe=>b (.inr e)),B8 _ _ (λe=>b (.inl e))])
  (λn b=>by rw[B8 _ _ (λe=>b (.inr e)),B8 _ _ (λe=>b (.inl e))])
  (λt l T n b q=>by
   rcases q with rfl|rfl
   .exact P.2 t l T b
   .exact R.2 t l T b)
  (λ_ q=>q.elim) (Ay.refl _ _) rfl rfl rfl (λ_ _=>rfl) rfl rfl ?_ ?_ ?_ ?_ ?_ ?_
 .rintro f (⟨Y,Z⟩|q)
  .left;refine⟨Y,?_⟩;cases f<;>exact Z
  .right;simp only[A7,D4,or_false]at q;rcases q with rfl|rfl
   .exact .inl rfl
   .exact .inr rfl
 .intro n s' b s;have O:∀B,B < w.heap.size->(E7 F Bs (λn=>n∈[r]) B\/∃k,(k=m\/k=m+1)/\B∈W k)->OB F Bs B:=by rintro B _ (⟨L,s1,z1,_,z3⟩|⟨k,I,h⟩);exact⟨L,s1,z1,z3⟩;refine⟨r,_,U,?_⟩;rcases I with rfl|rfl;rw[g]at h;exact(b1 _ h).1;rw[i]at h;exact b2 _ h
  rcases N n s' b s with⟨rfl,rfl⟩|⟨rfl,rfl⟩
  .show AE c.fid w.heap _ c.Xb s' (E n) (V n) (W n);rw[C,g];exact AE.ext (Ay.refl (λ_=>False) _) (λ_ _ q=>q.elim) O _ _ _ _ (λ_ _ q=>q) o1
  .show AE c.fid w.heap _ c.Xb s' (E (m+1)) (V (m+1)) (W (m+1));rw[G,i];exact AE.ext (Ay.refl (λ_=>False) _) (λ_ _ q=>q.elim) O _ _ _ _ (λ_ _ q=>q) o2
 .intro n s' b s;show(W n).Nodup;rcases N n s' b s with⟨rfl,rfl⟩|⟨rfl,rfl⟩
  .rw[g];exact L
  .rw[i];exact n2
 .intro n s' b s B h;refine .inl ⟨r,_,U,by simp,?_⟩;have h:B∈W n:=h;rcases N n s' b s with⟨rfl,rfl⟩|⟨rfl,rfl⟩
  .rw[g]at h;exact(b1 _ h).1
  .rw[i]at h;exact b2 _ h
 .intro n s' k r' b I s hg x B h j;have h:B∈W n:=h;have j:B∈W k:=j;rcases N n s' b s with⟨rfl,rfl⟩|⟨rfl,rfl⟩<;>rcases N k r' I hg with⟨rfl,rfl⟩|⟨rfl,rfl⟩
  .exact x rfl
  .rw[g]at h;rw[i]at j;exact(b1 _ h).2 j
  .rw[i]at h;rw[g]at j;exact(b1 _ j).2 h
  .exact x rfl
 .intro t' l' J
  cases J
theorem ADB(P:∀j,j<2->Bw F (AA+j))(H:BP c F E a w vs Bs){t r m k i:Nat}{q:List PE}{O es:Sh}{l1:List (Nat×Gd)}{l2:List Nat}(J:F (.sl t (.ip r q m [])))(I:F (.en r O))(hs:O.under q.length=some es)(hi:FI es=some i)
  (h1:∀f∈Cg r l1,F f) (h2:∀f∈GU r l2,F f) (N:JF (min i k) (E r) (q.mapM (PE.ev E))=some (E AA,E (AA+1))) (ns:List Fact):
  Ex c (next F none ⟨ns,[r],.en AA (ow k)::.en (AA+1) O::.sl t (.is AA [])::.sl t (.ip (AA+1) q AA [])::(Cg (AA+1) l1++GU (AA+1) l2)⟩) E a w:=by
 have f0:Bw F AA:=by simpa using P 0 (by omega)
 have f1:Bw F (AA+1):=P 1 (by omega);have T:=H.own r _ I;obtain⟨is,gb,go,d0,k1,k2,k3,k4⟩:=H.loc t _ J (by simp[Au]) ⟨O,I⟩;have R:is≠[]:=by rintro rfl;simp[Wk]at k3
 unfold JF at N;have hq:q.mapM (PE.ev E)=some is:=k1;rw[hq,Option.bind_some,k2,Option.bind_some]at N;split at N
 .rename_i B;simp only[Ag,AJ]at N;obtain⟨dh,h,hd1,rfl⟩:=N;have hes:=Mx hi;subst hes;rw[hd1]at k2 B;obtain⟨B1,B2,o1,o2,b1,b2,n1,n2⟩:=AE.split (AdD i) is O (E r) (E AA) (E (AA+1)) (vs r) (vs m) (Bs r) gb go R T (H.nodup r _ I) (by rw[Kf k1];exact hs) k2 h k3;have H1:=H.two I f0 f1 (AE.lift i k _ _ _ o1 B) o2 n1 n2 b1 b2;have hrc:r≠AA:=by rintro rfl;exact f0.1 _ I
  have V:r≠AA+1:=by rintro rfl;exact f1.1 _ I
  have hmc:m≠AA:=by rintro rfl;exact f0.2 _ _ J (by simp[Loc.Ae])
  have hmc1:m≠AA+1:=by rintro rfl;exact f1.2 _ _ J (by simp[Loc.Ae])
  have W:AU (AU vs AA (vs m)) (AA+1) (vs r) AA=vs m:=by rw[B8 _ _ (by omega),BL]
  have Z:AU (AU vs AA (vs m)) (AA+1) (vs r) (AA+1)=vs r:=BL _ _ _;have er:AU (AU vs AA (vs m)) (AA+1) (vs r) r=vs r:=by rw[B8 _ _ V,B8 _ _ hrc]
  have hgl:∃x,Aq is (E (AA+1))=some x:=by
   have gs:∀(is:List Nat)(x y:D),Aw is x .u=some y->∃d,Aq is y=some d:=by
    intro is;induction is with
    |nil=>intro x y _;exact⟨y,rfl⟩
    |cons j is ih=>
     intro x y G
     cases x with
     |l Y=>
      simp only[Aw,Ag,AW]at G
      obtain⟨y1,⟨x1,L,M⟩,rfl⟩:=G
      obtain⟨d,hd⟩:=ih x1 y1 M
      have hj:j<Y.length:=(List.getElem?_eq_some_iff.1 L).1
      exact⟨d,by simp[Aq,hj,hd]⟩
     |g Y=>
      simp only[Aw,Ag,AW]at G
      obtain⟨y1,⟨x1,L,M⟩,rfl⟩:=G
      obtain⟨d,hd⟩:=ih x1 y1 M
      have hj:j<Y.length:=(List.getElem?_eq_some_iff.1 L).1
      exact⟨d,by simp[Aq,hj,hd]⟩
     |_=>simp[Aw]at G
   exact gs is _ _ h
  obtain⟨x0,hx0⟩:=hgl;refine⟨_,_,H1.Fy ?_ ?_⟩
  .intro n' s';simp only[next,Cg,GU,A7,Ac,List.mem_map,D4,or_false];constructor
   .rintro(q|q|q|q|q|⟨_,_,q⟩|⟨_,_,q⟩)
    .exact .inl q
    .exact .inr (.inl q)
    .exact .inr (.inr q)
    .cases q
    .cases q
    .cases q
    .cases q
   .rintro(q|q|q)
    .exact .inl q
    .exact .inr (.inl q)
    .exact .inr (.inr (.inl q))
  .intro t' l' hf;rcases hf with⟨Q,s⟩|q
   .exact .inl (.inl ⟨Q,s⟩)
   .simp only[Cg,GU,A7,Ac,List.mem_map]at q;rcases q with q|q|q|q|⟨⟨U,gu⟩,hu,q⟩|⟨U,hu,q⟩
    .cases q
    .cases q
    .injection q with Q s;subst Q s;right;refine⟨λ_=>?_,λq=>(q (by simp[Au])).elim⟩;rw[W];exact k4
    .injection q with Q s;subst Q s;right;intro _ _;exact⟨is,gb,go,x0,k1,hx0,by rw[W,Z];exact k3,by rw[W];exact k4⟩
    .injection q with Q s;subst Q s;have C:F (.sl U (.is r gu)):=h1 _ (List.mem_map.2 ⟨(U,gu),hu,rfl⟩);have:=H.loc U _ C;right;refine⟨λG=>?_,this.2⟩;rw[Z];exact this.1 G
    .injection q with Q s;subst Q s;have C:F (.sl U (.ag r [])):=h2 _ (List.mem_map.2 ⟨U,hu,rfl⟩);obtain⟨xs,b,cs,e,fz,j1,j2,j3,j4⟩:=H.loc U _ C (by simp[Au]) ⟨O,I⟩;right;intro _ _;have hg2:∃Y,E (AA+1)=.g Y:=by
      rw[j1]at h
      cases is with
      |nil=>exact(R rfl).elim
      |cons j is=>
       simp only[Aw,Ag]at h
       obtain⟨y,_,hy⟩:=h
       exact⟨_,hy.symm⟩
     obtain⟨Y,hys⟩:=hg2;exact⟨Y,b,cs,e,fz,hys,by rw[Z];exact j2,j3,j4⟩
 .cases N
theorem AT9(Y:Bw F AA)(H:BP c F E a w vs Bs){t h m m0 k i:Nat}{q:List PE}{s1 C es:Sh}{l1:List (Nat×Gd)}{l2:List Nat}(hsl:F (.sl t (.is m [])))(hsp:F (.sl t (.ip h q m0 [])))(hm:F (.en m s1))(I:F (.en h C))(hmh:m≠h)
  (hk:FI s1=some k) (hs:C.under q.length=some es) (hi:FI es=some i)
  (h1:∀f∈Cg h l1,F f) (h2:∀f∈GU h l2,F f) (hE:AY E (.jn h q (.e m) (min k i))=some (E AA)) (ns:List Fact):
  Ex c (next F none ⟨ns,[m,h],.en AA C::(Cg AA l1++GU AA l2)⟩) E a w:=by
 have x:=H.own h _ I;have N:=H.own m _ hm;obtain⟨is,gb,go,d0,k1,k2,k3,k4⟩:=H.loc t _ hsp (by simp[Au]) ⟨C,I⟩;have k5:=(H.loc t _ hsl).1 (by simp[Au]);have hv0:vs m0=vs m:=by rw[k4]at k5;injection k5
 have M:is≠[]:=by rintro rfl;simp[Wk]at k3
 have hq:q.mapM (PE.ev E)=some is:=k1;have l:(if((E m).one&&CY (min k i) (E m))=true then(q.mapM (PE.ev E)).bind λis=>Aw is (E h) (E m)else none)=some (E AA):=hE;split at l
 .rename_i hc;simp only[AV]at hc;obtain⟨hone,V⟩:=hc;rw[hq,Option.bind_some]at l;have hs1:=Mx hk;have hes:=Mx hi;subst hs1 hes;have P:C.under is.length=some (ow i):=by rw[Kf k1];exact hs
  obtain⟨b2,o2,x2,B2,w1,_,_,Z⟩:=Wk.K7 is C (ow i) (E h) d0 (vs h) (Bs h) M x k2 P;obtain⟨rfl,rfl,_⟩:=Wk.MA is k3 w1;obtain⟨T,ge,gfz,c1,c2⟩:=k3.cell;have hfz:gfz=(0,0):=Rq is C (E h) d0 (vs h) (Bs h) x k2 P k3 c1;subst hfz;rw[hv0]at c2;have hset:T.setIfInBounds go (vs m)=T:=by apply Array.ext;simp;intro j hj1 hj2;rw[Array.getElem_setIfInBounds];split;rename_i e;subst e;obtain⟨R,Q⟩:=Array.getElem?_eq_some_iff.1 c2;exact Q.symm;rfl
  have W:∀b∈Bs h,b∉Bs m:=λb J hbm=>H.apart h _ m _ I hm (Ne.symm hmh) b J hbm;have hO:∀b,b<w.heap.size->(E7 F Bs (λn=>n∈[m,h]) b\/b∈Bs h\/b∈Bs m)->OB F Bs b:=by rintro b _ (⟨n1,s1,z1,_,z3⟩|q|q);exact⟨n1,s1,z1,z3⟩;exact⟨h,_,I,q⟩;exact⟨m,_,hm,q⟩
  have x1:AE c.fid w.heap (λb=>E7 F Bs (λn=>n∈[m,h]) b\/b∈Bs h\/b∈Bs m) c.Xb (ow i) (E m) (vs m) (Bs m):=
   AE.ext (Ay.refl (λ_=>False) _) (λ_ _ q=>q.elim) hO _ _ _ _ (λ_ _ q=>q) (AE.lift k i _ _ _ N V)
  obtain⟨B',s1,s2,s3,_⟩:=AE.set (O:=OB F Bs) (λb _=>rfl) rfl c1 (by rw[hset];exact c1) ⟨h,C,I,Z⟩ hO x1 is C (E h) (E AA) (vs h) _ (Bs h) M x (H.nodup h C I) W (H.nodup m _ hm) P l k3;have hhc:h≠AA:=by rintro rfl;exact Y.1 _ I
  have H1:=H.put (m:=AA) (s:=C) (v:=vs h) (B:=B') (dst:=none) (ns:=[]) (w':=w) (g:=[]) Y (by simp[B9]) [m,h] (Ay.refl _ _) rfl rfl rfl
   (AE.ext (Ay.refl (λ_=>False) _) (λ_ _ q=>q.elim) (λb J G=>by
    rcases G with G|G
    .exact .inl G
    .exact .inr (s2 b G)) _ _ _ _ (λ_ _ q=>q) s1) s3
   (λb J=>by
    rcases s2 b J with J|J
    .exact .inl ⟨h,C,I,by simp,J⟩
    .exact .inl ⟨m,_,hm,by simp,J⟩) (by simp[Au])
  refine⟨AU vs AA (vs h),AU Bs AA B',H1.Fy ?_ ?_⟩
  .intro n' s';simp only[next,one,Cg,GU,A7,Ac,List.mem_map,D4,or_false];constructor
   .rintro(q|q|⟨_,_,q⟩|⟨_,_,q⟩)
    .exact .inl q
    .exact .inr q
    .cases q
    .cases q
   .rintro(q|q)
    .exact .inl q
    .exact .inr (.inl q)
  .intro t' l' hf;rcases hf with⟨R,Q⟩|q
   .exact .inl (.inl ⟨R,Q⟩)
   .simp only[Cg,GU,A7,Ac,List.mem_map]at q;rcases q with q|⟨⟨U,gu⟩,hu,q⟩|⟨U,hu,q⟩
    .cases q
    .injection q with R Q;subst R Q;have L:F (.sl U (.is h gu)):=h1 _ (List.mem_map.2 ⟨(U,gu),hu,rfl⟩);have:=H.loc U _ L;right;refine⟨λhg=>?_,this.2⟩;rw[BL];exact this.1 hg
    .injection q with R Q;subst R Q;have L:F (.sl U (.ag h [])):=h2 _ (List.mem_map.2 ⟨U,hu,rfl⟩);obtain⟨xs,b,cs,e,fz,j1,j2,j3,j4⟩:=H.loc U _ L (by simp[Au]) ⟨C,I⟩;right;intro _ _;have hg2:∃ys,E AA=.g ys:=by
      rw[j1]at l
      cases is with
      |nil=>exact(M rfl).elim
      |cons j is=>
       simp only[Aw,Ag]at l
       obtain⟨y,_,hy⟩:=l
       exact⟨_,hy.symm⟩
     obtain⟨ys,hys⟩:=hg2;exact⟨ys,b,cs,e,fz,hys,by rw[BL];exact j2,j3,j4⟩
 .cases l
theorem Yt{fid:Nat->Nat}{h:Array Obj}{O X:Nat->Prop}{s:Sh}(H:s.Fc=true):∀(vs:List Value),AM (AE fid h O X s) (List.replicate vs.length .u) vs []
 |[]=>by simp[AM]
 |v::vs=>by simp only[AO,List.replicate_succ,AM];exact⟨[],[],rfl,AE.Yc H v,Yt H vs⟩
theorem AdK(B:∀j,j<2->Bw F (AA+j))(H:BP c F E a w vs Bs){t r:Nat}{s:Sh}{l1:List (Nat×Gd)}(W:F (.en r (.b s)))(hs:s.Fc=true)
  (T:∃xs b cs e O,E r=.g xs/\vs r=.pointer (some ⟨b,0,none⟩)/\w.heap[b]?=some (.cells cs e O)/\a.tmps[t]?=some (.agg cs)) (h1:∀f∈Cg r l1,F f)
  (P:MR (E r)=some (E AA,E (AA+1))) (ns:List Fact):
  Ex c (next F none ⟨ns,[r],.en AA (.a s)::.en (AA+1) (.b s)::.sl t (.is AA [])::.sl t (.ag (AA+1) [])::Cg (AA+1) l1⟩) E a w:=by
 have f0:Bw F AA:=by simpa using B 0 (by omega)
 have f1:Bw F (AA+1):=B 1 (by omega);have h:=H.own r _ W;simp only[AE]at h;obtain⟨xs,b,cs,e,O,B',e1,J,L,M,e5,N,e7⟩:=h;have V:O=(0,0):=e5;subst V;obtain⟨xs',b',cs',e',fz',j1,j2,j3,j4⟩:=T;rw[L]at j2;injection j2 with j2;injection j2 with j2;injection j2 with j2;subst j2;rw[M]at j3;injection j3 with j3;injection j3 with j3 _ _;subst j3;rw[e1]at P;simp only[MR,AL,AJ]at P;obtain⟨R,x⟩:=P;have I:=H.nodup r _ W;rw[J]at I;obtain⟨n1,n2⟩:=List.nodup_cons.1 I;have G:cs.toList.length=xs.length:=by simpa using N
 have H1:=H.two W f0 f1 (s1:=.a s) (s2:=.b s) (v1:=.agg cs) (v2:=vs r) (B1:=B') (B2:=[b])
  (by rw[<-R];simp only[AE];exact⟨xs,cs,rfl,rfl,N,e7⟩)
  (by
   rw[<-x,L]
   simp only[AE]
   refine⟨_,b,cs,e,(0,0),[],rfl,rfl,rfl,M,rfl,by simp[N],?_⟩
   rw[<-G]
   exact Yt hs _) n2 (by simp)
  (λk C=>⟨by rw[J];exact BN _ C,by simp only[List.mem_singleton];rintro rfl;exact n1 C⟩) (λk C=>by rw[J];simp only[List.mem_singleton]at C;subst C;simp)
 have e0:AU (AU vs AA (.agg cs)) (AA+1) (vs r) AA=.agg cs:=by rw[B8 _ _ (by omega),BL]
 have l:AU (AU vs AA (.agg cs)) (AA+1) (vs r) (AA+1)=vs r:=BL _ _ _;refine⟨_,_,H1.Fy ?_ ?_⟩
 .intro n' s';simp only[next,Cg,A7,List.mem_map,D4,or_false];constructor
  .rintro(q|q|q|q|q|⟨_,_,q⟩)
   .exact .inl q
   .exact .inr (.inl q)
   .exact .inr (.inr q)
   .cases q
   .cases q
   .cases q
  .rintro(q|q|q)
   .exact .inl q
   .exact .inr (.inl q)
   .exact .inr (.inr (.inl q))
 .intro t' l' hf;rcases hf with⟨Q,i⟩|q
  .exact .inl (.inl ⟨Q,i⟩)
  .simp only[Cg,A7,List.mem_map]at q;rcases q with q|q|q|q|⟨⟨Y,Z⟩,hu,q⟩
   .cases q
   .cases q
   .injection q with Q i;subst Q i;right;refine⟨λ_=>?_,λq=>(q (by simp[Au])).elim⟩;rw[e0];exact j4
   .injection q with Q i;subst Q i;right;intro _ _;exact⟨_,b,cs,e,(0,0),x.symm,by rw[l,L],M,j4⟩
   .injection q with Q i;subst Q i;have U:F (.sl Y (.is r Z)):=h1 _ (List.mem_map.2 ⟨(Y,Z),hu,rfl⟩);have:=H.loc Y _ U;right;refine⟨λhg=>?_,this.2⟩;rw[l];exact this.1 hg
theorem Aa5(M:Bw F AA)(H:BP c F E a w vs Bs){t h m:Nat}{s:Sh}{l1:List (Nat×Gd)}(P:F (.sl t (.is m [])))(R:F (.sl t (.ag h [])))(l:F (.en m (.a s)))(k:F (.en h (.b s)))(O:m≠h)
  (h1:∀f∈Cg h l1,F f) (G:some (E m)=some (E AA)) (ns:List Fact):
  Ex c (next F none ⟨ns,[m,h],.en AA (.b s)::Cg AA l1⟩) E a w:=by
 injection G with G;have i:=H.own h _ k;have j:=H.own m _ l;simp only[AE]at i j;obtain⟨xs,b,cs,e,fz,B',e1,C,W,Y,e5,e6,e7⟩:=i;have N:fz=(0,0):=e5;subst N;obtain⟨ys,cs',d1,d2,d3,d4⟩:=j;obtain⟨xs',b',cs2,e',fz',j1,j2,j3,j4⟩:=H.loc t _ R (by simp[Au]) ⟨_,k⟩;have J:=(H.loc t _ P).1 (by simp[Au]);rw[W]at j2;injection j2 with j2;injection j2 with j2;injection j2 with j2;subst j2;rw[Y]at j3;injection j3 with j3;injection j3 with j3 _ _;subst j3;rw[j4,d2]at J;injection J with J;injection J with J;subst J;have I:b∉Bs m:=λhb=>H.apart h _ m _ k l (Ne.symm O) b (by rw[C];simp) hb
 have H1:=H.put (m:=AA) (s:=.b s) (v:=vs h) (B:=b::Bs m) (dst:=none) (ns:=[]) (w':=w) (g:=[]) M (by simp[B9]) [m,h] (Ay.refl _ _) rfl rfl rfl
  (by
   rw[<-G,d1,W]
   simp only[AE]
   refine⟨ys,b,cs,e,(0,0),Bs m,rfl,rfl,rfl,Y,rfl,d3,AM.imp (λd v B1 hB1 q=>?_) d4⟩
   refine AE.ext (Ay.refl (λ_=>False) _) (λ_ _ q=>q.elim) ?_ _ _ _ _ (λ_ _ q=>q) q
   rintro x _ (⟨n1,s1,Q,_,q3⟩|q)
   .exact⟨n1,s1,Q,q3⟩
   .rcases A7.1 q with rfl|q
    .exact⟨h,_,k,by rw[C];simp⟩
    .exact⟨m,_,l,q⟩)
  (List.nodup_cons.2 ⟨I,H.nodup m _ l⟩)
  (λx T=>by
   rcases A7.1 T with rfl|T
   .exact .inl ⟨h,_,k,by simp,by rw[C];simp⟩
   .exact .inl ⟨m,_,l,by simp,T⟩) (by simp[Au])
 refine⟨_,_,H1.Fy ?_ ?_⟩
 .intro n' s';simp only[next,one,Cg,A7,List.mem_map,D4,or_false];constructor
  .rintro(q|q|⟨_,_,q⟩)
   .exact .inl q
   .exact .inr q
   .cases q
  .rintro(q|q)
   .exact .inl q
   .exact .inr (.inl q)
 .intro t' l' hf;rcases hf with⟨Q,U⟩|q
  .exact .inl (.inl ⟨Q,U⟩)
  .simp only[Cg,A7,List.mem_map]at q;rcases q with q|⟨⟨V,Z⟩,hu,q⟩
   .cases q
   .injection q with Q U;subst Q U;have L:F (.sl V (.is h Z)):=h1 _ (List.mem_map.2 ⟨(V,Z),hu,rfl⟩);have:=H.loc V _ L;right;refine⟨λhg=>?_,this.2⟩;rw[BL];exact this.1 hg
theorem AfA(k:Bw F AA)(H:BP c F E a w vs Bs){n:Nat}{s:Sh}{L:List (Nat×Gd)}(l:F (.en n s))(T:s.okF=true)(N:∀f∈Cg n L,F f)(i:some (E n)=some (E AA))(ns:List Fact):
  Ex c (next F none ⟨ns,[n],.en AA .v::Cg AA L⟩) E a w:=by
 injection i with i
 have M:=H.put (m:=AA) (s:=.v) (v:=vs n) (B:=[]) (dst:=none) (ns:=[]) (w':=w) (g:=[]) k (by simp[B9]) [n] (Ay.refl _ _) rfl rfl rfl
  (by
   rw[<-i]
   simp only[AE,true_and]
   refine AE.freeze (O:=OB F Bs) (X:=c.Xb) ?_ s _ _ (Bs n) T ?_ (H.own n s l)
   .rintro b _ ((⟨m,r,Q,_,C⟩|q)|q)
    .exact .inl ⟨m,r,Q,C⟩
    .cases q
    .exact .inr q
   .rintro b I ((⟨m,r,Q,h,C⟩|q)|q)
    .exact H.apart m r n s Q l (λe=>h (by simp[e])) b C I
    .cases q
    .obtain⟨x1,Y⟩:=c.hX b q
     rcases H.mine n s l b I with J|J
     .omega
     .exact Y J) (by simp) (λx W=>by cases W) (by simp[Au])
 refine⟨_,_,M.Fy ?_ ?_⟩
 .intro n' s';simp only[next,one,Cg,A7,List.mem_map,D4,or_false];constructor
  .rintro(q|q|⟨_,_,q⟩)
   .exact .inl q
   .exact .inr q
   .cases q
  .rintro(q|q)
   .exact .inl q
   .exact .inr (.inl q)
 .intro t' Z P;rcases P with⟨Q,h⟩|q
  .exact .inl (.inl ⟨Q,h⟩)
  .simp only[Cg,A7,List.mem_map]at q;rcases q with q|⟨⟨U,G⟩,V,q⟩
   .cases q
   .injection q with Q h;subst Q h;have j:F (.sl U (.is n G)):=N _ (List.mem_map.2 ⟨(U,G),V,rfl⟩);have:=H.loc U _ j;right;refine⟨λR=>?_,this.2⟩;rw[BL];exact this.1 R
theorem AZ8(H:BP c F E a w vs Bs){t n:Nat}{s:Sh}(k:F (.sl t (.is n [])))(I:F (.en n (.o s)))(J:BC K E AA (.ln (.e n) []))(ns:List Fact):
  Ex c (next F none ⟨ns,[],[.sl t (.is n []),.sl t (.lh n [])]⟩) E a w:=by
 have f:Fu (E n)=some (E AA):=by simpa[BC,AY,E9,ev,Aq]using J
 obtain⟨xs,x⟩:∃xs,E n=.l xs:=by
  unfold Fu at f;split at f;exact⟨_,‹_›⟩
  cases f
 have h:=H.own n _ I;have B:=(H.loc t _ k).1 (by simp[Au]);rw[x]at h;refine⟨vs,Bs,H.Fy (λm r=>?_) (λu l L=>?_)⟩
 .simp[next]
 .rcases L with⟨q,_⟩|q
  .exact .inl q
  .simp only[A7,D4,or_false]at q;rcases q with q|q
   .rw[q];exact .inl k
   right;injection q with Q M;subst Q M;intro _;simp only[AE]at h;rcases h with⟨q|q,_⟩|⟨Y,j,r⟩
   .cases q
   .simp[D.flat]at q
   .injection j with j;subst j;rcases r with⟨g,rfl,_⟩|⟨b,off,cap,C,O,G,N,_,g,_⟩
    .exact⟨[],none,0,0,x,g,rfl,λi hi=>by omega,B⟩
    .exact⟨xs,_,_,_,x,g,rfl,λi hi=>⟨b,off,rfl⟩,B⟩
theorem AGP{code:Nat}(g:NF st AA code=some (p,sm))(H:BP c F E a w vs Bs)(C:∀j,j<p.np->Bw F (AA+j))(x:∀f∈sm.needs,F f)(J:BC K E AA p):Ex c (next F none sm) E a w:=by
 unfold NF at g;split at g;split at g;rename_i r q m M;simp only[AW]at g;obtain⟨Y,V,es,G,i,hi,g⟩:=g;simp only[AL,AJ]at g;obtain⟨rfl,rfl⟩:=g
 exact ADB (λj N=>C j (by simpa[Pr.np]using N)) H (x (.sl _ (.ip r q m [])) (by simp)) (x _ (by simp)) G hi
  (λf B=>x f (BF _ (BX _ B))) (λf B=>x f (BF _ (BF _ B))) J _
 cases g;split at g;split at g;rename_i n M;simp only[AW]at g;obtain⟨s,Q,g⟩:=g;split at g;rename_i W;simp only[AL,AJ]at g;obtain⟨rfl,rfl⟩:=g;exact AfA (by simpa using C 0 (by simp[Pr.np])) H (x (.en n s) (by simp)) W (λf B=>x f (BF _ B)) J _
 cases g
 cases g;split at g;split at g;rename_i n M;split at g;rename_i s Q;simp only[AL,AJ]at g;obtain⟨rfl,rfl⟩:=g;exact AZ8 H (x (.sl (code-500000) (.is n [])) (by simp)) (x (.en n (.o s)) (by simp)) J _
 cases g
 cases g;split at g;split at g;rename_i m h M Q;split at g;rename_i s s' Z e4;split at g;rename_i hc;obtain⟨rfl,L⟩:=hc;simp only[AL,AJ]at g;obtain⟨rfl,rfl⟩:=g;exact Aa5 (by simpa using C 0 (by simp[Pr.np])) H (x (.sl (code-400000) (.is m [])) (by simp)) (x (.sl (code-400000) (.ag h [])) (by simp)) (x _ (by simp)) (x _ (by simp)) L (λf B=>x f (BF _ B)) J _
 cases g
 cases g
 cases g;split at g;split at g;rename_i r l I;split at g;rename_i s W;split at g;rename_i P;simp only[AL,AJ]at g;obtain⟨rfl,rfl⟩:=g;have U:F (.en r (.b s)):=x _ (by simp);have O:F (.sl (code-300000) l):=x _ (by simp);refine AdK (λj N=>C j (by simpa[Pr.np]using N)) H U P ?_ (λf B=>x f (BF _ B)) J _;split at I;injection I with I;injection I with R T;subst R T;exact H.loc _ _ O (by simp[Au]) ⟨_,U⟩;split at I;injection I with I;injection I with R T;subst R T;obtain⟨xs,b,cs,e,fz,j1,_,j3,j4,j5,j6⟩:=H.loc _ _ O (by simp[Au]) ⟨_,U⟩;exact⟨xs,b,cs,e,fz,j1,j3,j4,by rw[j6,j5]⟩
 cases I
 cases g
 cases g
 cases g;split at g;split at g;rename_i m h q m0 M Q;split at g;rename_i s1 Y Z e4;simp only[AW]at g;obtain⟨k,hk,es,G,i,hi,g⟩:=g;split at g;rename_i L;simp only[AL,AJ]at g;obtain⟨rfl,rfl⟩:=g
 exact AT9 (by simpa using C 0 (by simp[Pr.np])) H (x (.sl (code-200000) (.is m [])) (by simp)) (x (.sl (code-200000) (.ip h q m0 [])) (by simp)) (x _ (by simp)) (x _ (by simp)) L hk G hi
  (λf B=>x f (BF _ (BX _ B))) (λf B=>x f (BF _ (BF _ B))) J _
 cases g
 cases g
 cases g;split at g;split at g;rename_i r q m M;simp only[AW]at g;obtain⟨Y,V,es,G,i,hi,g⟩:=g;simp only[AL,AJ]at g;obtain⟨rfl,rfl⟩:=g
 exact ADB (λj N=>C j (by simpa[Pr.np]using N)) H (x (.sl _ (.ip r q m [])) (by simp)) (x _ (by simp)) G hi
  (λf B=>x f (BF _ (BX _ B))) (λf B=>x f (BF _ (BF _ B))) J _
 cases g
 cases g
end
end Go.Cat
namespace Go.Cat
def A.Ae:A->List Nat
 |.e n=>[n]
 |.c _=>[]
def Pk:Option A->List Nat
 |some a=>a.Ae
 |none=>[]
def Pr.Ae:Pr->List Nat
 |.nop|.cs .. |.mm=>[]
 |.cy a|.un _ a|.cv _ a|.sn a|.bs a|.sy a=>a.Ae
 |.bi _ a b|.bb _ a b|.sx a b|.ap _ a b|.mx a b|.mn a b|.mk _ a b|.iy a b=>a.Ae++b.Ae
 |.pk a b c=>a.Ae++b.Ae++c.Ae
 |.ln a p=>a.Ae++p.flatMap PE.Ae
 |.ix a p i=>a.Ae++p.flatMap PE.Ae++i.Ae
 |.up n p a=>n::(p.flatMap PE.Ae++a.Ae)
 |.sb _ a lo hi=>a.Ae++Pk lo++Pk hi
 |.ss a lo hi=>a.Ae++Pk lo++Pk hi
 |.li _ xs=>xs.flatMap A.Ae
 |.ca _ xs _=>xs.flatMap A.Ae
 |.cd f _ xs _=>f.Ae++xs.flatMap A.Ae
 |.bg _ xs=>xs.flatMap λx=>x.1.Ae
 |.bp a|.gp a _|.nz _ a|.nn a|.wl _ a|.fp _ a _=>a.Ae
 |.gt a p=>a.Ae++p.flatMap PE.Ae
 |.ws n _ a=>n::a.Ae
 |.uq n p a _ _=>n::(p.flatMap PE.Ae++a.Ae)
 |.mu n k v=>n::(k.Ae++v.Ae)
 |.mg n k _=>n::k.Ae
 |.mo n k _=>n::k.Ae
 |.tk n=>[n]
 |.cb n=>[n]
 |.sp n p _=>n::p.flatMap PE.Ae
 |.sw n=>[n]
 |.jn n p a _=>n::(p.flatMap PE.Ae++a.Ae)
theorem BZ{E E':Nat->D}{a:A}(h:∀n∈a.Ae,E n=E' n):ev E a=ev E' a:=by
 cases a with
 |e n=>exact h n (by simp[A.Ae])
 |c d=>rfl
theorem PE.BZ{E E':Nat->D}{p:PE}(h:∀n∈p.Ae,E n=E' n):PE.ev E p=PE.ev E' p:=by
 cases p with
 |e n=>simp only[PE.ev];rw[h n (by simp[PE.Ae])]
 |k n=>rfl
theorem KC{E E':Nat->D}:∀{p:List PE},(∀n∈p.flatMap PE.Ae,E n=E' n)->p.mapM (PE.ev E)=p.mapM (PE.ev E')
 |[],_=>rfl
 |x::p,h=>by simp only[List.mapM_cons];rw[PE.BZ λn H=>h n (by simp[H]),KC λn H=>h n (by simp only[List.flatMap_cons,Ac];exact .inr H)]
theorem map_congr{E E':Nat->D}:∀{xs:List A},(∀n∈xs.flatMap A.Ae,E n=E' n)->xs.map (ev E)=xs.map (ev E')
 |[],_=>rfl
 |x::xs,h=>by simp only[List.map_cons];rw[BZ λn H=>h n (by simp[H]),map_congr λn H=>h n (by simp only[List.flatMap_cons,Ac];exact .inr H)]
theorem YE{E E':Nat->D}:∀{xs:List (A×Nat)},(∀n∈xs.flatMap (λx=>x.1.Ae),E n=E' n)->(xs.map λx=>(ev E x.1,x.2))=(xs.map λx=>(ev E' x.1,x.2))/\(xs.map λx=>ev E x.1)=xs.map λx=>ev E' x.1
 |[],_=>⟨rfl,rfl⟩
 |x::xs,h=>by have i:=YE (E:=E) (E':=E') (xs:=xs) λn H=>h n (by simp only[List.flatMap_cons,Ac];exact .inr H);simp only[List.map_cons];rw[BZ λn H=>h n (by simp[H]),i.1,i.2];exact⟨rfl,rfl⟩
theorem Sa{E E':Nat->D}{x:Option A}(h:∀n∈Pk x,E n=E' n):x.map (ev E)=x.map (ev E'):=by
 cases x with
 |none=>rfl
 |some a=>exact congrArg some (BZ h)
theorem AcB{E E':Nat->D}{p:Pr}(h:∀n∈p.Ae,E n=E' n):AY E p=AY E' p:=by
 cases p<;>simp only[Pr.Ae,Ac,A7]at h<;>simp only[AY,E9]
 case cy a=>rw[BZ h]
 case bi a b=>rw[BZ λn H=>h n (.inl H),BZ λn H=>h n (.inr H)]
 case bb a b=>rw[BZ λn H=>h n (.inl H),BZ λn H=>h n (.inr H)]
 case un a=>rw[BZ h]
 case pk a b c=>rw[BZ λn H=>h n (.inl (.inl H)),BZ λn H=>h n (.inl (.inr H)),BZ λn H=>h n (.inr H)]
 case cv a=>rw[BZ h]
 case ln a p=>rw[BZ λn H=>h n (.inl H),KC λn H=>h n (.inr H)]
 case sn a=>rw[BZ h]
 case sx a b=>rw[BZ λn H=>h n (.inl H),BZ λn H=>h n (.inr H)]
 case ss a lo hi=>rw[BZ λn H=>h n (.inl (.inl H)),Sa λn H=>h n (.inl (.inr H)),Sa λn H=>h n (.inr H)]
 case ix a p i=>rw[BZ λn H=>h n (.inl (.inl H)),KC λn H=>h n (.inl (.inr H)),BZ λn H=>h n (.inr H)]
 case up n p a=>rw[h n (.inl rfl),KC λn H=>h n (.inr (.inl H)),BZ λn H=>h n (.inr (.inr H))]
 case sb a lo hi=>rw[BZ λn H=>h n (.inl (.inl H)),Sa λn H=>h n (.inl (.inr H)),Sa λn H=>h n (.inr H)]
 case ap a b=>rw[BZ λn H=>h n (.inl H),BZ λn H=>h n (.inr H)]
 case mk a b=>rw[BZ λn H=>h n (.inl H),BZ λn H=>h n (.inr H)]
 case iy a b=>rw[BZ λn H=>h n (.inl H),BZ λn H=>h n (.inr H)]
 case li xs=>rw[map_congr h]
 case bs a=>rw[BZ h]
 case sy a=>rw[BZ h]
 case mx a b=>rw[BZ λn H=>h n (.inl H),BZ λn H=>h n (.inr H)]
 case mn a b=>rw[BZ λn H=>h n (.inl H),BZ λn H=>h n (.inr H)]
 case bg k xs=>rw[(YE h).1,(YE h).2]
 case bp a=>rw[BZ h]
 case gp a k=>rw[BZ h]
 case nz w a=>rw[BZ h]
 case nn a=>rw[BZ h]
 case wl k a=>rw[BZ h]
 case ws n k a=>rw[h n (.inl rfl),BZ λm e=>h m (.inr e)]
 case gt a p=>rw[BZ λn H=>h n (.inl H),KC λn H=>h n (.inr H)]
 case fp fl a k=>rw[BZ h]
 case cb n=>rw[h n (by simp)]
 case mu n a b=>rw[h n (.inl rfl),BZ λm e=>h m (.inr (.inl e)),BZ λm e=>h m (.inr (.inr e))]
 case mg n a d=>rw[h n (.inl rfl),BZ λm e=>h m (.inr e)]
 case jn n p a k=>rw[h n (.inl rfl),KC λn H=>h n (.inr (.inl H)),BZ λn H=>h n (.inr (.inr H))]
 case uq n p a i k=>rw[h n (.inl rfl),KC λn H=>h n (.inr (.inl H)),BZ λn H=>h n (.inr (.inr H))]
def Gi(E:Nat->D)(z:List (Option Nat))(j:Nat):D:=match z[j]? with
 |some (some m)=>E m
 |_=>.u
theorem NU{E:Nat->D}:∀(z:List (Option Nat))(n:Nat),(DC E z n).length=n
 |_,0=>by simp[DC]
 |[],n+1=>by simp[DC,NU [] n]
 |some m::z,n+1=>by simp[DC,NU z n]
 |none::z,n+1=>by simp[DC,NU z n]
theorem RU{E:Nat->D}:∀(z:List (Option Nat))(n j:Nat),j<n->(DC E z n)[j]?=some (Gi E z j)
 |_,0,j=>λh=>by omega
 |[],n+1,0=>λh=>by simp[DC,Gi]
 |[],n+1,j+1=>λh=>by have:=RU (E:=E) [] n j (by omega);simpa[DC,Gi]using this
 |some m::z,n+1,0=>λh=>by simp[DC,Gi]
 |some m::z,n+1,j+1=>λh=>by have:=RU (E:=E) z n j (by omega);simpa[DC,Gi]using this
 |none::z,n+1,0=>λh=>by simp[DC,Gi]
 |none::z,n+1,j+1=>λh=>by have:=RU (E:=E) z n j (by omega);simpa[DC,Gi]using this
def Ic(z:List (Option Nat)):List Nat:=z.filterMap id
theorem AUI{E E':Nat->D}{z:List (Option Nat)}{j:Nat}(h:∀n∈Ic z,E n=E' n):Gi E z j=Gi E' z j:=by unfold Gi;split;rename_i m H;exact h m (List.mem_filterMap.2 ⟨some m,List.mem_of_getElem? H,rfl⟩);rfl
def Et(K:Nat->List D->List D->Prop)(E:Nat->D)(AA:Nat)(it:It):Prop:=
 match Cq E it.g with
 |some true=>BC K E AA it.p
 |some false=>∀j,j<it.p.np->E (AA+j)=Gi E it.z j
 |none=>False
def EZ(K:Nat->List D->List D->Prop)(E:Nat->D):Nat->List It->Prop
 |_,[]=>True
 |AA,it::r=>Et K E AA it/\EZ K E (AA+it.p.np) r
def De:List It->Nat
 |[]=>0
 |it::r=>it.p.np+De r
def NT:Nat->List It->Bool
 |_,[]=>true
 |AA,it::r=>(it.p.Ae.all λn=>decide (n<AA))&&((Ic it.z).all λn=>decide (n<AA))&&(it.g.all λx=>decide (x.1<AA))&&NT (AA+it.p.np) r
theorem XR{E E':Nat->D}:∀{g:Gd},(∀x∈g,E x.1=E' x.1)->Cq E g=Cq E' g
 |[],_=>rfl
 |(n,b)::g,h=>by simp only[Cq];rw[h (n,b) (by simp),XR λx H=>h x (by simp[H])]
theorem Ju{e t:Env}{n:Nat}(h:n<e.length):Env.E (e++t) n=Env.E e n:=by simp[Env.E,Ap,DW h]
theorem HT{e t:Env}{j:Nat}:Env.E (e++t) (e.length+j)=t.getD j .u:=by simp only[Env.E,Ap];rw[G7 (by omega)];simp
theorem Oe{K:Nat->List D->List D->Prop}{Q:Env->Prop}:∀(s:List It)(e:Env),NT e.length s=true->Ek K s e Q->
  ∃t,Q (e++t)/\t.length=De s/\EZ K (Env.E (e++t)) e.length s
 |[],e=>λ_ h=>⟨[],by simpa[Ek]using h,rfl,trivial⟩
 |it::r,e=>λW h=>by
  simp only[NT,AV,Ao,Aa]at W
  obtain⟨⟨⟨hm1,hmz⟩,I⟩,hm3⟩:=W
  have key:∀C:Env,C.length=it.p.np->(∀T:Env,Et K (Env.E (e++(C++T))) e.length it)->Ek K r (e++C) Q->
    ∃t,Q (e++t)/\t.length=De (it::r)/\EZ K (Env.E (e++t)) e.length (it::r):=by
   intro C hl hit hw
   obtain⟨T,q1,q2,q3⟩:=Oe r (e++C) (by simpa[hl]using hm3) hw
   refine⟨C++T,by simpa using q1,by simp[De,hl,q2],hit T,?_⟩
   simpa[hl]using q3
  simp only[Ek,Iv]at h
  split at h
  rename_i hg
  have b:∀t,Cq (Env.E (e++t)) it.g=some true:=λt=>by rw[XR (E':=Env.E e) λx hx=>Ju (I x hx)];exact hg
  have mem:∀(t:Env)(n:Nat),n∈it.p.Ae->Env.E e n=Env.E (e++t) n:=λt n l=>(Ju (hm1 n l)).symm
  unfold Ad at h
  split at h
  rename_i H
  refine key [] (by simp[H,Pr.np]) (λT=>?_) (by simpa using h)
  simp only[Et,b,H,BC]
  rename_i k xs n H
  obtain⟨rs,Y,G,Z⟩:=h
  refine key rs (by simp[H,Pr.np,G]) (λT=>?_) Z
  simp only[Et,b,H,BC]
  refine⟨rs,?_,G,λj V=>?_⟩
  rw[map_congr (E:=Env.E (e++(rs++T))) (E':=Env.E e) λn l=>(mem (rs++T) n (by simpa[H,Pr.Ae]using l)).symm];exact Y
  rw[HT]
  simp[Ap,DW (show j<rs.length by omega),show j<rs.length from by omega]
  rename_i fv k xs n H
  obtain⟨h0,rs,Y,G,Z⟩:=h
  refine key rs (by simp[H,Pr.np,G]) (λT=>?_) Z
  simp only[Et,b,H,BC]
  refine⟨?_,rs,?_,G,λj V=>?_⟩
  rw[BZ (E:=Env.E (e++(rs++T))) (E':=Env.E e) λn l=>(mem (rs++T) n (by simp only[H,Pr.Ae,Ac];exact .inl l)).symm];exact h0
  rw[map_congr (E:=Env.E (e++(rs++T))) (E':=Env.E e) λn l=>(mem (rs++T) n (by simp only[H,Pr.Ae,Ac];exact .inr l)).symm];exact Y
  rw[HT]
  simp[Ap,DW (show j<rs.length by omega),show j<rs.length from by omega]
  rename_i n H
  split at h
  rename_i d hd
  refine key [d,.g [.u]] (by simp[H,Pr.np]) (λT=>?_) h
  simp only[Et,b,H,BC]
  refine⟨?_,?_⟩
  rw[<-mem ([d,.g [.u]]++T) n (by simp[H,Pr.Ae]),hd]
  have:=HT (e:=e) (t:=[d,.g [.u]]++T) (j:=0)
  simp only[Nat.add_zero]at this
  rw[this];rfl
  rw[HT];rfl
  exact h.elim
  rename_i n pp q H
  split at h
  rename_i d hd
  obtain⟨f,i⟩:=d
  refine key [f,i] (by simp[H,Pr.np]) (λT=>?_) h
  simp only[Et,b,H,BC]
  have B:=HT (e:=e) (t:=[f,i]++T) (j:=0)
  simp only[Nat.add_zero]at B
  rw[B,HT,<-mem ([f,i]++T) n (by simp[H,Pr.Ae]),<-KC (E:=Env.E e) λn l=>mem ([f,i]++T) n (by simp only[H,Pr.Ae,A7];exact .inr l),hd]
  rfl
  exact h.elim
  rename_i n H
  split at h
  rename_i d hd
  obtain⟨f,i⟩:=d
  refine key [f,i] (by simp[H,Pr.np]) (λT=>?_) h
  simp only[Et,b,H,BC]
  have B:=HT (e:=e) (t:=[f,i]++T) (j:=0)
  simp only[Nat.add_zero]at B
  rw[B,HT,<-mem ([f,i]++T) n (by simp[H,Pr.Ae]),hd]
  rfl
  exact h.elim
  rename_i n k0 d0 H
  split at h
  rename_i d hd
  obtain⟨f,i⟩:=d
  refine key [f,i] (by simp[H,Pr.np]) (λT=>?_) h
  simp only[Et,b,H,BC]
  have B:=HT (e:=e) (t:=[f,i]++T) (j:=0)
  simp only[Nat.add_zero]at B
  rw[B,HT,<-mem ([f,i]++T) n (by simp[H,Pr.Ae]),<-BZ (E:=Env.E e) (E':=Env.E (e++([f,i]++T))) λm W=>mem ([f,i]++T) m (by simp only[H,Pr.Ae,A7];exact .inr W),hd]
  rfl
  exact h.elim
  rename_i L M N O P R U
  have J:it.p.np=1:=by
   cases hpp:it.p<;>first|rfl|(exact(L hpp).elim)|(exact(M _ _ _ hpp).elim)|(exact(N _ _ _ _ hpp).elim)|(exact(O _ hpp).elim)|(exact(P _ _ _ hpp).elim)|(exact(R _ hpp).elim)|(exact(U _ _ _ hpp).elim)
  split at h
  rename_i d hd
  refine key [d] (by simp[J]) (λT=>?_) h
  simp only[Et,b]
  have:AY (Env.E (e++([d]++T))) it.p=some (Env.E (e++([d]++T)) e.length):=by
   rw[<-AcB (mem ([d]++T)),hd]
   have:=HT (e:=e) (t:=[d]++T) (j:=0)
   simp only[Nat.add_zero]at this
   rw[this];rfl
  cases hpp:it.p<;>first|(exact(L hpp).elim)|(exact(M _ _ _ hpp).elim)|(exact(N _ _ _ _ hpp).elim)|(exact(O _ hpp).elim)|(exact(P _ _ _ hpp).elim)|(exact(R _ hpp).elim)|(exact(U _ _ _ hpp).elim)|(rw[hpp]at this;exact this)
  exact h.elim
  rename_i hg
  refine key (DC (Env.E e) it.z it.p.np) (NU _ _) (λT=>?_) h
  have b:Cq (Env.E (e++(DC (Env.E e) it.z it.p.np++T))) it.g=some false:=by rw[XR (E':=Env.E e) λx hx=>Ju (I x hx)];exact hg
  simp only[Et,b]
  intro j V
  rw[HT,AUI (E':=Env.E e) λn l=>Ju (hmz n l)]
  rw[Ap,DW (by rw[NU];exact V),RU _ _ _ V]
  rfl
  exact h.elim
structure Sq where
 it:It
 sm:Sm
 g:Gd
def Ew(dst:Option Nat)(kill:List Nat):Fact->Bool
 |.en n _=>!kill.contains n
 |.sl t _=>some t != dst
def Ii(st:List Fact)(dst:Option Nat)(sm:Sm):List Fact:=sm.adds++st.filter (Ew dst sm.kill)
theorem TM{st:List Fact}{dst:Option Nat}{sm:Sm}{f:Fact}:f∈Ii st dst sm↔next (·∈st) dst sm f:=by
 unfold Ii next;simp only[Ac,List.mem_filter];constructor;rintro(h|⟨b,H⟩);exact .inr h;left;refine⟨b,?_⟩
 cases f<;>simp[Ew]at H|-<;>exact H;rintro(⟨b,H⟩|h);right;refine⟨b,?_⟩
 cases f<;>simp[Ew]at H|-<;>exact H;exact .inl h
def Pa(ops:Array Oper)(st:List Fact):Option (Nat×Bool)->Option (Gd×List Fact)
 |none=>some ([],[])
 |some (j,want)=>match(ops[j]?).bind (·.dst)with
  |some t=>match CD st t with
   |some (.is n g)=>(CV st n).map λs=>(g++[(n,want)],[.sl t (.is n g),.en n s])
   |_=>none
  |none=>none
def Loc.gd:Loc->Gd
 |.is _ g=>g
 |.ad _ _ _ g=>g
 |.ip _ _ _ g=>g
 |.vc _ g=>g
 |.tu _ g=>g
 |.aw _ _ g=>g
 |.ia _ _ g=>g
 |.bx _ g=>g
 |.fv _ _ g=>g
 |.fb _ _ g=>g
 |.ag _ g=>g
 |.lh _ g=>g
 |.sa _ _ g=>g
def Ua(o:Oper)(g:Gd)(AA np:Nat)(z:List (Option Nat))(sm:Sm):Bool:=
 g.isEmpty||(decide ((Ic z).Nodup)&&sm.adds.all fun
  |.en n s=>decide (AA<=n/\n<AA+np)&&(match z[n-AA]? with
   |some (some m)=>sm.kill.contains m&&sm.needs.contains (.en m s)
   |_=>s.Fc)
  |.sl t l=>decide (some t=o.dst/\l.gd=g)||(match l with
   |.is n gt=>decide (AA<=n/\n<AA+np)&&(match z[n-AA]? with
    |some (some m)=>sm.needs.contains (.sl t (.is m gt))&&decide (some t≠o.dst)
    |_=>false)
   |_=>false))
def skZ(sg:Nat->Option Sg)(g:Gd):Pr->List (Option Nat)
 |.ca k xs _=>match sg k with
  |some s=>if g=[]\/s.io=[]then []else List.replicate s.qs.length none++s.io.map λi=>match xs[i]? with
   |some (.e n)=>some n
   |_=>none
  |none=>[]
 |_=>[]
def K0:Fact->Fact
 |.en n _=>.en n .v
 |f=>f
def TR(k:Nat)(sm:Sm):Sm:=if 1000<=k then{ sm with adds:=sm.adds.map K0 } else sm
def WZ(k:Nat)(g:Gd)(AA np:Nat)(sm:Sm):Bool:=decide (k<1000)||(g.isEmpty&&sm.adds.all fun
 |.en n s=>decide (AA<=n/\n<AA+np)&&s.okF
 |_=>true)
def X6(fx:List Nat)(dst:Option Nat):Bool:=match dst with|some t=>!fx.contains t|none=>true
def TH(cf:CF)(sg:Nat->Option Sg)(ops:Array Oper)(st:List Fact)(AA:Nat)(o:Oper)(k:Nat):Option Sq:=
 (Pa ops st o.guard).bind λG=>(SJ cf sg st AA o G.1 k).bind λps=>
  if Ua o G.1 AA ps.1.np (skZ sg G.1 ps.1) ps.2=true/\B9 o.dst cf.nt=true/\X6 cf.fx o.dst=true/\WZ k G.1 AA ps.1.np ps.2=true then
   some ⟨{ z:=skZ sg G.1 ps.1,g:=G.1,p:=ps.1 },{ TR k ps.2 with needs:=G.2++ps.2.needs },G.1⟩
  else none
def AIT:Pr->Bool
 |.nop=>true
 |_=>false
def Om(cf:CF)(sg:Nat->Option Sg)(ops:Array Oper)(st:List Fact)(AA:Nat)(o:Oper)(k:Nat):Option Sq:=
 if 2000000<=k then(TH cf sg ops st AA o 0).bind λq=>(NF (Ii st o.dst q.sm) AA (k-2000000)).bind λps=>
  if AIT q.it.p=true/\q.it.g.isEmpty=true/\(ps.2.needs.all λf=>q.sm.adds.contains f||Ew o.dst q.sm.kill f)=true/\(q.sm.adds.all λf=>f.Ae.all λn=>decide (n<AA))=true then
   some ⟨{ p:=ps.1 },⟨q.sm.needs++ps.2.needs.filter (λf=>!q.sm.adds.contains f),q.sm.kill++ps.2.kill,ps.2.adds++q.sm.adds.filter (Ew none ps.2.kill)⟩,[]⟩
  else none
 else TH cf sg ops st AA o k
theorem Se{E:Nat->D}:∀{g:Gd},Cq E g=some true↔Au E g
 |[]=>by simp[Cq,Au]
 |(n,b)::g=>by simp only[Cq];have I:=Se (E:=E) (g:=g);constructor;intro h;split at h;rename_i x H;split at h;rename_i e;intro y f;rcases A7.1 f with rfl|f;rw[H,e];exact I.1 h y f;simp at h;simp at h;intro h;have i:=h (n,b) (by simp);simp only at i;simp only[i,if_true];exact I.2 λx H=>h x (by simp[H])
theorem AEY{E:Nat->D}{n:Nat}{b:Bool}:∀{g:Gd},Cq E (g++[(n,b)])=some false->¬Au E g\/(Au E g/\E n=.b (!b))
 |[]=>by simp only[List.nil_append,Cq];intro h;split at h;rename_i x f;split at h;simp at h;rename_i j;right;refine⟨by simp[Au],?_⟩;rw[f];cases x<;>cases b<;>simp at j|-;simp at h
 |(m,c)::g=>by simp only[List.cons_append,Cq];intro h;split at h;rename_i x f;split at h;rename_i H;rcases AEY (g:=g) h with i|⟨i,k⟩;left;intro q;exact i λy e=>q y (by simp[e]);right;refine⟨λy e=>?_,k⟩;rcases A7.1 e with rfl|e;rw[f,H];exact i y e;rename_i H;left;intro q;have:=q (m,c) (by simp);simp only at this;rw[f]at this;injection this with this;exact H this;simp at h
section
variable{cf:CF}{sg:Nat->Option Sg}{c:Cx}{F:Fact->Prop}{E:Nat->D}{a:Act}{w:World}{vs:Nat->Value}{Bs:Nat->List Nat}{AA:Nat}{sm:Sm}{st:List Fact}{o:Oper}
 {K:Nat->List D->List D->Prop} {ops:Array Oper}
theorem AYF{O:Option (Nat×Bool)}{g:Gd}{ns:List Fact}(h:Pa ops st O=some (g,ns))(l:o.guard=O)(H:BP c F E a w vs Bs)(I:∀f∈ns,F f):
  (Cq E g=some true->Region.wanted o (yielded ops a.tmps)=true)/\(Cq E g=some false->Region.wanted o (yielded ops a.tmps)=false):=by
 cases O with
 |none=>
  simp only[Pa,AL,AJ]at h
  obtain⟨rfl,rfl⟩:=h
  exact⟨λ_=>by simp[Region.wanted,l],λh=>by simp[Cq]at h⟩
 |some Q=>
  obtain⟨j,want⟩:=Q
  simp only[Pa]at h
  split at h
  .rename_i t N
   split at h
   .rename_i n L R
    simp only[Ag,AJ]at h
    obtain⟨s,T,rfl,rfl⟩:=h
    have q:=H.loc t _ (I (.sl t (.is n L)) (by simp))
    have k:=H.own n s (I (.en n s) (by simp))
    have G:yielded ops a.tmps j=match a.tmps[t]? with|some (.bool b)=>some b|_=>none:=by
     unfold yielded
     rw[N]
     simp only[Option.bind_some]
     rfl
    constructor
    .intro C
     have i:=Se.1 C
     have e:=q.1 λx P=>i x (BX _ P)
     have J:E n=.b want:=i (n,want) (by simp)
     rw[J]at k
     rw[k.bool]at e
     simp[Region.wanted,l,G,e]
    .intro C
     rcases AEY C with B|⟨B,M⟩
     .have e:=q.2 B
      simp[Region.wanted,l,G,e,undef]
     .have e:=q.1 B
      rw[M]at k
      rw[k.bool]at e
      simp[Region.wanted,l,G,e]
   .simp at h
  .simp at h
theorem ANJ:∀{z:List (Option Nat)}{i j m:Nat},(Ic z).Nodup->z[i]?=some (some m)->z[j]?=some (some m)->i=j
 |[],_,_,_,_,h,_=>by simp at h
 |x::z,i,j,m,H,b,e=>by
  have tl:(Ic z).Nodup:=by
   cases x with
   |none=>simpa[Ic]using H
   |some k=>simp only[Ic,List.filterMap_cons,id]at H;exact(List.nodup_cons.1 H).2
  have f:∀j,z[j]?=some (some m)->m∈Ic z:=λj h=>List.mem_filterMap.2 ⟨some m,List.mem_of_getElem? h,rfl⟩
  cases i with
  |zero=>
   cases j with
   |zero=>rfl
   |succ j=>
    simp at b e
    subst b
    simp only[Ic,List.filterMap_cons,id]at H
    exact((List.nodup_cons.1 H).1 (f j e)).elim
  |succ i=>
   cases j with
   |zero=>
    simp at b e
    subst e
    simp only[Ic,List.filterMap_cons,id]at H
    exact((List.nodup_cons.1 H).1 (f i b)).elim
   |succ j=>
    have:=ANJ (i:=i) (j:=j) (m:=m) tl (by simpa using b) (by simpa using e)
    omega
theorem AWM{g:Gd}{np:Nat}{z:List (Option Nat)}(H:BP c F E a w vs Bs)(C:Ua o g AA np z sm=true)(hg:Cq E g=some false)(Z:∀j,j<np->Bw F (AA+j))(hu:∀j,j<np->E (AA+j)=Gi E z j)
  (hin:B9 o.dst c.nt=true) (M:∀f∈sm.needs,F f):Ex c (next F o.dst sm) E (a.put o.dst undef) w:=by
 have x:¬Au E g:=λq=>by rw[Se.2 q]at hg;simp at hg
 have hne:g≠[]:=by rintro rfl;simp[Cq]at hg
 unfold Ua at C;simp only[Bool.or_eq_true,List.isEmpty_iff,hne,false_or,AV,Aa,Ao]at C;obtain⟨hzn,C⟩:=C
 let src:Nat->Option Nat:=λn=>match z[n-AA]? with
 |some (some m)=>some m
 |_=>none
 have L:∀n s,Fact.en n s∈sm.adds->(AA<=n/\n<AA+np)/\((∃m,src n=some m/\m∈sm.kill/\F (.en m s))\/(src n=none/\s.Fc=true)):=by intro n s Y;have:=C _ Y;simp only[AV,Aa]at this;obtain⟨q1,R⟩:=this;refine⟨q1,?_⟩;split at R;rename_i m hm;simp only[AV,List.contains_eq_mem,Aa]at R;exact .inl ⟨m,by simp[src,hm],R.1,M _ R.2⟩;rename_i hm;refine .inr ⟨?_,R⟩;simp only[src]
 have hsrc:∀n,AA<=n/\n<AA+np->E n=match src n with|some m=>E m|none=>.u:=by intro n k;have:=hu (n-AA) (by omega);rw[show AA+(n-AA)=n from by omega]at this;rw[this];simp only[Gi,src];split<;>rfl
 have hinj:∀n n' m,src n=some m->src n'=some m->AA<=n->AA<=n'->n=n':=by
  intro n n' m I J h3 h4;simp only[src]at I J;split at I;rename_i m1 G;split at J;rename_i m2 e2;injection I with I;injection J with J;subst I J;have:=ANJ hzn G e2;omega
  cases J
  cases I
 have hfe:∀n r,(AA<=n/\n<AA+np)->next F o.dst sm (.en n r)->Fact.en n r∈sm.adds:=by rintro n r k (⟨I,_⟩|h);have:=(Z (n-AA) (by omega)).1 r;rw[show AA+(n-AA)=n from by omega]at this;exact(this I).elim;exact h
 let mk:Nat->Bool:=λn=>sm.adds.any λf=>match f with|.en n' _=>n'==n|_=>false;have hmk:∀n,mk n=true->∃s,Fact.en n s∈sm.adds:=by
  intro n k;obtain⟨f,I,J⟩:=List.any_eq_true.1 k
  cases f with
  |en n' s=>simp only[beq_iff_eq]at J;subst J;exact⟨s,I⟩
  |sl t l=>simp at J
 have hmk2:∀n s,Fact.en n s∈sm.adds->mk n=true:=λn s h=>List.any_eq_true.2 ⟨_,h,by simp⟩;let V:Nat->Value:=λn=>if AA<=n/\n<AA+np then(match src n with|some m=>vs m|none=>undef)else vs n;let W:Nat->List Nat:=λn=>if AA<=n/\n<AA+np then(if mk n=true then(match src n with|some m=>Bs m|none=>[])else [])else Bs n;have hold:∀m s,F (.en m s)->¬(AA<=m/\m<AA+np):=by intro m s hm k;have:=(Z (m-AA) (by omega)).1 s;rw[show AA+(m-AA)=m from by omega]at this;exact this hm
 have hW:∀n,(AA<=n/\n<AA+np)->∀b∈W n,∃m s,src n=some m/\m∈sm.kill/\F (.en m s)/\b∈Bs m:=by intro n k b P;simp only[W,if_pos k]at P;split at P;rename_i hk;obtain⟨s,hs⟩:=hmk n hk;rcases(L n s hs).2 with⟨m,G,e2,e3⟩|⟨G,_⟩;rw[G]at P;exact⟨m,s,G,e2,e3,P⟩;rw[G]at P;simp at P;simp at P
 let A0:List Fact:=sm.adds.filter λf=>match f with|.sl t _=>decide (some t=o.dst)|_=>true;have B:∀n s,Fact.en n s∈A0↔Fact.en n s∈sm.adds:=by intro n s;simp[A0]
 have O:∀n r,(AA<=n/\n<AA+np)->next F o.dst ⟨[],sm.kill,A0⟩ (.en n r)->Fact.en n r∈sm.adds:=by rintro n r k (⟨I,_⟩|h);exact(hold n r I k).elim;exact(B n r).1 h
 have H1:BP c (next F o.dst ⟨[],sm.kill,A0⟩) E (a.put o.dst undef) w V W:=by
  refine BP.step (λn=>AA<=n/\n<AA+np) (λn=>n∈sm.kill) (λ_=>False) o.dst H (λn k=>if_neg k) (λn k=>if_neg k)
   (λt l hl n k q=>by
    have:=(Z (n-AA) (by omega)).2 t l hl
    rw[show AA+(n-AA)=n from by omega]at this
    exact this k)
   (λ_ q=>q.elim) (Ay.refl _ _) rfl rfl rfl (λt T=>Eb T) Iu put_defers ?_ ?_ ?_ ?_ ?_ ?_
  rintro f (⟨I,J⟩|h);left;refine⟨I,?_⟩;cases f<;>exact J
  cases f with
  |en n s=>exact .inr (L n s ((B n s).1 h)).1
  |sl t l=>
   right
   have:=(List.mem_filter.1 h).2
   simpa using this
  rintro n r k Y;have Q:=O n r k Y;rw[hsrc n k];simp only[V,W,if_pos k,hmk2 n r Q,if_true];rcases(L n r Q).2 with⟨m,G,e2,e3⟩|⟨G,e2⟩;rw[G];refine AE.ext (Ay.refl (λ_=>False) _) (λ_ _ q=>q.elim) ?_ _ _ _ _ (λ_ _ q=>q) (H.own m r e3);rintro b _ (⟨n1,s1,q1,_,q3⟩|⟨n1,q1,R⟩);exact⟨n1,s1,q1,q3⟩;obtain⟨m2,s2,_,_,q3,q4⟩:=hW n1 q1 b R;exact⟨m2,s2,q3,q4⟩;rw[G]
  cases r<;>simp[AE,Rd,Sh.Fc]at e2|-;rintro n r k Y;have Q:=O n r k Y;simp only[W,if_pos k,hmk2 n r Q,if_true];rcases(L n r Q).2 with⟨m,G,e2,e3⟩|⟨G,e2⟩;rw[G];exact H.nodup m r e3;rw[G];exact List.nodup_nil;rintro n r k _ b P;obtain⟨m,s,_,R,q3,q4⟩:=hW n k b P;exact .inl ⟨m,s,q3,R,q4⟩;rintro n r m q k hm _ _ hne b P hb2;obtain⟨m1,s1,p1,p2,p3,p4⟩:=hW n k b P;obtain⟨m2,s2,r1,r2,r3,r4⟩:=hW m hm b hb2;by_cases he:m1=m2;subst he;exact hne (hinj n m m1 p1 r1 k.1 hm.1);exact H.apart m1 s1 m2 s2 p3 r3 he b p4 r4;rintro t l T Y;rcases Y with⟨_,J⟩|h;exact(J T).elim;have:=C _ (List.mem_filter.1 h).1;simp only[Bool.or_eq_true,Aa]at this;have i:l.gd=g:=by
   rcases this with q|q
   .exact q.2
   .exfalso
    cases l with
    |is n gt=>
     simp only[AV]at q
     obtain⟨_,q⟩:=q
     split at q
     .simp only[AV,Aa]at q;exact q.2 T
     .cases q
    |_=>simp at q
  have hput:(a.put o.dst undef).tmps[t]?=some undef:=by rw[<-T];exact GH (by rw[H.size];rw[<-T]at hin;simpa[B9]using hin)
  cases l with
  |is n N=>
   simp only[Loc.gd]at i;subst i
   exact⟨λq=>(x q).elim,λ_=>hput⟩
  |vc n N=>simp only[Loc.gd]at i;subst i;exact λq=>(x q).elim
  |ad r p m N=>simp only[Loc.gd]at i;subst i;exact λq=>(x q).elim
  |ip r p m N=>simp only[Loc.gd]at i;subst i;exact λq=>(x q).elim
  |tu ns N=>simp only[Loc.gd]at i;subst i;exact λq=>(x q).elim
  |aw r p N=>simp only[Loc.gd]at i;subst i;exact λq=>(x q).elim
  |ia r m N=>simp only[Loc.gd]at i;subst i;exact λq=>(x q).elim
  |bx n N=>simp only[Loc.gd]at i;subst i;exact λq=>(x q).elim
  |ag r N=>simp only[Loc.gd]at i;subst i;exact λq=>(x q).elim
  |lh r N=>simp only[Loc.gd]at i;subst i;exact λq=>(x q).elim
  |sa r e N=>simp only[Loc.gd]at i;subst i;exact λq=>(x q).elim
  |fv f ns N=>simp only[Loc.gd]at i;subst i;exact λq=>(x q).elim
  |fb f ns N=>simp only[Loc.gd]at i;subst i;exact λq=>(x q).elim
 refine⟨V,W,H1.more ?_ ?_⟩
 .intro n s;simp only[next,B]
 .intro t l Y;rcases Y with⟨q1,R⟩|q
  .exact .inl (.inl ⟨q1,R⟩)
  .by_cases T:some t=o.dst
   .exact .inl (.inr (List.mem_filter.2 ⟨q,by simpa using T⟩))
   .have:=C _ q;simp only[Bool.or_eq_true,Aa]at this;rcases this with U|U
    .exact(T U.1).elim
    .cases l with
    |is n gt=>
     simp only[AV,Aa]at U;obtain⟨k,U⟩:=U;split at U
     .rename_i m hm;simp only[AV,List.contains_eq_mem,Aa]at U;have hsn:src n=some m:=by simp only[src,hm]
      have hmF:=M _ U.1;right;have hnew:¬(AA<=m/\m<AA+np):=by intro hm';have:=(Z (m-AA) (by omega)).2 t _ hmF;rw[show AA+(m-AA)=m from by omega]at this;exact this (by simp[Loc.Ae])
      refine⟨n,gt,m,rfl,.inl ⟨hmF,T⟩,?_⟩;simp only[V,if_pos k,hsn,if_neg hnew]
     .cases U
    |_=>simp at U
theorem AM9{a':Act}{w':World}{k:Nat}{g:Gd}{np:Nat}{sm:Sm}(R:WZ k g AA np sm=true)(hfr:∀j,j<np->Bw F (AA+j))(H:Ex c (next F o.dst sm) E a' w'):
  Ex c (next F o.dst (TR k sm)) E a' w':=by
 unfold TR;split
 .rename_i h1000;unfold WZ at R;simp only[Bool.or_eq_true,Aa,AV,List.isEmpty_iff,Ao]at R;rcases R with R|⟨_,R⟩
  .omega
  obtain⟨vs,Bs,H⟩:=H;have V:∀m s,F (.en m s)->¬(AA<=m/\m<AA+np):=by intro m s hm hn;have:=(hfr (m-AA) (by omega)).1 s;rw[show AA+(m-AA)=m from by omega]at this;exact this hm
  have U:∀n s,Fact.en n s∈sm.adds->(AA<=n/\n<AA+np)/\s.okF=true:=by intro n s h;have:=R _ h;simpa only[AV,Aa]using this
  let W:Nat->List Nat:=λn=>if AA<=n/\n<AA+np then []else Bs n;have B:∀n s,next F o.dst { sm with adds:=sm.adds.map K0 } (.en n s)->(¬(AA<=n/\n<AA+np)/\next F o.dst sm (.en n s)/\W n=Bs n)\/((AA<=n/\n<AA+np)/\s=.v/\∃s',next F o.dst sm (.en n s')/\s'.okF=true):=by
   rintro n s (⟨O,L⟩|h);have:=V n s O;exact .inl ⟨this,.inl ⟨O,L⟩,if_neg this⟩;obtain⟨f,C,he⟩:=List.mem_map.1 h
   cases f with
   |en n' s'=>
    simp only[K0]at he
    injection he with e1 e2
    subst e1 e2
    obtain⟨x,Q⟩:=U n' s' C
    exact .inr ⟨x,rfl,s',.inr C,Q⟩
   |sl t l=>simp[K0]at he
  have P:∀b,OB (next F o.dst { sm with adds:=sm.adds.map K0 }) W b->OB (next F o.dst sm) Bs b/\∃n s,¬(AA<=n/\n<AA+np)/\next F o.dst sm (.en n s)/\b∈Bs n:=by rintro b ⟨n,s,O,L⟩;rcases B n s O with⟨x,Q,J⟩|⟨x,_,_⟩;rw[J]at L;exact⟨⟨n,s,Q,L⟩,n,s,x,Q,L⟩;simp only[W,if_pos x]at L;simp at L
  have G:∀n,alive (next F o.dst { sm with adds:=sm.adds.map K0 }) n->alive (next F o.dst sm) n:=by rintro n ⟨s,h⟩;rcases B n s h with⟨_,Q,_⟩|⟨_,_,s',q,_⟩;exact⟨s,Q⟩;exact⟨s',q⟩
  refine⟨vs,W,?_,?_,?_,?_,?_,H.agr,H.os,H.tape,H.output,H.defers,H.size⟩
  .intro n s C;rcases B n s C with⟨x,Q,J⟩|⟨x,rfl,s',Q,J⟩
   .rw[J];exact AE.ext (Ay.refl (λ_=>False) _) (λ_ _ q=>q.elim) (λb _ I=>(P b I).1) _ _ _ _ (λ_ _ q=>q) (H.own n s Q)
   .simp only[W,if_pos x];simp only[AE];refine⟨trivial,AE.freeze (λb _ q=>q.imp (λq=>(P b q).1) id) s' _ _ _ J ?_ (H.own n s' Q)⟩;rintro b I (q|q)
    .obtain⟨_,m,s2,z1,z2,z3⟩:=P b q;exact H.apart n s' m s2 Q z2 (λe=>z1 (e▸x)) b I z3
    .have:=c.hX b q;rcases H.mine n s' Q b I with r|r
     .omega
     .exact this.2 r
  .intro n s C;rcases B n s C with⟨x,Q,J⟩|⟨x,rfl,s',Q,J⟩
   .rw[J];exact H.nodup n s Q
   .simp only[W,if_pos x];exact List.nodup_nil
  .intro n s C b I;obtain⟨⟨n',s',O,L⟩,_⟩:=P b ⟨n,s,C,I⟩;exact H.mine n' s' O b L
  .intro n s m r C i hne b I N;rcases B n s C with⟨x,Q,J⟩|⟨x,_,_⟩
   .rcases B m r i with⟨p1,p2,p3⟩|⟨p1,_,_⟩
    .rw[J]at I;rw[p3]at N;exact H.apart n s m r Q p2 hne b I N
    .simp only[W,if_pos p1]at N;simp at N
   .simp only[W,if_pos x]at I;simp at I
  .intro t l C;have hf':next F o.dst sm (.sl t l):=by
    rcases C with q|q;exact .inl q;obtain⟨f,O,he⟩:=List.mem_map.1 q
    cases f with
    |en n s=>simp[K0]at he
    |sl t' l'=>simp only[K0]at he;rw[<-he];exact .inr O
   have:=H.loc t l hf'
   cases l with
   |is n g=>exact this
   |vc n g=>
    intro i
    obtain⟨b,o,cs,e,T,Y,Z,k3,k4⟩:=this i
    exact⟨b,o,cs,e,T,Y,Z,k3,λq=>k4 (P b q).1⟩
   |ad r p m g=>exact λi M=>this i (G _ M)
   |ip r p m g=>exact λi M=>this i (G _ M)
   |tu ns g=>exact this
   |aw r p g=>exact λi M=>this i (G _ M)
   |ia r m g=>exact λi M=>this i (G _ M)
   |bx n g=>
    intro i
    obtain⟨b,cs,e,T,Y,Z,k3,k4⟩:=this i
    exact⟨b,cs,e,T,Y,Z,k3,λq=>k4 (P b q).1⟩
   |ag r g=>exact λi M=>this i (G _ M)
   |lh n g=>exact this
   |sa n e g=>exact this
   |fv f ns g=>exact this
   |fb f ns g=>
    intro i
    obtain⟨b,cs,e,T,Y,Z,k3,k4⟩:=this i
    exact⟨b,cs,e,T,Y,Z,k3,λq=>k4 (P b q).1⟩
 .exact H
theorem ANM{fx:List Nat}{dst:Option Nat}(h:X6 fx dst=true):∀t∈fx,some t≠dst:=by rintro t H rfl;simp[X6,H]at h
theorem ASW(U:Sound cf sg K)(L:cf.Fits c){k:Nat}{q:Sq}(B:TH cf sg ops st AA o k=some q)(H:Holds c F E a w)(s:∀j,j<q.it.p.np->Bw F (AA+j))(M:∀f∈q.sm.needs,F f)
  (C:Et K E AA q.it) {i:Nat} (hi:ops[i]?=some o) {T:Act->World->Prop} {Q:Exit->Act->World->Prop} (R:∀J w',Holds c (next F o.dst q.sm) E J w'->T J w'):
  wpOp c.P ops Q i T a w:=by
 obtain⟨⟨vs,Bs,H⟩,e⟩:=H;unfold TH at B;simp only[AW]at B;obtain⟨⟨g,ns⟩,N,⟨p,sm⟩,O,B⟩:=B;simp only at B;split at B
 .rename_i b;simp only[AL]at B;subst B;simp only at M C R;obtain⟨W,Y⟩:=AYF N rfl H λf G=>M f (BX _ G);unfold Et at C;simp only at C;unfold wpOp;rw[hi];simp only;split at C
  .rename_i I;rw[if_pos (W I)];left;have V:=ANM b.2.2.1;refine AkO (AbZ U O ⟨L,H,s,λf G=>M f (BF _ G),Se.1 I,e⟩ C _ Q λ_ _ h=>h) λJ w' N O=>R J w' ⟨AM9 b.2.2.2 s N,λx l=>?_⟩;rw[O x.1 (V _ (L.fx x l))];exact e x l
  .rename_i I;rw[if_neg (by rw[Y I];simp)];refine R _ _ ⟨AM9 b.2.2.2 s (AWM H b.1 I s C (by rw[L.nt];exact b.2.1) (λf G=>M f (BF _ G))),λx l=>?_⟩;rw[Eb (ANM b.2.2.1 _ (L.fx x l))];exact e x l
  .exact C.elim
 .simp at B
theorem AgW{dst:Option Nat}{k b:List Nat}{f:Fact}:Ew dst (k++b) f=true↔Ew dst k f=true/\Ew none b f=true:=by
 cases f with
 |en n s=>simp[Ew]
 |sl t l=>simp[Ew]
theorem PJ{F:Fact->Prop}{dst:Option Nat}{sm:Sm}{f:Fact}:next F dst sm f↔(F f/\Ew dst sm.kill f=true)\/f∈sm.adds:=by
 unfold next
 cases f with
 |en n s=>simp[Ew]
 |sl t l=>simp[Ew]
theorem U0(hs:Sound cf sg K)(hc:cf.Fits c){k:Nat}{q:Sq}(h:Om cf sg ops st AA o k=some q)(H:Holds c F E a w)(x:∀j,j<q.it.p.np->Bw F (AA+j))(G:∀f∈q.sm.needs,F f)
  (O:Et K E AA q.it) {i:Nat} (hi:ops[i]?=some o) {Kn:Act->World->Prop} {Q:Exit->Act->World->Prop} (L:∀J w',Holds c (next F o.dst q.sm) E J w'->Kn J w'):
  wpOp c.P ops Q i Kn a w:=by
 unfold Om at h;split at h
 .simp only[AW]at h;obtain⟨I,h1,⟨p2,Z⟩,h2,h⟩:=h;simp only at h;split at h
  .rename_i T;obtain⟨N,c2,c3,c4⟩:=T;simp only[AL]at h;subst h;simp only at G O L x;obtain⟨⟨z1,g1,p1⟩,e,g1'⟩:=I;simp only at N c2 c3 c4 G L h2
   cases p1<;>simp only[AIT]at N<;>try cases N
   have hg:g1=[]:=by simpa using c2
   subst hg;have R:BC K E AA p2:=by simpa[Et,Cq]using O
   refine ASW hs hc h1 H (λj U=>absurd U (by simp[Pr.np])) (λf b=>G f (BX _ b)) (by simp[Et,Cq,BC]) hi λJ w' H'=>L J w' ?_;obtain⟨⟨vs',Bs',H1⟩,B⟩:=H';have V:∀f∈Z.needs,next F o.dst e f:=by intro f b;rw[PJ];by_cases g:f∈e.adds;exact .inr g;refine .inl ⟨G f (BF _ (List.mem_filter.2 ⟨b,by simpa using g⟩)),?_⟩;have:=Ao.1 c3 f b;simp only[Bool.or_eq_true,List.contains_iff_mem]at this;exact this.resolve_left g
   have C:∀j,j<p2.np->Bw (next F o.dst e) (AA+j):=by
    intro j U;have b:=x j U;have key:∀f,next F o.dst e f->AA+j∈f.Ae->F f:=by
     intro f W M;rcases PJ.1 W with q|q;exact q.1;have:=Ao.1 (Ao.1 c4 f q) _ M;have:AA+j<AA:=by simpa using this
     omega
    refine⟨λs q=>b.1 s (key _ q (by simp[Fact.Ae])),λt l q M=>b.2 t l (key _ q (by simpa[Fact.Ae]using M)) M⟩
   have hx:=AGP h2 H1 C V R;refine⟨hx.Jz λf b=>?_,B⟩;rw[PJ]at b;rw[PJ,PJ];rcases b with⟨I,Y⟩|q
   .obtain⟨q3,q4⟩:=AgW.1 Y;exact .inl ⟨.inl ⟨I,q3⟩,q4⟩
   .rcases Ac.1 q with q|q
    .exact .inr q
    .obtain⟨I,Y⟩:=List.mem_filter.1 q;exact .inl ⟨.inr I,Y⟩
  .cases h
 .exact ASW hs hc h H x G O hi L
end
end Go.Cat
namespace Go.Cat
def L6(st:List Fact)(AA:Nat):Bool:=st.all λf=>f.Ae.all λn=>decide (n<AA)
def Pe(a b:List Fact):Bool:=a.all λf=>b.contains f
def Fl(cf:CF)(sg:Nat->Option Sg)(ops:Array Oper):List Oper->List Fact->Nat->List Nat->Option (List Sq×List Fact×Nat)
 |[],st,AA,_=>some ([],st,AA)
 |o::os,st,AA,h=>(Om cf sg ops st AA o (h.headD 0)).bind λq=>
  if Pe q.sm.needs st=true/\L6 st AA=true then
   (Fl cf sg ops os (Ii st o.dst q.sm) (AA+q.it.p.np) h.tail).map λr=>(q::r.1,r.2)
  else none
theorem S8{a b:List Fact}(h:Pe a b=true):∀f∈a,f∈b:=by intro f H;simp only[Pe,Ao,List.contains_eq_mem,Aa]at h;exact h f H
theorem Xc{st:List Fact}{AA:Nat}(h:L6 st AA=true){m:Nat}(b:AA<=m):Bw (·∈st) m:=by simp only[L6,Ao,Aa]at h;constructor;intro s f;have:=h _ f m (by simp[Fact.Ae]);omega;intro t l f H;have:=h _ f m (by simpa[Fact.Ae]using H);omega
theorem EZ.split{K:Nat->List D->List D->Prop}{E:Nat->D}:∀{x y:List It}{AA:Nat},EZ K E AA (x++y)->EZ K E AA x/\EZ K E (AA+De x) y
 |[],y,AA,h=>⟨trivial,by simpa[De]using h⟩
 |it::x,y,AA,h=>by simp only[List.cons_append,EZ]at h|-;obtain⟨q,Q⟩:=EZ.split h.2;refine⟨⟨h.1,q⟩,?_⟩;simpa[De,Nat.add_assoc]using Q
theorem AHZ{cf:CF}{sg:Nat->Option Sg}{ops:Array Oper}:∀{os:List Oper}{st:List Fact}{AA:Nat}{H:List Nat}{r:List Sq}{s:List Fact}{C:Nat},Fl cf sg ops os st AA H=some (r,s,C)->C=AA+De (r.map (·.it))
 |[],st,AA,H,r,s,C,h=>by simp only[Fl,AL,AJ]at h;obtain⟨rfl,rfl,rfl⟩:=h;simp[De]
 |o::os,st,AA,H,r,s,C,h=>by
  simp only[Fl,AW]at h;obtain⟨q,g,h⟩:=h;split at h;simp only[Ag,AJ]at h;obtain⟨⟨R,f,c2⟩,e,rfl,b⟩:=h;simp only[AJ]at b;obtain⟨rfl,rfl⟩:=b;have:=AHZ e;simp only[List.map_cons,De];omega
  cases h
section
variable{cf:CF}{sg:Nat->Option Sg}{c:Cx}{E:Nat->D}{K:Nat->List D->List D->Prop}{ops:Array Oper}
theorem RX(I:Sound cf sg K)(B:cf.Fits c){Q:Exit->Act->World->Prop}:∀(os:List Oper)(i:Nat)(st:List Fact)(AA:Nat)(k:List Nat)(r:List Sq)(s:List Fact)(C:Nat),
  Fl cf sg ops os st AA k=some (r,s,C)->(∀j o,os[j]?=some o->ops[i+j]?=some o)->EZ K E AA (r.map (·.it))->
  ∀(a:Act)(w:World),Holds c (·∈st) E a w->(∀e w',Holds c (·∈s) E e w'->Q .normal e w')->wpOps c.P ops Q (List.range' i os.length) a w
 |[],i,st,AA,k,r,s,C=>λb _ _ a w H l=>by simp only[Fl,AL,AJ]at b;obtain⟨rfl,rfl,rfl⟩:=b;simp only[A6,List.range'_zero,wpOps];exact l a w H
 |o::os,i,st,AA,k,r,s,C=>λb G g a w H l=>by simp only[Fl,AW]at b;obtain⟨q,L,b⟩:=b;split at b;rename_i h;simp only[Ag,AJ]at b;obtain⟨⟨T,R,c2⟩,M,rfl,x⟩:=b;simp only[AJ]at x;obtain⟨rfl,rfl⟩:=x;simp only[List.map_cons,EZ]at g;simp only[AO,List.range'_succ];rw[wpOps_cons];refine U0 I B L H (λj _=>Xc h.2 (by omega)) (S8 h.1) g.1 (by simpa using G 0 o (by simp)) λe w' J=>?_;refine RX I B os (i+1) _ _ _ _ _ _ M (λj o' O=>?_) g.2 e w' (J.mono λf N=>TM.1 N) l;have:=G (j+1) o' (by simpa using O);rwa [show i+1+j=i+(j+1)from by omega];simp at b
def IU:List Fact->Nat->List Nat->Option (List Sq×List Fact×Nat×List Nat)
 |st,AA,[]=>some ([],st,AA,[])
 |st,AA,k::h=>if 100000<=k then(NF st AA k).bind λps=>
   if Pe ps.2.needs st=true/\L6 st AA=true then(IU (Ii st none ps.2) (AA+ps.1.np) h).map λr=>(⟨{ p:=ps.1 },ps.2,[]⟩::r.1,r.2)else none
  else some ([],st,AA,k::h)
def K1(cf:CF)(sg:Nat->Option Sg)(ops:Array Oper):List Oper->List Fact->Nat->List Nat->Option (List Sq×List Fact×Nat)
 |[],st,AA,h=>(IU st AA h).map λr=>(r.1,r.2.1,r.2.2.1)
 |o::os,st,AA,h=>(IU st AA h).bind λr=>(Om cf sg ops r.2.1 r.2.2.1 o (r.2.2.2.headD 0)).bind λq=>
  if Pe q.sm.needs r.2.1=true/\L6 r.2.1 r.2.2.1=true then
   (K1 cf sg ops os (Ii r.2.1 o.dst q.sm) (r.2.2.1+q.it.p.np) r.2.2.2.tail).map λz=>(r.1++q::z.1,z.2)
  else none
theorem ABV:∀(x y:List It),De (x++y)=De x+De y
 |[],y=>by simp[De]
 |it::x,y=>by simp[De,ABV x y,Nat.add_assoc]
theorem Od:∀{e:List Nat}{st:List Fact}{AA:Nat}{r:List Sq}{s:List Fact}{C:Nat}{H:List Nat},IU st AA e=some (r,s,C,H)->C=AA+De (r.map (·.it))
 |[],st,AA,r,s,C,H,h=>by simp only[IU,AL,AJ]at h;obtain⟨rfl,_,rfl,_⟩:=h;simp[De]
 |k::e,st,AA,r,s,C,H,h=>by
  unfold IU at h;split at h;simp only[AW]at h;obtain⟨ps,i,h⟩:=h;split at h;simp only[Ag,AJ]at h;obtain⟨⟨R,g,c2,j⟩,f,rfl,b⟩:=h;simp only[AJ]at b;obtain⟨rfl,rfl,rfl⟩:=b;have:=Od f;simp only[List.map_cons,De];omega
  cases h;simp only[AL,AJ]at h;obtain⟨rfl,_,rfl,_⟩:=h;simp[De]
theorem Sp{a:Act}{w:World}:∀{l:List Nat}{st:List Fact}{AA:Nat}{r:List Sq}{s:List Fact}{C:Nat}{b:List Nat},IU st AA l=some (r,s,C,b)->EZ K E AA (r.map (·.it))->
  Holds c (·∈st) E a w->Holds c (·∈s) E a w
 |[],st,AA,r,s,C,b,h=>λ_ H=>by simp only[IU,AL,AJ]at h;obtain⟨_,rfl,_,_⟩:=h;exact H
 |k::l,st,AA,r,s,C,b,h=>λe H=>by
  unfold IU at h;split at h
  .simp only[AW]at h;obtain⟨⟨p,sm⟩,G,h⟩:=h;simp only at h;split at h
   .rename_i i;simp only[Ag,AJ]at h;obtain⟨⟨R,M,c2,N⟩,I,rfl,g⟩:=h;simp only[AJ]at g;obtain⟨rfl,rfl,rfl⟩:=g;simp only[List.map_cons,EZ,Et,Cq]at e;obtain⟨⟨vs,Bs,q⟩,x⟩:=H;have J:=AGP G q (λj _=>Xc i.2 (by omega)) (S8 i.1) e.1;have B:Holds c (next (·∈st) none sm) E a w:=⟨J,x⟩;exact Sp I e.2 (B.mono λf L=>TM.1 L)
   cases h
  simp only[AL,AJ]at h;obtain⟨_,rfl,_,_⟩:=h;exact H
theorem AD4:∀{os:List Oper}{st:List Fact}{AA:Nat}{b:List Nat}{r:List Sq}{s:List Fact}{C:Nat},K1 cf sg ops os st AA b=some (r,s,C)->C=AA+De (r.map (·.it))
 |[],st,AA,b,r,s,C,h=>by simp only[K1,Ag,AJ]at h;obtain⟨⟨R,e,c2,i⟩,H,rfl,rfl,rfl⟩:=h;exact Od H
 |o::os,st,AA,b,r,s,C,h=>by
  simp only[K1,AW]at h;obtain⟨⟨R,e,c2,i⟩,H,q,g,h⟩:=h;simp only at g h;split at h;simp only[Ag,AJ]at h;obtain⟨⟨G,k,l⟩,j,rfl,f⟩:=h;simp only[AJ]at f;obtain⟨rfl,rfl⟩:=f;have x:=Od H;have B:=AD4 j;simp only[List.map_append,List.map_cons,ABV,De];omega
  cases h
theorem WJ(O:Sound cf sg K)(M:cf.Fits c){Q:Exit->Act->World->Prop}:∀(os:List Oper)(i:Nat)(st:List Fact)(AA:Nat)(B:List Nat)(r:List Sq)(s:List Fact)(C:Nat),
  K1 cf sg ops os st AA B=some (r,s,C)->(∀j o,os[j]?=some o->ops[i+j]?=some o)->EZ K E AA (r.map (·.it))->
  ∀(a:Act)(w:World),Holds c (·∈st) E a w->(∀g w',Holds c (·∈s) E g w'->Q .normal g w')->wpOps c.P ops Q (List.range' i os.length) a w
 |[],i,st,AA,B,r,s,C=>λb _ l a w H G=>by simp only[K1,Ag,AJ]at b;obtain⟨⟨Z,I,c2,U⟩,k,rfl,rfl,rfl⟩:=b;simp only[A6,List.range'_zero,wpOps];exact G a w (Sp k l H)
 |o::os,i,st,AA,B,r,s,C=>λb N l a w H G=>by simp only[K1,AW]at b;obtain⟨⟨Z,I,c2,U⟩,k,q,J,b⟩:=b;simp only at J b;split at b;rename_i h;simp only[Ag,AJ]at b;obtain⟨⟨r4,st4,c4⟩,V,rfl,L⟩:=b;simp only[AJ]at L;obtain⟨rfl,rfl⟩:=L;rw[List.map_append]at l;obtain⟨x,e⟩:=l.split;rw[<-Od k]at e;simp only[List.map_cons,EZ]at e;have T:=Sp k x H;simp only[AO,List.range'_succ];rw[wpOps_cons];refine U0 O M J T (λj _=>Xc h.2 (by omega)) (S8 h.1) e.1 (by simpa using N 0 o (by simp)) λg w' R=>?_;refine WJ O M os (i+1) _ _ _ _ _ _ V (λj o' Y=>?_) e.2 g w' (R.mono λf W=>TM.1 W) G;have:=N (j+1) o' (by simpa using Y);rwa [show i+1+j=i+(j+1)from by omega];simp at b
def Nv(cf:CF)(sg:Nat->Option Sg):List (Nat×Array Oper×List Nat)->List Fact->Nat->Option (List Sq×List Fact×Nat)
 |[],st,AA=>some ([],st,AA)
 |x::l,st,AA=>(K1 cf sg x.2.1 x.2.1.toList st AA x.2.2).bind λr=>(Nv cf sg l r.2.1 r.2.2).map λq=>(r.1++q.1,q.2)
def QE:List (Nat×Array Oper×List Nat)->Code->Code
 |[],d=>d
 |x::l,d=>.seq (.region x.1 x.2.1 false) (QE l d)
theorem APB(I:Sound cf sg K)(G:cf.Fits c){e:Exit->Act->World->Prop}{d:Code}:∀(l:List (Nat×Array Oper×List Nat))(st:List Fact)(AA:Nat)(r:List Sq)(s:List Fact)(C:Nat),Nv cf sg l st AA=some (r,s,C)->
  EZ K E AA (r.map (·.it))->∀(a:Act)(w:World),Holds c (·∈st) E a w->(∀g w',Holds c (·∈s) E g w'->d.wp c.P e g w')->(QE l d).wp c.P e a w
 |[],st,AA,r,s,C=>λb _ a w H k=>by simp only[Nv,AL,AJ]at b;obtain⟨_,rfl,_⟩:=b;exact k a w H
 |x::l,st,AA,r,s,C=>λb B a w H k=>by simp only[Nv,AW,Ag,AJ]at b;obtain⟨⟨U,O,T⟩,i,⟨V,R,c2⟩,M,rfl,q⟩:=b;simp only[AJ]at q;obtain⟨rfl,rfl⟩:=q;rw[List.map_append]at B;obtain⟨f,h⟩:=B.split;rw[<-AD4 i]at h;simp only[QE];refine wp_seq (wp_region ?_);rw[List.range_eq_range'];have:=WJ I G (Q:=Exit.then ((QE l d).wp c.P e) e) x.2.1.toList 0 _ _ _ _ _ _ i (λj o N=>by simpa using N) f a w H λL W J=>APB I G l _ _ _ _ _ M h L W J k;simpa using this
end
end Go.Cat
namespace Go.Cat
structure Rc where
 q:Sq
 AA:Nat
 dst:Option Nat
def Cj:Nat->List Oper->List Sq->List Rc
 |AA,o::os,q::qs=>⟨q,AA,o.dst⟩::Cj (AA+q.it.p.np) os qs
 |_,_,_=>[]
def Rc.KU(r:Rc)(f:Fact):Bool:=!Ew r.dst r.q.sm.kill f
def Rc.AK5(r:Rc)(n:Nat):Bool:=decide (r.AA<=n/\n<r.AA+r.q.it.p.np)
def N5(x y:Rc):Bool:=
 x.q.sm.adds.any (y.q.sm.needs.contains ·)||x.q.sm.needs.any y.KU||y.q.sm.adds.any x.KU||y.q.sm.adds.any λf=>f.Ae.any x.AK5
def H5(o:Oper):List Nat:=(o.after.toList.filter (Region.binds .any)).map (·.on)
def RI(acc:List Nat)(b:List Nat):Nat:=b.foldr (λd s=>s|||2^d|||acc.getD d 0) 0
def Kz:List Nat->List Oper->List Nat
 |acc,[]=>acc
 |acc,o::os=>Kz (acc++[RI acc (H5 o)]) os
def Vd(rs:List Rc)(bf:List Nat):Bool:=
 rs.zipIdx.all λy=>rs.zipIdx.all λx=>if x.2<y.2 then !N5 x.1 y.1||(bf.getD y.2 0).testBit x.2 else true
def ADZ(os:List Oper):Bool:=os.zipIdx.all λx=>(H5 x.1).all λd=>decide (d<x.2)
def XG(st:List Fact)(AA:Nat)(os:List Oper)(qs:List Sq):Bool:=
 let rs:=Cj AA os qs
 Vd rs (Kz [] os)&&ADZ os&&(rs.all λr=>r.q.sm.adds.all λf=>f.Ae.all λn=>decide (n<r.AA+r.q.it.p.np))&&L6 st AA
theorem ATN{acc s:List Nat}{i:Nat}(h:(RI acc s).testBit i=true):∃d∈s,i=d\/(acc.getD d 0).testBit i=true:=by
 induction s with
 |nil=>simp[RI]at h
 |cons d s I=>
  simp only[RI,List.foldr_cons,Nat.testBit_or,Bool.or_eq_true]at h
  rcases h with(h|h)|h
  .obtain⟨b,hd,q⟩:=I h
   exact⟨b,BN _ hd,q⟩
  .rw[Nat.testBit_two_pow]at h
   have H:d=i:=by simpa using h
   exact⟨d,List.mem_cons_self ..,.inl H.symm⟩
  .exact⟨d,List.mem_cons_self ..,.inr h⟩
theorem Y9{S:Nat->Prop}{all:List Oper}(hd:∀k o,all[k]?=some o->∀d∈H5 o,d<k)(C:∀k o,S k->all[k]?=some o->∀d∈H5 o,S d):
  ∀(os pre:List Oper)(acc:List Nat),all=pre++os->acc.length=pre.length->
   (∀k o,k<pre.length->all[k]?=some o->(∀d∈H5 o,S d)->∀i,(acc.getD k 0).testBit i=true->S i)->
   ∀k o,all[k]?=some o->(∀d∈H5 o,S d)->∀i,((Kz acc os).getD k 0).testBit i=true->S i
 |[],pre,acc=>λf x h k o j=>by
  simp only[Kz]
  refine h k o ?_ j
  subst f
  rcases BS k pre.length with q|q
  exact q
  simp[Df q]at j
 |o::os,pre,acc=>λf x h=>by
  simp only[Kz]
  refine Y9 hd C os (pre++[o]) _ (by simp[f]) (by simp[x]) ?_
  intro k o' j e H i hi
  simp only[A4,AO,A6]at j
  rcases BS k pre.length with q|q
  rw[Ap,DW (by omega),<-Ap]at hi
  exact h k o' q e H i hi
  have s:k=pre.length:=by omega
  subst s
  have B:o'=o:=by
   have:=e
   rw[f]at this
   simp at this
   exact this.symm
  subst B
  rw[Ap,G7 (by omega)]at hi
  simp only[x,Nat.sub_self,List.getElem?_cons_zero,Option.getD_some]at hi
  obtain⟨d,b,hi⟩:=ATN hi
  rcases hi with rfl|hi
  exact H _ b
  have l:d<pre.length:=hd _ _ e d b
  have:∃O,all[d]?=some O:=by
   refine⟨all[d]'(by rw[f];simp;omega),by simp⟩
  obtain⟨O,g⟩:=this
  exact h d O l g (C d O (H d b) g) i hi
section
variable(st:List Fact)(rs:List Rc)
def kl(i:Nat)(f:Fact):Prop:=∃r,rs[i]?=some r/\r.KU f=true
def I0(S:Nat->Prop)(f:Fact):Prop:=
 (f∈st/\∀i,S i->¬kl rs i f)\/∃j r,S j/\rs[j]?=some r/\f∈r.q.sm.adds/\∀i,S i->j<i->¬kl rs i f
end
section
variable{cf:CF}{sg:Nat->Option Sg}{E:Nat->D}{K:Nat->List D->List D->Prop}{ops:Array Oper}
theorem ACH{st0:List Fact}{rs:List Rc}:∀(os:List Oper)(i:Nat)(st:List Fact)(AA:Nat)(U:List Nat)(r:List Sq)(B:List Fact)(C:Nat),
  Fl cf sg ops os st AA U=some (r,B,C)->(∀j x,(Cj AA os r)[j]?=some x->rs[i+j]?=some x)->rs.length=i+os.length->EZ K E AA (r.map (·.it))->
  (∀f∈st,I0 st0 rs (· < i) f)->
  (∀j x o,(Cj AA os r)[j]?=some x->os[j]?=some o->(∃V h,Om cf sg ops V x.AA o h=some x.q)/\x.dst=o.dst/\(∀f∈x.q.sm.needs,I0 st0 rs (· < i+j) f)/\Et K E x.AA x.q.it/\AA<=x.AA)/\
  (∀f∈B,I0 st0 rs (· < i+os.length) f)/\(Cj AA os r).length=os.length
 |[],i,st,AA,U,r,B,C=>λH _ _ _ g=>by
  simp only[Fl,AL,AJ]at H
  obtain⟨rfl,rfl,rfl⟩:=H
  refine⟨by simp[Cj],by simpa using g,by simp[Cj]⟩
 |o::os,i,st,AA,U,r,B,C=>λH N L T g=>by
  simp only[Fl,AW]at H
  obtain⟨q,h1,H⟩:=H
  split at H
  rename_i G
  simp only[Ag,AJ]at H
  obtain⟨⟨r2,st2,c2⟩,h2,rfl,W⟩:=H
  simp only[AJ]at W
  obtain⟨rfl,rfl⟩:=W
  simp only[List.map_cons,EZ]at T
  have h0:rs[i]?=some ⟨q,AA,o.dst⟩:=by simpa using N 0 _ (by simp[Cj])
  have O:∀f∈Ii st o.dst q.sm,I0 st0 rs (· < i+1) f:=by
   intro f I
   rcases TM.1 I with⟨k1,Y⟩|k
   have M:¬kl rs i f:=by
    rintro⟨x,Q,J⟩
    rw[h0]at Q
    injection Q with Q
    subst Q
    simp only[Rc.KU,Bool.not_eq_true']at J
    cases f with
    |en n s=>simp[Ew]at J;exact Y J
    |sl t l=>simp[Ew]at J;exact Y J
   rcases g f k1 with⟨R,a2⟩|⟨j,x,R,a2,Z,a4⟩
   refine .inl ⟨R,λm P=>?_⟩
   rcases BS m i with h|h
   exact a2 m h
   have:m=i:=by omega
   subst this;exact M
   refine .inr ⟨j,x,by show j<i+1;have:j<i:=R;omega,a2,Z,λm P b=>?_⟩
   rcases BS m i with h|h
   exact a4 m h b
   have:m=i:=by have:m<i+1:=P;omega
   subst this;exact M
   refine .inr ⟨i,_,by show i<i+1;omega,h0,k,λm P b=>?_⟩
   have:m<i+1:=P
   omega
  obtain⟨b1,b2,b3⟩:=ACH os (i+1) _ _ _ _ _ _ h2 (λj x b=>by
   have:=N (j+1) x (by simpa[Cj]using b)
   rwa [show i+1+j=i+(j+1)from by omega]) (by simp at L;omega) T.2 O
  refine⟨?_,?_,by simp[Cj,b3]⟩
  intro j x o' b e
  cases j with
  |zero=>
   simp only[Cj,List.getElem?_cons_zero,AL]at b e
   subst b e
   exact⟨⟨st,_,h1⟩,rfl,λf I=>g f (S8 G.1 f I),T.1,Nat.le_refl _⟩
  |succ j=>
   simp only[Cj,List.getElem?_cons_succ]at b e
   obtain⟨c1,c2,c3,c4,c5⟩:=b1 j x o' b e
   refine⟨c1,c2,λf I=>?_,c4,by omega⟩
   have:=c3 f I
   rwa [show i+1+j=i+(j+1)from by omega]at this
  intro f I
  have:=b2 f I
  simp only[AO]
  rwa [show i+1+os.length=i+(os.length+1)from by omega]at this
  simp at H
theorem AM5:∀(os:List Oper)(qs:List Sq)(AA:Nat)(j k:Nat)(x y:Rc),(Cj AA os qs)[j]?=some x->(Cj AA os qs)[k]?=some y->j<k->x.AA+x.q.it.p.np<=y.AA
 |[],_,_,_,_,_,_=>λh=>by simp[Cj]at h
 |_::_,[],_,_,_,_,_=>λh=>by simp[Cj]at h
 |o::os,q::qs,AA,j,k,x,y=>λH b e=>by
  cases k with
  |zero=>omega
  |succ k=>
   simp only[Cj,List.getElem?_cons_succ]at b
   cases j with
   |zero=>
    simp only[Cj,List.getElem?_cons_zero,AL]at H
    subst H
    have:∀(os:List Oper)(qs:List Sq)(AA:Nat)(k:Nat)(y:Rc),(Cj AA os qs)[k]?=some y->AA<=y.AA:=by
     intro os
     induction os with
     |nil=>intro qs AA k y h;simp[Cj]at h
     |cons o os i=>
      intro qs AA k y h
      cases qs with
      |nil=>simp[Cj]at h
      |cons q qs=>
       cases k with
       |zero=>simp only[Cj,List.getElem?_cons_zero,AL]at h;subst h;exact Nat.le_refl _
       |succ k=>simp only[Cj,List.getElem?_cons_succ]at h;have:=i _ _ _ _ h;omega
    exact this _ _ _ _ _ b
   |succ j=>
    simp only[Cj,List.getElem?_cons_succ]at H
    exact AM5 os qs _ j k x y H b (by omega)
theorem RP{rs:List Rc}{bf:List Nat}(h:Vd rs bf=true){i k:Nat}{x y:Rc}(f:rs[i]?=some x)(g:rs[k]?=some y)(H:i<k)(e:N5 x y=true):(bf.getD k 0).testBit i=true:=by simp only[Vd,Ao]at h;have b:=h (y,k) (List.mem_zipIdx_iff_getElem?.2 g) (x,i) (List.mem_zipIdx_iff_getElem?.2 f);simp only[if_pos H,e,Bool.not_true,Bool.false_or]at b;exact b
end
section
variable{cf:CF}{sg:Nat->Option Sg}{c:Cx}{E:Nat->D}{K:Nat->List D->List D->Prop}{ops:Array Oper}
theorem Rc.Yy{r:Rc}{F:Fact->Prop}{f:Fact}(H:F f)(h:¬r.KU f=true):next F r.dst r.q.sm f:=by
 left;refine⟨H,?_⟩
 cases f<;>simp[Rc.KU,Ew]at h|-<;>exact h
theorem Aj0(hs:Sound cf sg K)(hc:cf.Fits c){st:List Fact}{AA:Nat}{hh:List Nat}{qs:List Sq}{st':List Fact}{cnt':Nat}
  (ht:Fl cf sg ops ops.toList st AA hh=some (qs,st',cnt')) (hd:XG st AA ops.toList qs=true) (hE:EZ K E AA (qs.map (·.it)))
  {Q:Exit->Act->World->Prop} (hq:∀a' w',Holds c (·∈st') E a' w'->Q .normal a' w'):
  ∀(fuel:Nat)(L:Array Bool)(a:Act)(w:World),L.size=ops.size->((List.range ops.size).filter λi=>!L.getD i true).length<=fuel->
   (∀k o,L.getD k false=true->ops.toList[k]?=some o->∀d∈H5 o,L.getD d false=true)->
   Holds c (I0 st (Cj AA ops.toList qs) (λi=>L.getD i false=true)) E a w->wpAny c.P .any ops Q fuel L a w:=by
 simp only[XG,AV,Ao,Aa]at hd;obtain⟨⟨⟨B,hdeps⟩,hment⟩,hbd⟩:=hd;have hrl:(Cj AA ops.toList qs).length=0+ops.toList.length:=by
  have:∀(os:List Oper)(st:List Fact)(AA:Nat)(hh:List Nat)(qs:List Sq)(x:List Fact×Nat),Fl cf sg ops os st AA hh=some (qs,x)->(Cj AA os qs).length=os.length:=by
   intro os;induction os with
   |nil=>intro st AA hh qs x h;simp[Cj]
   |cons o os ih=>
    intro st AA hh qs x h
    simp only[Fl,AW]at h
    obtain⟨q,_,h⟩:=h
    split at h
    .simp only[Ag,AJ]at h
     obtain⟨⟨r2,x2⟩,h2,rfl,_⟩:=h
     simp[Cj,ih _ _ _ _ _ h2]
    .simp at h
  rw[this _ _ _ _ _ _ ht];omega
 obtain⟨hA,hfin,_⟩:=ACH (st0:=st) (rs:=Cj AA ops.toList qs) ops.toList 0 st AA hh qs st' cnt' ht (λj x hj=>by simpa using hj) hrl hE
  (λf J=>.inl ⟨J,λi hi=>by simp at hi⟩)
 generalize hrs:Cj AA ops.toList qs=rs at*;simp only[Nat.zero_add]at hA hfin hrl;have C:∀k o,ops.toList[k]?=some o->∀d∈H5 o,d<k:=by simp only[ADZ,Ao,Aa]at hdeps;intro k o ho d hd;exact hdeps (o,k) (List.mem_zipIdx_iff_getElem?.2 ho) d hd
 have hopl:∀k,k<ops.size->∃o,ops.toList[k]?=some o/\ops[k]?=some o:=λk b=>⟨ops[k],by simp[b],by simp[b]⟩;have hrc:∀k,k<ops.size->∃x,rs[k]?=some x:=λk b=>⟨rs[k]'(by rw[hrl];simpa using b),by simp⟩;have U:∀{k:Nat}{x:Rc},rs[k]?=some x->k<ops.size:=by intro k x h;rcases BS k rs.length with q|q;rw[hrl]at q;simpa using q;rw[Df q]at h;simp at h
 intro fuel;induction fuel with
 |zero=>
  intro L a w hsz J hcl H
  have V:∀k,k<ops.size->L.getD k false=true:=by
   intro k b
   cases hlk:L.getD k false with
   |true=>rfl
   |false=>
    have h0:(List.range ops.size).filter (λi=>!L.getD i true)=[]:=by
     exact Dz (by omega)
    have:k∈(List.range ops.size).filter (λi=>!L.getD i true):=by
     simp only[List.mem_filter,List.mem_range,b,true_and]
     rw[C7]at hlk|-
     rw[Array.getElem?_eq_getElem (by omega)]at hlk|-
     simp at hlk|-
     exact hlk
    rw[h0]at this;simp at this
  refine⟨?_,hq a w (H.mono λf J=>?_)⟩
  .unfold Region.ready
   rw[List.filter_eq_nil_iff]
   intro i hi
   have M:i<ops.size:=by simpa using hi
   have:=V i M
   rw[C7]at this
   rw[C7]
   rw[Array.getElem?_eq_getElem (by omega)]at this|-
   simp at this|-
   simp[this]
  .rcases hfin f J with⟨I,a2⟩|⟨j,x,I,a2,Y,a4⟩
   .refine .inl ⟨I,λi _ b=>?_⟩
    obtain⟨x,T,b⟩:=b
    exact a2 i (by simpa using U T) ⟨x,T,b⟩
   .refine .inr ⟨j,x,V j (U a2),a2,Y,λi _ hj b=>?_⟩
    obtain⟨y,hy,b⟩:=b
    exact a4 i (by simpa using U hy) hj ⟨y,hy,b⟩
 |succ fuel ih=>
  intro L a w hsz J hcl H
  have key:∀k,k<ops.size->L.getD k false=false\/L.getD k false=true:=λk _=>by cases L.getD k false<;>simp
  have toT:∀k,k<ops.size->L.getD k true=L.getD k false:=by
   intro k b
   rw[C7,C7,Array.getElem?_eq_getElem (by omega)]
   rfl
  refine⟨λhr=>?_,?_⟩
  ·
   have V:∀k,k<ops.size->L.getD k false=true:=by
    intro k
    induction k using Nat.strongRecOn with
    |_ k ihk=>
     intro b
     rcases key k b with h|h
     .exfalso
      have:k∈Region.ready .any ops L:=by
       unfold Region.ready
       simp only[List.mem_filter,List.mem_range,b,true_and,AV]
       refine⟨by rw[toT k b,h];rfl,?_⟩
       obtain⟨o,ho1,ho2⟩:=hopl k b
       rw[ho2]
       simp only[Option.map_some,Option.getD_some]
       rw[<-Array.all_toList]
       simp only[Ao,Bool.or_eq_true,Bool.not_eq_true']
       intro e he
       cases hb:Region.binds .any e with
       |false=>left;rfl
       |true=>
        right
        have hd:e.on∈H5 o:=by
         simp only[H5,List.mem_map,List.mem_filter]
         exact⟨e,⟨he,hb⟩,rfl⟩
        have:=C k o ho1 _ hd
        exact ihk e.on this (by omega)
      rw[hr]at this;simp at this
     .exact h
   refine hq a w (H.mono λf J=>?_)
   rcases hfin f J with⟨I,a2⟩|⟨j,x,I,a2,Y,a4⟩
   .refine .inl ⟨I,λi _ b=>?_⟩
    obtain⟨x,T,b⟩:=b
    exact a2 i (by simpa using U T) ⟨x,T,b⟩
   .refine .inr ⟨j,x,V j (U a2),a2,Y,λi _ hj b=>?_⟩
    obtain⟨y,hy,b⟩:=b
    exact a4 i (by simpa using U hy) hj ⟨y,hy,b⟩
  .intro k b
   unfold Region.ready at b
   simp only[List.mem_filter,List.mem_range,AV]at b
   obtain⟨hkl,hkn,hkd⟩:=b
   obtain⟨o,ho1,ho2⟩:=hopl k hkl
   obtain⟨x,T⟩:=hrc k hkl
   have N:L.getD k false=false:=by rw[toT k hkl]at hkn;simpa using hkn
   rw[ho2]at hkd
   simp only[Option.map_some,Option.getD_some]at hkd
   rw[<-Array.all_toList]at hkd
   simp only[Ao,Bool.or_eq_true,Bool.not_eq_true']at hkd
   have W:∀d∈H5 o,L.getD d false=true:=by
    intro d hd
    simp only[H5,List.mem_map,List.mem_filter]at hd
    obtain⟨e,⟨he,hb⟩,rfl⟩:=hd
    rcases hkd e he with h|h
    rw[hb]at h;simp at h
    exact h
   have hbef:∀i,((Kz [] ops.toList).getD k 0).testBit i=true->L.getD i false=true:=
    Y9 (S:=λi=>L.getD i false=true) C hcl ops.toList [] [] rfl rfl (λk _ h=>by simp at h) k o ho1 W
   have Z:∀i y,rs[i]?=some y->L.getD i false=true->k<i->((Kz [] ops.toList).getD i 0).testBit k=true->False:=by
    intro i y hy hi _ hb
    obtain⟨oi,O,_⟩:=hopl i (U hy)
    have:=Y9 (S:=λi=>L.getD i false=true) C hcl ops.toList [] [] rfl rfl (λk _ h=>by simp at h) i oi O (hcl i oi hi O) k hb
    rw[N]at this;simp at this
   obtain⟨⟨stj,h,h1⟩,h2,h3,h4,h5⟩:=hA k x o T ho1
   have hneeds:∀f∈x.q.sm.needs,I0 st rs (λi=>L.getD i false=true) f:=by
    intro f J
    have later:∀i,L.getD i false=true->k<i->¬kl rs i f:=by
     rintro i hi G ⟨y,hy,b⟩
     refine Z i y hy hi G (RP B T hy G ?_)
     simp only[N5,Bool.or_eq_true,List.any_eq_true]
     exact .inl (.inl (.inr ⟨f,J,b⟩))
    rcases h3 f J with⟨I,a2⟩|⟨j,y,I,a2,Y,a4⟩
    refine .inl ⟨I,λi hi=>?_⟩
    rcases Nat.lt_trichotomy i k with q|q|q
    exact a2 i q
    subst q;have M:L.getD i false=true:=hi;rw[N]at M;simp at M
    exact later i hi q
    have a1':j<k:=I
    refine .inr ⟨j,y,hbef j (RP B a2 T a1' ?_),a2,Y,λi hi hj=>?_⟩
    simp only[N5,Bool.or_eq_true,List.any_eq_true]
    exact .inl (.inl (.inl ⟨f,Y,by simpa using J⟩))
    rcases Nat.lt_trichotomy i k with q|q|q
    exact a4 i q hj
    subst q;have M:L.getD i false=true:=hi;rw[N]at M;simp at M
    exact later i hi q
   have hfresh:∀j,j<x.q.it.p.np->Bw (I0 st rs (λi=>L.getD i false=true)) (x.AA+j):=by
    intro j hj
    have hno:∀f,I0 st rs (λi=>L.getD i false=true) f->x.AA+j∉f.Ae:=by
     rintro f (⟨I,_⟩|⟨i,y,I,a2,Y,_⟩) hm
     simp only[L6,Ao,Aa]at hbd
     have:=hbd f I _ hm
     omega
     rcases Nat.lt_trichotomy i k with q|q|q
     have:=hment y (List.mem_of_getElem? a2) f Y _ hm
     have:=AM5 ops.toList qs AA i k y x (by rw[hrs];exact a2) (by rw[hrs];exact T) q
     omega
     subst q;have a1':L.getD i false=true:=I;rw[N]at a1';simp at a1'
     refine Z i y a2 I q (RP B T a2 q ?_)
     simp only[N5,Bool.or_eq_true,List.any_eq_true]
     exact .inr ⟨f,Y,x.AA+j,hm,by simp[Rc.AK5];omega⟩
    exact⟨λs J=>hno _ J (by simp[Fact.Ae]),λt l J hm=>hno _ J (by simpa[Fact.Ae]using hm)⟩
   refine U0 hs hc h1 H hfresh hneeds h4 ho2 λa' w' H'=>?_
   have g:∀i,(L.setIfInBounds k true).getD i false=true↔(i=k\/L.getD i false=true):=by
    intro i
    simp only[C7,Array.getElem?_setIfInBounds]
    by_cases R:k=i
    subst R;simp[show k<L.size by omega]
    simp only[if_neg R]
    constructor
    intro h;exact .inr h
    rintro(h|h)
    exact(R h.symm).elim
    exact h
   refine ih _ a' w' (by simpa using hsz) ?_ ?_ (H'.mono λf J=>?_)
   ·
    have hsub:((List.range ops.size).filter λi=>!(L.setIfInBounds k true).getD i true).length<((List.range ops.size).filter λi=>!L.getD i true).length:=by
     have e:((List.range ops.size).filter λi=>!(L.setIfInBounds k true).getD i true)=((List.range ops.size).filter λi=>!L.getD i true).filter (λi=>decide (i≠k)):=by
      rw[List.filter_filter]
      apply List.filter_congr
      intro i hi
      have M:i<ops.size:=by simpa using hi
      simp only[C7,Array.getElem?_setIfInBounds]
      by_cases R:k=i
      subst R;simp[show k<L.size by omega]
      have:i≠k:=λe=>R e.symm
      simp[if_neg R,this]
     rw[e]
     have hmem:k∈(List.range ops.size).filter λi=>!L.getD i true:=by
      simp only[List.mem_filter,List.mem_range,hkl,true_and]
      exact hkn
     exact List.length_filter_lt_length_iff_exists.2 ⟨k,hmem,by simp⟩
    omega
   .intro i oi hi O d hd
    rw[g]at hi|-
    right
    rcases hi with rfl|hi
    .rw[ho1]at O;injection O with O;subst O;exact W d hd
    .exact hcl i oi hi O d hd
   ·
    rcases J with⟨I,a2⟩|⟨j,y,I,a2,Y,a4⟩
    .have hk1:I0 st rs (λi=>L.getD i false=true) f:=.inl ⟨I,λi hi=>a2 i ((g i).2 (.inr hi))⟩
     have hk2:¬x.KU f=true:=λq=>a2 k ((g k).2 (.inl rfl)) ⟨x,T,q⟩
     rw[<-h2]
     exact Rc.Yy hk1 hk2
    .rcases(g j).1 I with rfl|b1
     .rw[T]at a2;injection a2 with a2;subst a2
      exact .inr Y
     .have hk1:I0 st rs (λi=>L.getD i false=true) f:=.inr ⟨j,y,b1,a2,Y,λi hi=>a4 i ((g i).2 (.inr hi))⟩
      have hk2:¬x.KU f=true:=by
       intro q
       rcases Nat.lt_trichotomy j k with G|G|G
       exact a4 k ((g k).2 (.inl rfl)) G ⟨x,T,q⟩
       subst G;have b1':L.getD j false=true:=b1;rw[N]at b1';simp at b1'
       refine Z j y a2 b1 G (RP B T a2 G ?_)
       simp only[N5,Bool.or_eq_true,List.any_eq_true]
       exact .inl (.inr ⟨f,Y,q⟩)
      rw[<-h2]
      exact Rc.Yy hk1 hk2
end
end Go.Cat
namespace Go.Cat
abbrev VT:=List (Nat×Sh)
abbrev HL:=List (Nat×List Nat)
def OS(L:Nat):Nat->VT->List Fact
 |_,[]=>[]
 |i,(t,s)::r=>(if L.testBit i then [.sl t (.is i []),.en i s]else [])++OS L (i+1) r
def CN(vt:VT)(L:Nat):List Fact:=OS L 0 vt
theorem AB4{L:Nat}{f:Fact}:∀{vt:VT}{i:Nat},f∈OS L i vt↔∃j t s,vt[j]?=some (t,s)/\L.testBit (i+j)=true/\(f=.sl t (.is (i+j) [])\/f=.en (i+j) s)
 |[],i=>by simp[OS]
 |(t,s)::r,i=>by
  simp only[OS,Ac,AB4 (vt:=r)];constructor;rintro(h|⟨j,T,s',H,b,e⟩);split at h;rename_i hL;refine⟨0,t,s,by simp,hL,?_⟩;simpa using h;simp at h;exact⟨j+1,T,s',by simpa using H,by rwa [show i+(j+1)=i+1+j from by omega],by rwa [show i+(j+1)=i+1+j from by omega]⟩;rintro⟨j,T,s',H,b,e⟩
  cases j with
  |zero=>
   simp only[List.getElem?_cons_zero,AL,AJ]at H
   obtain⟨rfl,rfl⟩:=H
   left
   simp only[Nat.add_zero]at b e
   rw[if_pos b]
   simpa using e
  |succ j=>
   right
   exact⟨j,T,s',by simpa using H,by rwa [show i+1+j=i+(j+1)from by omega],by rwa [show i+1+j=i+(j+1)from by omega]⟩
theorem Dx{vt:VT}{L:Nat}{f:Fact}:f∈CN vt L↔∃i t s,vt[i]?=some (t,s)/\L.testBit i=true/\(f=.sl t (.is i [])\/f=.en i s):=by unfold CN;rw[AB4];simp
theorem He{vt:VT}{L b:Nat}(h:∀i,b.testBit i=true->L.testBit i=true):∀f,f∈CN vt b->f∈CN vt L:=by intro f j;obtain⟨i,t,s,H,e,g⟩:=Dx.1 j;exact Dx.2 ⟨i,t,s,H,h i e,g⟩
def KE(a b:Nat):Bool:=a&&&b==a
theorem Uv{a b:Nat}(h:KE a b=true)(i:Nat)(e:a.testBit i=true):b.testBit i=true:=by
 have H:a&&&b=a:=by simpa[KE]using h
 have:=congrArg (λx=>Nat.testBit x i) H;simp only[Nat.testBit_and,e,Bool.true_and]at this;exact this
theorem Holds.congr{c:Cx}{vt:VT}{L:Nat}{E E':Nat->D}{a:Act}{w:World}(h:Holds c (·∈CN vt L) E a w)(B:∀i t s,vt[i]?=some (t,s)->L.testBit i=true->E' i=E i):
  Holds c (·∈CN vt L) E' a w:=by
 obtain⟨⟨vs,Bs,H⟩,x⟩:=h;refine⟨⟨vs,Bs,?_,H.nodup,H.mine,H.apart,?_,H.agr,H.os,H.tape,H.output,H.defers,H.size⟩,x⟩
 .intro n s f;obtain⟨i,t,s',j,k,b⟩:=Dx.1 f;have:=H.own n s f;rcases b with b|b
  .simp at b
  .injection b with e g;subst e g;rw[B n t s j k];exact this
 .intro t l f;obtain⟨i,T,s',j,k,b⟩:=Dx.1 f;have:=H.loc t l f;rcases b with b|b
  .injection b with e g;subst e g;refine⟨λ_=>this.1 (by simp[Au]),λq=>(q (by simp[Au])).elim⟩
  .simp at b
def Sh.FK:Sh->Bool
 |.v=>false
 |.y=>false
 |_=>true
theorem Sh.NK{s:Sh}(h:¬s.FK=true):s=.v\/s=.y:=by cases s<;>simp[Sh.FK]at h|-
def KL(st:List Fact)(mask:Nat):Nat->VT->Option (List (Option Nat))
 |_,[]=>some []
 |i,(t,s)::r=>(KL st mask (i+1) r).bind λo=>
  if mask.testBit i then
   match CD st t with
   |some (.is n [])=>match CV st n with
    |some s'=>if s'=s\/(s=.v/\s'.okF=true)\/(s=.y/\s'.okF=true)then some (some n::o)else none
    |none=>none
   |_=>none
  else some (none::o)
def EJ:List (Option Nat)->VT->List Nat
 |some n::o,(_,s)::r=>if s.FK=true then n::EJ o r else EJ o r
 |none::o,_::r=>EJ o r
 |_,_=>[]
def II:List (Option Nat)->VT->List Nat
 |some n::o,(_,s)::r=>if s.FK=true then II o r else n::II o r
 |none::o,_::r=>II o r
 |_,_=>[]
def XN(st:List Fact)(AA:Nat)(h:List Nat):Option (List Sq×List Fact×Nat×List Nat):=match h with
 |k::_=>if 500000<=k/\k<600000 then IU st AA h else some ([],st,AA,h)
 |[]=>some ([],st,AA,[])
def VS(cf:CF)(sg:Nat->Option Sg)(vt:VT)(ops:Array Oper)(draw:Bool)(L:Nat)(h:Nat×List Nat):Option S:=
 (XN (CN vt L) vt.length h.2).bind λP=>(Fl cf sg ops ops.toList P.2.1 P.2.2.1 P.2.2.2).bind λr=>
  (KL r.2.1 h.1 0 vt).bind λout=>
   if NT vt.length ((P.1++r.1).map (·.it))=true/\(!draw||XG P.2.1 P.2.2.1 ops.toList r.1)=true/\(EJ out vt).Nodup/\((EJ out vt).all λn=>!(II out vt).contains n)=true then
    some (.reg ((P.1++r.1).map (·.it)) out)
   else none
theorem AVL{c:Cx}{E:Nat->D}{K:Nat->List D->List D->Prop}{st s:List Fact}{AA C:Nat}{h e:List Nat}{r:List Sq}(b:XN st AA h=some (r,s,C,e)):
  C=AA+De (r.map (·.it))/\(EZ K E AA (r.map (·.it))->∀{a:Act}{w:World},Holds c (·∈st) E a w->Holds c (·∈s) E a w):=by
 unfold XN at b;split at b
 .split at b
  .exact⟨Od b,λf _ _ H=>Sp b f H⟩
  .simp only[AL,AJ]at b;obtain⟨rfl,rfl,rfl,_⟩:=b;exact⟨by simp[De],λ_ _ _ H=>H⟩
 .simp only[AL,AJ]at b;obtain⟨rfl,rfl,rfl,_⟩:=b;exact⟨by simp[De],λ_ _ _ H=>H⟩
theorem NI{st:List Fact}{mask:Nat}:∀{vt:VT}{i:Nat}{out:List (Option Nat)},KL st mask i vt=some out->out.length=vt.length/\
  ∀j t s,vt[j]?=some (t,s)->mask.testBit (i+j)=true->∃n s',out[j]?=some (some n)/\Fact.sl t (.is n [])∈st/\Fact.en n s'∈st/\(s'=s\/(s=.v/\s'.okF=true)\/(s=.y/\s'.okF=true))
 |[],i,out,h=>by simp only[KL,AL]at h;subst h;simp
 |(t,s)::r,i,out,h=>by
  simp only[KL,AW]at h;obtain⟨o,C,h⟩:=h;obtain⟨l,x⟩:=NI C;split at h;rename_i B;split at h;rename_i n I;split at h;rename_i s' e;split at h;rename_i G;simp only[AL]at h;subst h;refine⟨by simp[l],λj T s2 H b=>?_⟩
  cases j with
  |zero=>
   simp only[List.getElem?_cons_zero,AL,AJ]at H
   obtain⟨rfl,rfl⟩:=H
   exact⟨n,s',by simp,AdZ I,Ae4 e,G⟩
  |succ j=>
   obtain⟨N,k,q,Q,f,g⟩:=x j T s2 (by simpa using H) (by rwa [show i+1+j=i+(j+1)from by omega])
   exact⟨N,k,by simpa using q,Q,f,g⟩
  simp at h;simp at h;simp at h;rename_i B;simp only[AL]at h;subst h;refine⟨by simp[l],λj T s2 H b=>?_⟩
  cases j with
  |zero=>simp at b;exact(B b).elim
  |succ j=>
   obtain⟨N,k,q,Q,f,g⟩:=x j T s2 (by simpa using H) (by rwa [show i+1+j=i+(j+1)from by omega])
   exact⟨N,k,by simpa using q,Q,f,g⟩
theorem Ti:∀{out:List (Option Nat)}{vt:VT}{j n t:Nat}{s:Sh},s.FK=true->out[j]?=some (some n)->vt[j]?=some (t,s)->n∈EJ out vt
 |[],_,_,_,_,_=>λ_ h=>by simp at h
 |_::_,[],_,_,_,_=>λ_ _ h=>by simp at h
 |o::out,(T,s')::vt,0,n,t,s=>λe H b=>by simp at H b;obtain⟨rfl,rfl⟩:=b;subst H;simp[EJ,e]
 |o::out,(T,s')::vt,j+1,n,t,s=>λe H b=>by
  have:=Ti (out:=out) (vt:=vt) e (by simpa using H) (by simpa using b)
  cases o with
  |none=>simpa[EJ]using this
  |some m=>
   simp only[EJ]
   split
   .exact BN _ this
   .exact this
theorem Zk:∀{out:List (Option Nat)}{vt:VT}{j n t:Nat}{s:Sh},out[j]?=some (some n)->vt[j]?=some (t,s)->s=.v\/s=.y->n∈II out vt
 |[],_,_,_,_,_=>λh=>by simp at h
 |_::_,[],_,_,_,_=>λ_ h=>by simp at h
 |o::out,(T,s')::vt,0,n,t,s=>λH b e=>by simp at H b;obtain⟨rfl,rfl⟩:=b;subst H;rcases e with rfl|rfl<;>simp[II,Sh.FK]
 |o::out,(T,s')::vt,j+1,n,t,s=>λH b e=>by
  have:=Zk (out:=out) (vt:=vt) (by simpa using H) (by simpa using b) e
  cases o with
  |none=>simpa[II]using this
  |some m=>
   simp only[II]
   split
   .exact this
   .exact BN _ this
theorem AHV:∀{out:List (Option Nat)}{vt:VT},(EJ out vt).Nodup->∀{j k n t u:Nat}{s r:Sh},s.FK=true->r.FK=true->out[j]?=some (some n)->vt[j]?=some (t,s)->out[k]?=some (some n)->vt[k]?=some (u,r)->j=k
 |[],_=>λ_=>by simp
 |_::_,[]=>λ_=>by simp
 |o::out,(T,s')::vt=>λh=>by
  intro j k n t u s r i g H b e f
  have tl:(EJ out vt).Nodup:=by
   cases o with
   |none=>simpa[EJ]using h
   |some m=>
    simp only[EJ]at h
    split at h
    .exact(List.nodup_cons.1 h).2
    .exact h
  cases j with
  |zero=>
   cases k with
   |zero=>rfl
   |succ k=>
    simp at H b
    obtain⟨rfl,rfl⟩:=b
    subst H
    have:=Ti (out:=out) (vt:=vt) g (by simpa using e) (by simpa using f)
    simp only[EJ,i,if_true]at h
    exact((List.nodup_cons.1 h).1 this).elim
  |succ j=>
   cases k with
   |zero=>
    simp at e f
    obtain⟨rfl,rfl⟩:=f
    subst e
    have:=Ti (out:=out) (vt:=vt) i (by simpa using H) (by simpa using b)
    simp only[EJ,g,if_true]at h
    exact((List.nodup_cons.1 h).1 this).elim
   |succ k=>
    have:=AHV tl (j:=j) (k:=k) (n:=n) (t:=t) (u:=u) (s:=s) (r:=r) i g (by simpa using H) (by simpa using b) (by simpa using e) (by simpa using f)
    omega
theorem AcA{out:List (Option Nat)}{e:Env}{j n:Nat}(h:out[j]?=some (some n)):Env.E (ER out e) j=e.E n:=by simp[Env.E,ER,Ap,h]
theorem SY{c:Cx}{st:List Fact}{e:Env}{a:Act}{w:World}{vt:VT}{mask:Nat}{out:List (Option Nat)}(h:Holds c (·∈st) e.E a w)(ho:KL st mask 0 vt=some out)
  (hn:(EJ out vt).Nodup) (hd:∀n∈EJ out vt,n∉II out vt):Holds c (·∈CN vt mask) (Env.E (ER out e)) a w:=by
 obtain⟨⟨vs,Bs,H⟩,hfix⟩:=h;refine⟨?_,hfix⟩;obtain⟨_,hspec⟩:=NI ho;let ix:Nat->Nat:=λi=>match out[i]? with|some (some n)=>n|_=>0;let own?:Nat->Bool:=λi=>match vt[i]? with|some (_,s)=>s.FK|_=>false;have get:∀i t s,vt[i]?=some (t,s)->mask.testBit i=true->∃n s',out[i]?=some (some n)/\ix i=n/\Fact.sl t (.is n [])∈st/\Fact.en n s'∈st/\(s'=s\/(s=.v/\s'.okF=true)\/(s=.y/\s'.okF=true)):=by intro i t s g M;obtain⟨n,s',U,L,q3,Q⟩:=hspec i t s g (by simpa using M);exact⟨n,s',U,by simp[ix,U],L,q3,Q⟩
 let k:Nat->List Nat:=λi=>if own? i then Bs (ix i)else [];have B:∀i t s,vt[i]?=some (t,s)->s.FK=true->k i=Bs (ix i):=by intro i t s h x;simp[k,own?,h,x]
 have R:∀i t s,vt[i]?=some (t,s)->s=.v\/s=.y->k i=[]:=by intro i t s h x;rcases x with rfl|rfl<;>simp[k,own?,h,Sh.FK]
 have hO:∀b,OB (·∈CN vt mask) k b->OB (·∈st) Bs b:=by rintro b ⟨i,s,O,C⟩;obtain⟨i',t,s',g,M,f⟩:=Dx.1 O;rcases f with f|f;simp at f;injection f with G I;subst G I;by_cases x:s.FK=true;rw[B i t s g x]at C;obtain⟨n,s2,U,L,q3,Q,T⟩:=get i t _ g M;exact⟨n,s2,Q,L▸C⟩;rw[R i t _ g (Sh.NK x)]at C;simp at C
 refine⟨λi=>vs (ix i),k,?_,?_,?_,?_,?_,H.agr,H.os,H.tape,H.output,H.defers,H.size⟩
 .intro i s O;obtain⟨i',t,s',g,M,f⟩:=Dx.1 O;rcases f with f|f
  .simp at f
  .injection f with G I;subst G I;obtain⟨n,s2,U,L,q3,Q,T⟩:=get i t _ g M;rw[AcA U,L];have W:=H.own n s2 Q;have fz:s=.v\/s=.y->s2.okF=true->Rd c.fid w.heap (λb=>OB (·∈CN vt mask) k b\/c.Xb b) (e.E n) (vs n):=by
    intro x T;refine AE.freeze (λb _ q=>q.imp (hO b) id) s2 _ _ _ T ?_ W;rintro b C (⟨j,s3,hf3,N⟩|hx);obtain⟨j',t3,s4,V,k2,P⟩:=Dx.1 hf3;rcases P with P|P;simp at P;injection P with G I;subst G I;by_cases Z:s3.FK=true;rw[B j t3 s3 V Z]at N;obtain⟨m,s5,r1,r2,r3,r4,r5⟩:=get j t3 _ V k2;rw[r2]at N;have Y:n≠m:=by rintro rfl;exact hd n (Ti Z r1 V) (Zk U g x)
    exact H.apart n s2 m s5 Q r4 Y b C N;rw[R j t3 _ V (Sh.NK Z)]at N;simp at N;have:=c.hX b hx;rcases H.mine n s2 Q b C with q|q;omega;exact this.2 q
   rcases T with rfl|⟨rfl,T⟩|⟨rfl,T⟩
   .have:=AE.ext (Ay.refl (λ_=>False) _) (λ_ _ q=>q.elim) (λb _=>hO b) _ _ _ _ (λ_ _ q=>q) W;by_cases hs2:s2.FK=true
    .rw[B i t s2 g hs2,L];exact this
    .rcases Sh.NK hs2 with rfl|rfl
     .rw[R i t _ g (.inl rfl)];simp only[AE]at this|-;exact⟨trivial,this.2⟩
     .rw[R i t _ g (.inr rfl)];simp only[AE]at this|-;exact⟨trivial,this.2⟩
   .rw[R i t _ g (.inl rfl)];simp only[AE];exact⟨trivial,fz (.inl rfl) T⟩
   .rw[R i t _ g (.inr rfl)];simp only[AE];exact⟨trivial,(fz (.inr rfl) T).mono λb _ q=>.inl q⟩
 .intro i s O;obtain⟨i',t,s',g,M,f⟩:=Dx.1 O;rcases f with f|f
  .simp at f
  .injection f with G I;subst G I;obtain⟨n,s2,U,L,q3,Q,T⟩:=get i t _ g M;by_cases x:s.FK=true
   .rw[B i t s g x,L];exact H.nodup n s2 Q
   .rw[R i t _ g (Sh.NK x)];exact List.nodup_nil
 .intro i s O b C;obtain⟨n,s2,Q,J⟩:=hO b ⟨i,s,O,C⟩;exact H.mine n s2 Q b J
 .intro i s j r O hg Y b C J;obtain⟨i',t,s',g,M,f⟩:=Dx.1 O;obtain⟨j',t2,r',V,k2,P⟩:=Dx.1 hg;rcases f with f|f
  .simp at f
  rcases P with P|P
  .simp at P
  injection f with G I;subst G I;injection P with G I;subst G I;obtain⟨n,s2,U,L,q3,Q,T⟩:=get i t _ g M;obtain⟨m,r2,p1,p2,p3,p4,p5⟩:=get j t2 _ V k2;by_cases x:s.FK=true
  .by_cases hr:r.FK=true
   .rw[B i t s g x,L]at C;rw[B j t2 r V hr,p2]at J;have:n≠m:=by rintro rfl;exact Y (AHV hn x hr U g p1 V)
    exact H.apart n s2 m r2 Q p4 this b C J
   .rw[R j t2 _ V (Sh.NK hr)]at J;simp at J
  .rw[R i t _ g (Sh.NK x)]at C;simp at C
 .intro t l O;obtain⟨i,t',s',g,M,f⟩:=Dx.1 O;rcases f with f|f
  .injection f with G I;subst G I;obtain⟨n,s2,U,L,q3,Q,T⟩:=get i t _ g M;have:=H.loc t _ q3;refine⟨λ_=>?_,λq=>(q (by simp[Au])).elim⟩;show a.tmps[t]?=some (vs (ix i));rw[L];exact this.1 (by simp[Au])
  .simp at f
def Mw(cf:CF)(sg:Nat->Option Sg)(vt:VT)(l:List (Nat×Array Oper×List Nat))(L mask:Nat):Option S:=
 (Nv cf sg l (CN vt L) vt.length).bind λr=>(KL r.2.1 mask 0 vt).bind λout=>
  if NT vt.length (r.1.map (·.it))=true/\(EJ out vt).Nodup/\((EJ out vt).all λn=>!(II out vt).contains n)=true then
   some (.reg (r.1.map (·.it)) out)
  else none
section
variable{cf:CF}{sg:Nat->Option Sg}{c:Cx}{K:Nat->List D->List D->Prop}
theorem Ah9(V:Sound cf sg K)(R:cf.Fits c){vt:VT}{l:List (Nat×Array Oper×List Nat)}{L mask:Nat}{s:S}(b:Mw cf sg vt l L mask=some s)
  {Q:X->Env->Prop} {e:Env} (J:wpS K s Q e) (k:e.length=vt.length) {a:Act} {w:World} (H:Holds c (·∈CN vt L) e.E a w) {d:Code} {C:Exit->Act->World->Prop}
  (T:∀j G w',j.length=vt.length->Q .n j->Holds c (·∈CN vt mask) j.E G w'->d.wp c.P C G w'):(QE l d).wp c.P C a w:=by
 unfold Mw at b;simp only[AW]at b;obtain⟨⟨qs,Z,I⟩,W,out,B,b⟩:=b;simp only at B b;split at b
 .rename_i g;obtain⟨h,x,f⟩:=g;simp only[AL]at b;subst b;simp only[wpS]at J;obtain⟨t,Y,q2,M⟩:=Oe _ e (by rw[k];exact h) J;rw[k]at M;have N:Holds c (·∈CN vt L) (Env.E (e++t)) a w:=H.congr λi tt s hi _=>by
   have:i<e.length:=by rw[k];rcases BS i vt.length with q|q;exact q;rw[Df q]at hi;simp at hi
   exact Ju this
  refine APB V R l _ _ _ _ _ W M a w N λa2 w2 O=>?_;refine T _ a2 w2 ?_ Y (SY O B x ?_)
  .rw[<-(NI B).1];simp[ER]
  .intro n U;simp only[Ao,Bool.not_eq_true',List.contains_eq_mem,decide_eq_false_iff_not]at f;exact f n U
 .simp at b
theorem AeK(hs:Sound cf sg K)(V:cf.Fits c){vt:VT}{id:Nat}{ops:Array Oper}{W:List Nat}{L mask:Nat}{s:S}(b:Mw cf sg vt [(id,ops,W)] L mask=some s)
  {Q:X->Env->Prop} {e:Env} (N:wpS K s Q e) (x:e.length=vt.length) {a:Act} {w:World} (H:Holds c (·∈CN vt L) e.E a w) {k:Exit->Act->World->Prop}
  (Z:∀l I w',l.length=vt.length->Q .n l->Holds c (·∈CN vt mask) l.E I w'->k .normal I w'):(Code.region id ops false).wp c.P k a w:=by
 unfold Mw at b;simp only[AW]at b;obtain⟨⟨qs,st',J⟩,O,out,C,b⟩:=b;simp only at C b;split at b
 .rename_i g;obtain⟨h,B,f⟩:=g;simp only[AL]at b;subst b;simp only[wpS]at N;obtain⟨t,q1,q2,G⟩:=Oe _ e (by rw[x];exact h) N;rw[x]at G;have R:Holds c (·∈CN vt L) (Env.E (e++t)) a w:=H.congr λi tt s hi _=>by
   have:i<e.length:=by rw[x];rcases BS i vt.length with q|q;exact q;rw[Df q]at hi;simp at hi
   exact Ju this
  simp only[Nv,AW,Ag,AJ]at O;obtain⟨⟨r1,st1,c1⟩,U,⟨r2,st2,c2⟩,⟨rfl,rfl,rfl⟩,rfl,M⟩:=O;simp only[List.append_nil]at G;refine wp_region ?_;rw[List.range_eq_range'];have:=WJ hs V (Q:=k) ops.toList 0 _ _ _ _ _ _ U (λj o Y=>by simpa using Y) G a w R λa2 w2 T=>by simp only[AJ]at M;obtain⟨rfl,rfl⟩:=M;refine Z _ a2 w2 ?_ q1 (SY T C B ?_);rw[<-(NI C).1];simp[ER];intro n hn;simp only[Ao,Bool.not_eq_true',List.contains_eq_mem,decide_eq_false_iff_not]at f;exact f n hn
  simpa using this
 .simp at b
end
def WS(cf:CF)(sg:Nat->Option Sg)(vt:VT)(O b:Array Oper)(L:Nat)(H h:Nat×List Nat):Option S:=
 (Fl cf sg O O.toList (CN vt L) vt.length H.2.tail).bind λr=>(Fl cf sg b b.toList r.2.1 r.2.2 h.2).bind λq=>
  (KL q.2.1 h.1 0 vt).bind λout=>
   if NT vt.length (r.1.map (·.it)++q.1.map (·.it))=true/\(EJ out vt).Nodup/\((EJ out vt).all λn=>!(II out vt).contains n)=true then
    some (.reg (r.1.map (·.it)++q.1.map (·.it)) out)
   else none
section
variable{cf:CF}{sg:Nat->Option Sg}{c:Cx}{K:Nat->List D->List D->Prop}
theorem AdP(Y:Sound cf sg K)(W:cf.Fits c){vt:VT}{M O:Array Oper}{L:Nat}{h1 U:Nat×List Nat}{s:S}(f:WS cf sg vt M O L h1 U=some s)
  {Q:X->Env->Prop} {e:Env} (V:wpS K s Q e) (G:e.length=vt.length) {a:Act} {w:World} (H:Holds c (·∈CN vt L) e.E a w) {i1 Z:Nat} {b:Code} {l:Exit->Act->World->Prop}
  (hk:∀B N w',B.length=vt.length->Q .n B->Holds c (·∈CN vt U.1) B.E N w'->b.wp c.P l N w'):(Code.seq (.region i1 M false) (.seq (.region Z O false) b)).wp c.P l a w:=by
 unfold WS at f;simp only[AW]at f;obtain⟨⟨qs,st',R⟩,k1,⟨qs2,st2,T⟩,k2,out,J,f⟩:=f;simp only at k2 J f;split at f
 .rename_i k;obtain⟨h,I,g⟩:=k;simp only[AL]at f;subst f;simp only[wpS]at V;obtain⟨t,q1,q2,q3⟩:=Oe _ e (by rw[G];exact h) V;rw[G]at q3;obtain⟨q4,q5⟩:=q3.split;have x:=AHZ k1;rw[<-x]at q5;have H1:Holds c (·∈CN vt L) (Env.E (e++t)) a w:=H.congr λi tt s hi _=>by
   have:i<e.length:=by rw[G];rcases BS i vt.length with q|q;exact q;rw[Df q]at hi;simp at hi
   exact Ju this
  refine wp_seq (wp_region ?_);rw[List.range_eq_range'];have:=RX Y W (Q:=Exit.then ((Code.seq (.region Z O false) b).wp c.P l) l) M.toList 0 _ _ _ _ _ _ k1 (λj o C=>by simpa using C) q4 a w H1 λa1 w1 H2=>by
   refine wp_seq (wp_region ?_);rw[List.range_eq_range'];have:=RX Y W (Q:=Exit.then (b.wp c.P l) l) O.toList 0 _ _ _ _ _ _ k2 (λj o C=>by simpa using C) q5 a1 w1 H2 λa2 w2 H3=>by refine hk _ a2 w2 ?_ q1 (SY H3 J I ?_);rw[<-(NI J).1];simp[ER];intro n hn;simp only[Ao,Bool.not_eq_true',List.contains_eq_mem,decide_eq_false_iff_not]at g;exact g n hn
   simpa using this
  simpa using this
 .simp at f
theorem AXE(hs:Sound cf sg K)(W:cf.Fits c)(hm:cf.P.follows .mixedOrders=true){vt:VT}{ops:Array Oper}{draw:Bool}{L:Nat}{h:Nat×List Nat}{s:S}(x:VS cf sg vt ops draw L h=some s)
  {Q:X->Env->Prop} {e:Env} (hQ:wpS K s Q e) (Y:e.length=vt.length) {a:Act} {w:World} (H:Holds c (·∈CN vt L) e.E a w) {id:Nat} {O:Exit->Act->World->Prop}
  (N:∀R C w',R.length=vt.length->Q .n R->Holds c (·∈CN vt h.1) R.E C w'->O .normal C w'):(Code.region id ops draw).wp c.P O a w:=by
 unfold VS at x;simp only[AW]at x;obtain⟨⟨qp,st0,cnt0,hh0⟩,h0,⟨qs,st',cnt'⟩,U,out,V,x⟩:=x;simp only at U V x;split at x
 .rename_i I;obtain⟨l,g,Z,B⟩:=I;simp only[AL]at x;subst x;simp only[wpS]at hQ;obtain⟨t,q1,q2,J⟩:=Oe _ e (by rw[Y];exact l) hQ;rw[Y]at J;obtain⟨p1,p2⟩:=AVL (c:=c) (K:=K) (E:=Env.E (e++t)) h0;rw[List.map_append]at J;obtain⟨q4,J⟩:=J.split;rw[<-p1]at J;have H1:Holds c (·∈st0) (Env.E (e++t)) a w:=p2 q4 <|H.congr λi tt s hi _=>by
   have:i<e.length:=by rw[Y];rcases BS i vt.length with q|q;exact q;rw[Df q]at hi;simp at hi
   exact Ju this
  have fin:∀C w',Holds c (·∈st') (Env.E (e++t)) C w'->O .normal C w':=by intro C w' H';refine N _ C w' ?_ q1 (SY H' V Z ?_);rw[<-(NI V).1];simp[ER];intro n hn;simp only[Ao,Bool.not_eq_true',List.contains_eq_mem,decide_eq_false_iff_not]at B;exact B n hn
  cases draw with
  |false=>
   refine wp_region ?_
   have:=RX hs W (Q:=O) ops.toList 0 _ _ _ _ _ _ U (λj o hj=>by simpa using hj) J a w H1 fin
   rw[List.range_eq_range']
   simpa using this
  |true=>
   simp only[Bool.not_true,Bool.false_or]at g
   refine wp_region_any (by rw[W.P];exact hm) ?_
   obtain⟨⟨vs,Bs,b⟩,M⟩:=H1
   have H3:Holds c (·∈st0) (Env.E (e++t)) a { w with drawn:=w.drawn+1 }:=
    ⟨⟨vs,Bs,b.own,b.nodup,b.mine,b.apart,b.loc,b.agr,b.os,b.tape,b.output,b.defers,b.size⟩,M⟩
   refine Aj0 hs W U g J fin ops.size _ a _ (by simp) ?_ ?_ (H3.mono λf hf=>?_)
   .exact Nat.le_trans (List.length_filter_le _ _) (by simp)
   .intro k o N
    rw[C7,Array.getElem?_replicate]at N
    split at N<;>simp at N
   .rcases hf with⟨T,_⟩|⟨j,r,T,_⟩
    .exact T
    .have G:(Array.replicate ops.size false).getD j false=true:=T
     rw[C7,Array.getElem?_replicate]at G
     split at G<;>simp at G
 .simp at x
end
end Go.Cat
namespace Go.Cat
def ADO:Nat×List Nat->Bool
 |(_,k::_)=>k==77776
 |_=>false
def APE:HL->Bool
 |(_,k::_)::_=>k==77777||k==77778
 |_=>false
abbrev Tr:=Option (S×HL×Option Nat×List (Nat×Nat))
def LX(o:Option Nat)(L:Nat):Option Nat:=match o with|none=>some L|some a=>some (a&&&L)
def Fi(a b:Option Nat):Option Nat:=match a,b with|none,b=>b|a,none=>a|some x,some y=>some (x&&&y)
def idxOf(vt:VT)(t:Nat):Option Nat:=vt.findIdx? (λx=>x.1==t)
def Ns(body:HL->Nat->Tr)(h:HL):Nat->Nat->Option (Nat×S×HL×List (Nat×Nat))
 |0,_=>none
 |n+1,L=>(body h L).bind λr=>match r.2.2.1 with
  |none=>some (L,r.1,r.2.1,r.2.2.2)
  |some b=>if KE L b then some (L,r.1,r.2.1,r.2.2.2)else Ns body h n (L&&&b)
def OW(t:Nat):Code->Bool
 |.region _ ops _=>ops.toList.any λo=>o.dst==some t
 |.seq a b=>OW t a||OW t b
 |.cond _ a b=>OW t a||OW t b
 |_=>false
def NN(t:Nat):Code->Code->Bool
 |.skip,y=>OW t y
 |_,_=>false
theorem AHD{t:Nat}{x y:Code}(h:NN t x y=true):x=.skip:=by cases x<;>first|rfl|simp[NN]at h
def L9(m L i:Nat)(b:Bool):S:=.reg [⟨[],[],.cs .v (.b b)⟩] ((List.range m).map λj=>if j=i then some m else if L.testBit j=true then some j else none)
section
variable(cf:CF)(sg:Nat->Option Sg)(vt:VT)(res:List Nat)
def Cf:Code->HL->Nat->Tr
 |.skip,H,L=>some (.skip,H,some L,[])
 |.region id ops draw,h::H,L=>if ADO h=true then(if draw=true then none else(Mw cf sg vt [(id,ops,h.2.tail)] L h.1).map λs=>(s,H,some h.1,[]))
  else(VS cf sg vt ops draw L h).map λs=>(s,H,some h.1,[])
 |.seq a b,H,L=>if APE H=true then match a,b,H with
  |.region I O false,.seq (.region J k false) (.seq (.region i3 Q false) (.seq (.region M R false) (.seq (.region N T false) (.seq (.region P U false) d)))),g::f::B::C::G::j::e=>
   (Mw cf sg vt [(I,O,g.2.tail),(J,k,f.2),(i3,Q,B.2),(M,R,C.2),(N,T,G.2),(P,U,j.2)] L j.1).bind λs=>(Cf d e j.1).map λq=>(.seq s q.1,q.2.1,q.2.2.1,q.2.2.2)
  |.region _ O false,.seq (.region _ k false) d,g::f::e=>(WS cf sg vt O k L g f).bind λs=>(Cf d e f.1).map λq=>(.seq s q.1,q.2.1,q.2.2.1,q.2.2.2)
  |_,_,_=>none
  else(Cf a H L).bind λr=>match r.2.2.1 with
  |none=>some (.seq r.1 .skip,r.2.1,none,r.2.2.2)
  |some l=>(Cf b r.2.1 l).map λq=>(.seq r.1 q.1,q.2.1,q.2.2.1,r.2.2.2++q.2.2.2)
 |.cond (.tmp t) x y,H,L=>(idxOf vt t).bind λi=>
  if L.testBit i then if NN t x y=true then(Cf y H (L ^^^ 2^i)).map λq=>(.cond i (L9 vt.length L i true) q.1,q.2.1,Fi (some L) q.2.2.1,q.2.2.2)
  else if NN t y x=true then(Cf x H (L ^^^ 2^i)).map λr=>(.cond i r.1 (L9 vt.length L i false),r.2.1,Fi r.2.2.1 (some L),r.2.2.2)
  else(Cf x H (L ^^^ 2^i)).bind λr=>(Cf y r.2.1 (L ^^^ 2^i)).map λq=>(.cond i r.1 q.1,q.2.1,Fi r.2.2.1 q.2.2.1,r.2.2.2++q.2.2.2)
  else none
 |.cond (.const (.bool b)) x y,H,L=>(Cf x H L).bind λr=>(Cf y r.2.1 L).map λq=>if b=true then(r.1,q.2.1,r.2.2.1,r.2.2.2)else(q.1,q.2.1,q.2.2.1,q.2.2.2)
 |.block id b,H,L=>(Cf b H L).map λr=>
  (.block id r.1,r.2.1,(r.2.2.2.filter (λx=>x.1==id)).foldl (λo x=>LX o x.2) r.2.2.1,r.2.2.2.filter (λx=>x.1 != id))
 |.loop b,H,L=>(Ns (Cf b) H 5 L).map λr=>(.loop r.2.1,r.2.2.1,none,r.2.2.2)
 |.exit id,H,L=>some (.exit id,H,none,[(id,L)])
 |.ret,H,L=>if res.all (λi=>L.testBit i)then some (.ret,H,none,[])else none
 |_,_,_=>none
end
def rOK(res:List Nat)(L:Nat):Prop:=∀i∈res,L.testBit i=true
theorem exists_least{J:Nat->Prop}(h:∃n,J n):∃n,J n/\∀m,m<n->¬J m:=by
 obtain⟨n,f⟩:=h;induction n using Nat.strongRecOn with
 |_ n i=>
  by_cases e:∃m,m<n/\J m
  .obtain⟨m,H,b⟩:=e
   exact i m H b
  .exact⟨n,f,λm H b=>e ⟨m,H,b⟩⟩
theorem ADL{body:HL->Nat->Tr}{f:HL}:∀{n L:Nat}{r:Nat×S×HL×List (Nat×Nat)},Ns body f n L=some r->KE r.1 L=true/\∃nb,body f r.1=some (r.2.1,r.2.2.1,nb,r.2.2.2)/\∀b,nb=some b->KE r.1 b=true
 |0,_,_=>λh=>by simp[Ns]at h
 |n+1,L,r=>λh=>by
  simp only[Ns,AW]at h;obtain⟨⟨s,q,nb,ex⟩,e,h⟩:=h;simp only at h;split at h;simp only[AL]at h;subst h;exact⟨by simp[KE],none,e,λb he=>by simp at he⟩;rename_i b;split at h;rename_i H;simp only[AL]at h;subst h;refine⟨by simp[KE],some b,e,λl he=>?_⟩;injection he with he;subst he;exact H;obtain⟨k,j⟩:=ADL h;refine⟨?_,j⟩;have g:∀i,r.1.testBit i=true->L.testBit i=true:=λi hi=>by have:=Uv k i hi;rw[Nat.testBit_and,AV]at this;exact this.1
  simp only[KE,beq_iff_eq];apply Nat.eq_of_testBit_eq;intro i;rw[Nat.testBit_and]
  cases hi:r.1.testBit i with
  |false=>rfl
  |true=>rw[g i hi];rfl
theorem TP{id:Nat}:∀{exs:List (Nat×Nat)}{o:Option Nat}{L:Nat},((id,L)∈exs\/o=some L)->∃b,exs.foldl (λo x=>LX o x.2) o=some b/\∀i,b.testBit i=true->L.testBit i=true
 |[],o,L=>λh=>by
  simp only[D4,false_or]at h
  exact⟨L,by simp[h],λ_ h=>h⟩
 |(k,M)::exs,o,L=>λh=>by
  simp only[List.foldl_cons]
  have step:∀N,(LX o M=some N)->(∀i,N.testBit i=true->L.testBit i=true)->∃b,exs.foldl (λo x=>LX o x.2) (LX o M)=some b/\∀i,b.testBit i=true->L.testBit i=true:=by
   intro N g j
   obtain⟨b,e,f⟩:=TP (id:=id) (exs:=exs) (o:=LX o M) (L:=N) (.inr g)
   exact⟨b,e,λi hi=>j i (f i hi)⟩
  rcases h with h|h
  rcases A7.1 h with h|h
  injection h with l H
  subst H
  cases o with
  |none=>exact step L rfl λ_ h=>h
  |some A=>
   refine step (A&&&L) rfl λi hi=>?_
   rw[Nat.testBit_and,AV]at hi;exact hi.2
  exact TP (id:=id) (.inl h)
  subst h
  refine step (L&&&M) rfl λi hi=>?_
  rw[Nat.testBit_and,AV]at hi;exact hi.1
def xe:X->Exit
 |.n=>.normal
 |.ex id=>.exit id
 |.r=>.ret
section
variable{cf:CF}{sg:Nat->Option Sg}{c:Cx}{K:Nat->List D->List D->Prop}{vt:VT}{res:List Nat}
theorem V9{t i:Nat}(h:idxOf vt t=some i):∃s,vt[i]?=some (t,s):=by
 unfold idxOf at h;obtain⟨H,b,_⟩:=List.findIdx?_eq_some_iff_getElem.1 h;refine⟨vt[i].2,?_⟩;rw[FD H];have:vt[i].1=t:=by simpa using b
 rw[<-this]
theorem AhQ{e:Env}{i j:Nat}(h:j≠i):Env.E (e.set i .u) j=e.E j:=by simp[Env.E,Ap,List.getElem?_set_ne (Ne.symm h)]
theorem AZS{L i m:Nat}{b:Bool}{Q:X->Env->Prop}{e:Env}(h:wpS K (L9 m L i b) Q (e.set i .u))(l:e.length=m)(hi:i<m)(s:Env.E e i=.b b):
  ∃f:Env,f.length=m/\Q .n f/\∀j,j<m->L.testBit j=true->Env.E f j=Env.E e j:=by
 simp only[L9,wpS,Ek,Iv,Cq,Ad,AY]at h;refine⟨_,?_,h,λj H hL=>?_⟩
 .simp[ER]
 .have g:∀o:Option Nat,((List.range m).map λj=>if j=i then some m else if L.testBit j=true then some j else none)[j]?=some o->Env.E (ER ((List.range m).map λj=>if j=i then some m else if L.testBit j=true then some j else none) (e.set i .u++[.b b])) j=match o with|some n=>Env.E (e.set i .u++[.b b]) n|none=>.u:=by
   intro o x
   show(ER _ _).getD j .u=_
   rw[Ap,ER,List.getElem?_map,x]
   cases o<;>rfl
  have k:((List.range m).map λj=>if j=i then some m else if L.testBit j=true then some j else none)[j]?=some (if j=i then some m else some j):=by
   rw[List.getElem?_map,List.getElem?_range H,Option.map_some,if_pos hL]
  rw[g _ k]
  by_cases q:j=i
  .subst q
   rw[if_pos rfl,s]
   simp[Env.E,Ap,<-l]
  .rw[if_neg q]
   show Env.E (e.set i .u++[.b b]) j=Env.E e j
   simp only[Env.E,Ap]
   rw[DW (by simpa[l]using H),List.getElem?_set_ne (Ne.symm q)]
theorem GY(hs:Sound cf sg K)(hc:cf.Fits c)(hm:cf.P.follows .mixedOrders=true):∀(code:Code)(hh:HL)(L:Nat)(s:S)(Y:HL)(W:Option Nat)(exs:List (Nat×Nat)),
  Cf cf sg vt res code hh L=some (s,Y,W,exs)->∀(Q:X->Env->Prop)(e:Env)(a:Act)(w:World)(Z:Exit->Act->World->Prop),wpS K s Q e->e.length=vt.length->Holds c (·∈CN vt L) e.E a w->
  (∀x k l w',k.length=vt.length->Q x k->(∃C,(match x with|.n=>W=some C|.ex id=>(id,C)∈exs|.r=>rOK res C)/\Holds c (·∈CN vt C) k.E l w')->Z (xe x) l w')->
  code.wp c.P Z a w
 |.skip,hh,L,s,Y,W,exs=>λg Q e a w Z G V H B=>by
  simp only[Cf,AL,AJ]at g
  obtain⟨rfl,rfl,rfl,rfl⟩:=g
  exact wp_skip (B .n e a w V G ⟨L,rfl,H⟩)
 |.region id ops draw,[],L,s,Y,W,exs=>λg=>by simp[Cf]at g
 |.region id ops draw,h::hh,L,s,Y,W,exs=>λg Q e a w Z G V H B=>by
  unfold Cf at g
  split at g
  split at g
  cases g
  rename_i hd
  simp only[Ag,AJ]at g
  obtain⟨s',h1,rfl,rfl,rfl,rfl⟩:=g
  have:draw=false:=by simpa using hd
  subst this
  exact AeK hs hc h1 G V H λk l w' f N U=>B .n k l w' f N ⟨h.1,rfl,U⟩
  simp only[Ag,AJ]at g
  obtain⟨s',h1,rfl,rfl,rfl,rfl⟩:=g
  exact AXE hs hc hm h1 G V H λk l w' f N U=>B .n k l w' f N ⟨h.1,rfl,U⟩
 |.seq x y,hh,L,s,Y,W,exs=>λg Q e a w Z G V H B=>by
  unfold Cf at g
  split at g
  split at g
  rename_i i1 o1 i2 o2 i3 o3 i4 o4 i5 o5 i6 o6 d h1 h2 h3 h4 h5 h6 hs' _
  simp only[AW,Ag,AJ]at g
  obtain⟨s1,hr,⟨s2,hx3,n3,e3⟩,hd,rfl,rfl,rfl,rfl⟩:=g
  simp only[wpS]at G
  refine Ah9 hs hc (d:=d) hr G V H λk l w' f N U=>?_
  exact GY hs hc hm d hs' h6.1 _ _ _ _ hd Q k l w' Z N f U B
  rename_i i1 o1 i2 o2 d h1 h2 hs' _ _
  simp only[AW,Ag,AJ]at g
  obtain⟨s1,hr,⟨s2,h3,n3,e3⟩,hd,rfl,rfl,rfl,rfl⟩:=g
  simp only[wpS]at G
  refine AdP hs hc hr G V H λk l w' f N U=>?_
  exact GY hs hc hm d hs' h2.1 _ _ _ _ hd Q k l w' Z N f U B
  cases g
  simp only[AW]at g
  obtain⟨⟨s1,h1,n1,e1⟩,hx,g⟩:=g
  simp only at g
  split at g
  simp only[AL,AJ]at g
  obtain⟨rfl,rfl,rfl,rfl⟩:=g
  simp only[wpS]at G
  refine wp_seq (GY hs hc hm x hh L _ _ _ _ hx _ e a w _ G V H ?_)
  rintro z k l w' f N ⟨C,R,U⟩
  cases z with
  |n=>simp at R
  |ex id=>exact B (.ex id) k l w' f N ⟨C,R,U⟩
  |r=>exact B .r k l w' f N ⟨C,R,U⟩
  rename_i L1
  simp only[Ag,AJ]at g
  obtain⟨⟨s2,h2,n2,e2⟩,hy,rfl,rfl,rfl,rfl⟩:=g
  simp only[wpS]at G
  refine wp_seq (GY hs hc hm x hh L _ _ _ _ hx _ e a w _ G V H ?_)
  rintro z k l w' f N ⟨C,R,U⟩
  cases z with
  |n=>
   injection R with R
   subst R
   refine GY hs hc hm y _ _ _ _ _ _ hy Q k l w' Z N f U ?_
   rintro z2 e3 a3 w3 hl3 hq3 ⟨L3,hz3,H3⟩
   refine B z2 e3 a3 w3 hl3 hq3 ⟨L3,?_,H3⟩
   cases z2 with
   |n=>exact hz3
   |ex id=>exact BF _ hz3
   |r=>exact hz3
  |ex id=>exact B (.ex id) k l w' f N ⟨C,BX _ R,U⟩
  |r=>exact B .r k l w' f N ⟨C,R,U⟩
 |.cond (.tmp t) x y,hh,L,s,Y,W,exs=>λg Q e a w Z G V H B=>by
  simp only[Cf,AW]at g
  obtain⟨i,hi,g⟩:=g
  split at g
  rename_i hL
  obtain⟨sh,hvt⟩:=V9 hi
  have H0:=H
  obtain⟨⟨vs,Bs,HG⟩,hfix⟩:=H
  have f1:=HG.own i sh (Dx.2 ⟨i,t,sh,hvt,hL,.inr rfl⟩)
  have f2:=(HG.loc t _ (Dx.2 ⟨i,t,sh,hvt,hL,.inl rfl⟩)).1 (by simp[Au])
  have hsub:∀j,(L ^^^ 2^i).testBit j=true->L.testBit j=true/\j≠i:=by
   intro j O
   rw[Nat.testBit_xor,Nat.testBit_two_pow]at O
   by_cases hij:i=j
   subst hij;simp[hL]at O
   simp[hij]at O;exact⟨O,λq=>hij q.symm⟩
  have U:Holds c (·∈CN vt (L ^^^ 2^i)) (Env.E (e.set i .u)) a w:=
   (Holds.mono ⟨⟨vs,Bs,HG⟩,hfix⟩ (He λj O=>(hsub j O).1)).congr λj _ _ _ O=>AhQ (hsub j O).2
  have him:i<vt.length:=by
   rcases BS i vt.length with q|q
   exact q
   rw[Df q]at hvt;cases hvt
  have hback:∀{b:Bool},wpS K (L9 vt.length L i b) Q (e.set i .u)->e.E i=.b b->∃k:Env,k.length=vt.length/\Q .n k/\Holds c (·∈CN vt L) k.E a w:=by
   intro b hw hb
   obtain⟨k,q1,q2,q3⟩:=AZS hw V him hb
   refine⟨k,q1,q2,H0.congr λj t s O hLj=>q3 j ?_ hLj⟩
   rcases BS j vt.length with q|q
   exact q
   rw[Df q]at O;cases O
  split at g
  rename_i hkp
  obtain rfl:=AHD hkp
  simp only[Ag,AJ]at g
  obtain⟨⟨s2,h2,n2,e2⟩,hy,rfl,rfl,rfl,rfl⟩:=g
  simp only[wpS]at G
  split at G
  rename_i hb
  rw[hb]at f1
  have hv:a.eval (.tmp t)=.bool true:=by
   rw[f1.bool]at f2;simp[Act.eval,f2]
  obtain⟨k,q1,q2,q3⟩:=hback G hb
  refine wp_cond_true hv (wp_skip ?_)
  cases n2 with
  |none=>exact B .n k a w q1 q2 ⟨L,by simp[Fi],q3⟩
  |some M=>
   refine B .n k a w q1 q2 ⟨L&&&M,by simp[Fi],q3.mono (He λj O=>?_)⟩
   rw[Nat.testBit_and,AV]at O;exact O.1
  rename_i hb
  rw[hb]at f1
  have hv:a.eval (.tmp t)=.bool false:=by
   rw[f1.bool]at f2;simp[Act.eval,f2]
  refine wp_cond_false hv (GY hs hc hm y hh _ _ _ _ _ hy Q _ a w Z G (by simpa using V) U ?_)
  rintro z k l w' f N ⟨C,R,H2⟩
  cases z with
  |n=>
   have T:n2=some C:=R
   refine B .n k l w' f N ⟨L&&&C,by simp[Fi,T],H2.mono (He λj O=>?_)⟩
   rw[Nat.testBit_and,AV]at O;exact O.2
  |ex id=>exact B (.ex id) k l w' f N ⟨C,R,H2⟩
  |r=>exact B .r k l w' f N ⟨C,R,H2⟩
  exact G.elim
  split at g
  rename_i hkp
  obtain rfl:=AHD hkp
  simp only[Ag,AJ]at g
  obtain⟨⟨s1,h1,n1,e1⟩,hx,rfl,rfl,rfl,rfl⟩:=g
  simp only[wpS]at G
  split at G
  rename_i hb
  rw[hb]at f1
  have hv:a.eval (.tmp t)=.bool true:=by
   rw[f1.bool]at f2;simp[Act.eval,f2]
  refine wp_cond_true hv (GY hs hc hm x hh _ _ _ _ _ hx Q _ a w Z G (by simpa using V) U ?_)
  rintro z k l w' f N ⟨C,R,H2⟩
  cases z with
  |n=>
   have T:n1=some C:=R
   refine B .n k l w' f N ⟨C&&&L,by simp[Fi,T],H2.mono (He λj O=>?_)⟩
   rw[Nat.testBit_and,AV]at O;exact O.1
  |ex id=>exact B (.ex id) k l w' f N ⟨C,R,H2⟩
  |r=>exact B .r k l w' f N ⟨C,R,H2⟩
  rename_i hb
  rw[hb]at f1
  have hv:a.eval (.tmp t)=.bool false:=by
   rw[f1.bool]at f2;simp[Act.eval,f2]
  obtain⟨k,q1,q2,q3⟩:=hback G hb
  refine wp_cond_false hv (wp_skip ?_)
  cases n1 with
  |none=>exact B .n k a w q1 q2 ⟨L,by simp[Fi],q3⟩
  |some M=>
   refine B .n k a w q1 q2 ⟨M&&&L,by simp[Fi],q3.mono (He λj O=>?_)⟩
   rw[Nat.testBit_and,AV]at O;exact O.2
  exact G.elim
  simp only[AW,Ag,AJ]at g
  obtain⟨⟨s1,h1,n1,e1⟩,hx,⟨s2,h2,n2,e2⟩,hy,rfl,rfl,rfl,rfl⟩:=g
  simp only[wpS]at G
  split at G
  rename_i hb
  rw[hb]at f1
  have hv:a.eval (.tmp t)=.bool true:=by
   rw[f1.bool]at f2;simp[Act.eval,f2]
  refine wp_cond_true hv (GY hs hc hm x hh _ _ _ _ _ hx Q _ a w Z G (by simpa using V) U ?_)
  rintro z k l w' f N ⟨C,R,H2⟩
  cases z with
  |n=>
   cases n2 with
   |none=>
    have T:n1=some C:=R
    exact B .n k l w' f N ⟨C,by simp[Fi,T],H2⟩
   |some M=>
    have T:n1=some C:=R
    refine B .n k l w' f N ⟨C&&&M,by simp[Fi,T],H2.mono (He λj O=>?_)⟩
    rw[Nat.testBit_and,AV]at O;exact O.1
  |ex id=>exact B (.ex id) k l w' f N ⟨C,BX _ R,H2⟩
  |r=>exact B .r k l w' f N ⟨C,R,H2⟩
  rename_i hb
  rw[hb]at f1
  have hv:a.eval (.tmp t)=.bool false:=by
   rw[f1.bool]at f2;simp[Act.eval,f2]
  refine wp_cond_false hv (GY hs hc hm y _ _ _ _ _ _ hy Q _ a w Z G (by simpa using V) U ?_)
  rintro z k l w' f N ⟨C,R,H2⟩
  cases z with
  |n=>
   have T:n2=some C:=R
   cases n1 with
   |none=>exact B .n k l w' f N ⟨C,by simp[Fi,T],H2⟩
   |some M=>
    refine B .n k l w' f N ⟨M&&&C,by simp[Fi,T],H2.mono (He λj O=>?_)⟩
    rw[Nat.testBit_and,AV]at O;exact O.2
  |ex id=>exact B (.ex id) k l w' f N ⟨C,BF _ R,H2⟩
  |r=>exact B .r k l w' f N ⟨C,R,H2⟩
  exact G.elim
  simp at g
 |.block id b,hh,L,s,Y,W,exs=>λg Q e a w Z G V H B=>by
  simp only[Cf,Ag,AJ]at g
  obtain⟨⟨s1,h1,n1,e1⟩,hb,rfl,rfl,rfl,rfl⟩:=g
  simp only[wpS]at G
  refine wp_block (GY hs hc hm b hh L _ _ _ _ hb _ e a w _ G V H ?_)
  rintro z k l w' f N ⟨C,R,U⟩
  cases z with
  |n=>
   have T:n1=some C:=R
   obtain⟨L2,q1,q2⟩:=TP (id:=id) (exs:=e1.filter (λx=>x.1==id)) (o:=n1) (L:=C) (.inr T)
   exact B .n k l w' f N ⟨L2,q1,U.mono (He q2)⟩
  |ex j=>
   have T:(j,C)∈e1:=R
   by_cases O:j=id
   .subst O
    have hq':Q .n k:=by simpa using N
    obtain⟨L2,q1,q2⟩:=TP (id:=j) (exs:=e1.filter (λx=>x.1==j)) (o:=n1) (L:=C) (.inl (by simp[T]))
    simp only[xe,Exit.inBlock,if_true]
    exact B .n k l w' f hq' ⟨L2,q1,U.mono (He q2)⟩
   .have hq':Q (.ex j) k:=by simpa[O]using N
    simp only[xe,Exit.inBlock,if_neg O]
    exact B (.ex j) k l w' f hq' ⟨C,by simp[T,O],U⟩
  |r=>exact B .r k l w' f N ⟨C,R,U⟩
 |.loop b,hh,L,s,Y,W,exs=>λg Q e a w Z G V H B=>by
  simp only[Cf,Ag,AJ]at g
  obtain⟨⟨Lh,s1,h1,e1⟩,hb,rfl,rfl,rfl,rfl⟩:=g
  obtain⟨k1,nb,k2,k3⟩:=ADL hb
  simp only at k1 k2 k3
  simp only[wpS]at G
  let J:Act->World->Nat->Prop:=λa w n=>∃e,EK (wpS K s1) n Q e/\e.length=vt.length/\Holds c (·∈CN vt Lh) e.E a w
  let I:Act->World->Prop:=λa w=>∃n,J a w n
  open Classical in
  let μ:Act->World->Nat:=λa w=>if h:∃n,J a w n then Classical.choose (exists_least h)else 0
  have hμ:∀a w,I a w->J a w (μ a w)/\∀m,m < μ a w->¬J a w m:=by
   intro a w h
   have h':∃n,J a w n:=h
   simp only[μ,dif_pos h']
   exact Classical.choose_spec (exists_least h')
  obtain⟨n,hn⟩:=G
  refine wp_loop I μ ⟨n,e,hn,V,H.mono (He (Uv k1))⟩ ?_
  intro a w hI
  obtain⟨⟨e,hw,hl2,H2⟩,hmin⟩:=hμ a w hI
  generalize hμn:μ a w=n at*
  cases n with
  |zero=>simp[EK]at hw
  |succ n=>
   simp only[EK]at hw
   refine GY hs hc hm b hh Lh _ _ _ _ k2 _ e a w _ hw hl2 H2 ?_
   rintro z k l w' f N ⟨C,R,U⟩
   cases z with
   |n=>
    have hJ:J l w' n:=⟨k,N,f,U.mono (He (Uv (k3 C R)))⟩
    refine⟨⟨n,hJ⟩,?_⟩
    have:=hμ l w' ⟨n,hJ⟩
    have hle:¬n < μ l w':=λq=>this.2 n q hJ
    show μ l w' < n+1
    omega
   |ex id=>exact B (.ex id) k l w' f N ⟨C,R,U⟩
   |r=>exact B .r k l w' f N ⟨C,R,U⟩
 |.exit id,hh,L,s,Y,W,exs=>λg Q e a w Z G V H B=>by
  simp only[Cf,AL,AJ]at g
  obtain⟨rfl,rfl,rfl,rfl⟩:=g
  exact wp_exit (B (.ex id) e a w V G ⟨L,by simp,H⟩)
 |.ret,hh,L,s,Y,W,exs=>λg Q e a w Z G V H B=>by
  simp only[Cf]at g
  split at g
  rename_i hr
  simp only[AL,AJ]at g
  obtain⟨rfl,rfl,rfl,rfl⟩:=g
  exact wp_ret (B .r e a w V G ⟨L,λi hi=>Ao.1 hr i hi,H⟩)
  simp at g
 |.cond (.const v) x y,hh,L,s,Y,W,exs=>λg Q e a w Z G V H B=>by
  cases v with
  |bool b=>
   simp only[Cf,AW,Ag]at g
   obtain⟨⟨s1,h1,n1,e1⟩,hx,⟨s2,h2,n2,e2⟩,hy,heq⟩:=g
   cases b with
   |true=>
    simp only[if_true,AJ]at heq
    obtain⟨rfl,rfl,rfl,rfl⟩:=heq
    exact wp_cond_true rfl (GY hs hc hm x hh _ _ _ _ _ hx Q _ a w Z G V H B)
   |false=>
    simp only[I1,if_false,AJ]at heq
    obtain⟨rfl,rfl,rfl,rfl⟩:=heq
    exact wp_cond_false rfl (GY hs hc hm y _ _ _ _ _ _ hy Q _ a w Z G V H B)
  |_=>simp[Cf]at g
 |.cond (.global _) _ _,_,_,_,_,_,_=>λg=>by simp[Cf]at g
 |.cond (.func _) _ _,_,_,_,_,_,_=>λg=>by simp[Cf]at g
 |.rangeFunc ..,_,_,_,_,_,_=>λg=>by simp[Cf]at g
 |.scope _,_,_,_,_,_,_=>λg=>by simp[Cf]at g
 |.label _,_,_,_,_,_,_=>λg=>by simp[Cf]at g
 |.goto _,_,_,_,_,_,_=>λg=>by simp[Cf]at g
 |.refuse _,_,_,_,_,_,_=>λg=>by simp[Cf]at g
end
structure IF where
 cl:List (Nat×Nat)
 np:Nat
 nv:Nat
 res:List Nat
 body:S
def G5(cl:List (Nat×Nat))(rs:List D):Bool:=cl.all λx=>match rs[x.1]? with
 |some d=>Jn x.2 d
 |none=>false
def Body(K:Nat->List D->List D->Prop)(f:IF)(s rs:List D):Prop:=
 (s.length=f.np/\G5 f.cl rs=true)/\wpS K f.body (λx e=>(match x with|.ex _=>False|_=>True)/\rs=f.res.map e.E) (s++List.replicate (f.nv-f.np) .u)
def Kd(P:Program)(vt:VT):List ResultVar->Option (List (Nat×Option Nat))
 |[]=>some []
 |.tmp t::r=>(idxOf vt t).bind λi=>(Kd P vt r).map ((i,none)::·)
 |.cell t ty::r=>(EM P ty).bind λn=>(idxOf vt t).bind λi=>(Kd P vt r).map ((i,some n)::·)
def O7:Option (Nat×Nat×List Nat)->List Nat
 |none=>[]
 |some x=>x.1::x.2.2
def AJC(vt:VT)(ps:List Sh):Bool:=ps.zipIdx.all λx=>vt[x.2]?==some (x.2,x.1)
def Po:Option Nat->Sh->Option Sh
 |none,q=>some q
 |some _,.b s=>some (.a s)
 |some _,_=>none
def AD9(vt:VT)(R:List (Nat×Option Nat))(qs:List Sh):Bool:=R.length==qs.length&&(R.zip qs).all λx=>((vt[x.1.1]?).bind λy=>Po x.1.2 y.2)==some x.2
def Tc(R:List (Nat×Option Nat)):List (Nat×Nat):=R.zipIdx.filterMap λx=>x.1.2.map λn=>(x.2,n)
def Z4(res:List Nat):Option Nat->Bool
 |some L=>res.all (λi=>L.testBit i)
 |none=>true
def RR(cf:CF)(sg:Nat->Option Sg)(vt:VT)(h:HL)(fn:Func)(s:Sg):Option IF:=
 match fn.body with
 |none=>none
 |some code=>(Kd cf.P vt fn.results.toList).bind λx=>(Cf cf sg vt (x.map (·.1)++s.io) code h (2^s.ps.length-1)).bind λr=>
  if s.ps.length<=vt.length/\s.ps.length<=fn.ntmps/\AJC vt s.ps=true/\AD9 vt (x++s.io.map λi=>(i,none)) s.outs=true/\(x.map (·.1)++s.io).Nodup/\r.2.2.2=[]/\Z4 (x.map (·.1)++s.io) r.2.2.1=true/\cf.nt=fn.ntmps/\
    ((s.io++O7 s.fb).all λi=>cf.fx.contains i&&decide (i<s.ps.length))=true/\x.length=s.qs.length/\cf.cl=s.fb then
   some ⟨Tc x,s.ps.length,vt.length,x.map (·.1)++s.io,r.1⟩
  else none
theorem WH{P:Program}{vt:VT}:∀{l:List ResultVar}{res:List (Nat×Option Nat)},Kd P vt l=some res->l.length=res.length/\
  ∀(j:Nat)(x:Nat×Option Nat),res[j]?=some x->∃t s,vt[x.1]?=some (t,s)/\((x.2=none/\l[j]?=some (ResultVar.tmp t))\/∃n ty,x.2=some n/\EM P ty=some n/\l[j]?=some (ResultVar.cell t ty))
 |[],res,h=>by simp only[Kd,AL]at h;subst h;simp
 |.tmp t::l,res,h=>by
  simp only[Kd,AW,Ag]at h;obtain⟨i,hi,r,f,rfl⟩:=h;obtain⟨e,b⟩:=WH f;refine⟨by simp[e],λj k H=>?_⟩
  cases j with
  |zero=>
   simp at H;subst H
   obtain⟨s,g⟩:=V9 hi
   exact⟨t,s,g,.inl ⟨rfl,by simp⟩⟩
  |succ j=>simpa using b j k (by simpa using H)
 |.cell t ty::l,res,h=>by
  simp only[Kd,AW,Ag]at h;obtain⟨n,q,i,hi,r,f,rfl⟩:=h;obtain⟨e,b⟩:=WH f;refine⟨by simp[e],λj k H=>?_⟩
  cases j with
  |zero=>
   simp at H;subst H
   obtain⟨s,g⟩:=V9 hi
   exact⟨t,s,g,.inr ⟨n,ty,rfl,q,by simp⟩⟩
  |succ j=>simpa using b j k (by simpa using H)
theorem AhS{x:List (Nat×Option Nat)}{rs:List D}(h:G5 (Tc x) rs=true){j i n:Nat}(H:x[j]?=some (i,some n)):∃xs,rs[j]?=some (.g xs)/\xs.length=n:=by
 simp only[G5,Ao]at h;have:=h (j,n) (by unfold Tc;refine List.mem_filterMap.2 ⟨((i,some n),j),?_,rfl⟩;rw[List.mem_iff_getElem?];exact⟨j,by simp[List.getElem?_zipIdx,H]⟩);simp only at this;split at this;rename_i d hd;unfold Jn at this;split at this;rename_i xs;exact⟨xs,hd,by simpa using this⟩
 cases this
 cases this
theorem ABA{n i:Nat}:(2^n-1).testBit i=decide (i<n):=Nat.testBit_two_pow_sub_one n i
theorem BU.of{α:Type}{R:Sh->D->Value->List Nat->Prop}{E:α->D}{vs:α->Value}{Bs:α->List Nat}:∀(res:List α)(qs:List Sh),res.length=qs.length->
  (∀(j:Nat)(i:α)(q:Sh),res[j]?=some i->qs[j]?=some q->R q (E i) (vs i) (Bs i))->BU R qs (res.map E) (res.map vs) (res.flatMap Bs)
 |[],[],_,_=>by simp[BU]
 |i::res,q::qs,l,h=>by simp only[List.map_cons,List.flatMap_cons,BU];exact⟨Bs i,res.flatMap Bs,rfl,h 0 i q (by simp) (by simp),BU.of res qs (by simpa using l) λj k r H b=>h (j+1) k r (by simpa using H) (by simpa using b)⟩
 |[],_::_,l,_=>by simp at l
 |_::_,[],l,_=>by simp at l
theorem AO9{P:Program}{w:World}{tm:Array Value}:∀(l:List ResultVar)(s:List Value),l.length=s.length->
  (∀(j:Nat)(v:Value),s[j]?=some v->(∃t,l[j]?=some (ResultVar.tmp t)/\tm.getD t undef=v)\/∃t ty,l[j]?=some (ResultVar.cell t ty)/\(do loadVar ty (<-asAddr (tm.getD t undef)):Sem Value).run P w=.ok v w)->
  (l.mapM (λ(x:ResultVar)=>match x with|.tmp t=>(Pure.pure (tm.getD t undef):Sem Value)|.cell a t=>do loadVar t (<-asAddr (tm.getD a undef)))).run P w=.ok s w
 |[],[],_,_=>rfl
 |r::l,v::s,b,h=>by
  rw[List.mapM_cons,Sem.run_bind];have i:=AO9 l s (by simpa using b) λj v f=>by simpa using h (j+1) v (by simpa using f)
  rcases h 0 v (by simp)with⟨t,H,e⟩|⟨t,ty,H,e⟩
  simp only[List.getElem?_cons_zero,AL]at H;subst H;simp only[Sem.run_pure,Result.andThen,Sem.run_bind];rw[i];simp[e];simp only[List.getElem?_cons_zero,AL]at H;subst H;simp only[e,Result.andThen,Sem.run_bind];rw[i];simp
 |[],_::_,b,_=>by simp at b
 |_::_,[],b,_=>by simp at b
section
variable{cf:CF}{sg:Nat->Option Sg}{K:Nat->List D->List D->Prop}{vt:VT}
theorem Ai3(l:List Value):Jt (if h:l.toArray.size=1 then l.toArray[0]else .tuple l.toArray) l:=by
 match l with
 |[]=>simp[Jt]
 |[x]=>simp[Jt]
 |x::y::l=>simp[Jt]
theorem ADY{α β:Type}:∀{l:List (α×β)},l.Pairwise (λa b=>a.1≠b.1)->∀x∈l,∀y∈l,x≠y->x.1≠y.1
 |[],_,x,i,_,_,_=>by simp at i
 |a::l,h,x,i,y,k,f=>by obtain⟨j,q⟩:=List.pairwise_cons.1 h;rcases A7.1 i with rfl|g;rcases A7.1 k with rfl|H;exact(f rfl).elim;exact j y H;rcases A7.1 k with rfl|H;exact λe=>j x g e.symm;exact ADY q x g y H f
theorem AeY(hs:Sound cf sg K)(W:cf.P.follows .mixedOrders=true)(hgof:∀f k,cf.gof f=some k->cf.fid k=f){hl:HL}{fn:Func}{s:Sg}{f:IF}{fi:FuncId}
  (Z:RR cf sg vt hl fn s=some f) (hfn:cf.P.funcs[fi]?=some fn) {ds rs:List D} (I:Body K f ds rs):H7 cf.P cf.fid fi s ds rs:=by
 intro w X args B hB hX hargs hfbc;unfold RR at Z;split at Z
 .simp at Z
 .rename_i code hcode;simp only[AW]at Z;obtain⟨T,hres,⟨st,hl2,nrm,exs⟩,htr,Z⟩:=Z;split at Z
  .rename_i hcond;obtain⟨c1,c2,c3,c4,c5,c6,c7,c8,c9,c10,c11⟩:=hcond;simp only[Ao,AV,List.contains_eq_mem,Aa]at c9;simp only[AL]at Z;subst Z;subst c6;obtain⟨⟨hdl,V⟩,hwp⟩:=I;obtain⟨l1,l2,bf,k1,k2,k3,k4⟩:=BU.fn hargs hB;let c:Cx:=⟨cf.P,cf.fid,w,(·∈B),X,cf.nt,(s.io++O7 s.fb).map λi=>(i,args.getD i undef),hX⟩;have hc:cf.Fits c:=⟨rfl,rfl,rfl,hgof,by
    intro x hx;obtain⟨i,hi,rfl⟩:=List.mem_map.1 hx;exact(c9 i hi).1,by
    intro m k cs V;rw[c11]at V;rw[V]at hfbc;obtain⟨b,hs,e,fz,q1,q2,q3,q4⟩:=hfbc;refine⟨b,hs,e,fz,λi=>args.getD i undef,?_,?_,q2,q3,q4⟩
    .refine List.mem_map.2 ⟨m,BF _ (by rw[V];simp[O7]),?_⟩;simp[Ap,q1]
    .intro t Z;exact List.mem_map.2 ⟨t,BF _ (by rw[V];simp[O7,Z]),rfl⟩⟩
   let a0:Act:={ tmps:=args.toArray++Array.replicate (fn.ntmps-args.toArray.size) undef,defers:=[] };let e0:Env:=ds++List.replicate (vt.length-s.ps.length) D.u;have he0:e0.length=vt.length:=by simp[e0];omega
   have pv:∀i t sh,vt[i]?=some (t,sh)->(2^s.ps.length-1).testBit i=true->i<s.ps.length/\t=i/\s.ps[i]?=some sh:=by
    intro i t sh L M;rw[ABA]at M;have hi:i<s.ps.length:=by simpa using M
    simp only[AJC,Ao]at c3;have:=c3 (s.ps[i],i) (List.mem_zipIdx_iff_getElem?.2 (by simp[hi]));simp only[beq_iff_eq]at this;rw[L]at this;simp only[AL,AJ]at this;exact⟨hi,this.1,by rw[this.2];simp[hi]⟩
   have getE:∀i,i<ds.length->e0.E i=ds.getD i .u:=by intro i hi;simp[Env.E,e0,Ap,DW hi]
   have H0:Holds c (·∈CN vt (2^s.ps.length-1)) e0.E a0 w:=by
    refine⟨⟨λi=>args.getD i undef,bf,?_,?_,?_,?_,?_,Ay.refl _ _,rfl,rfl,rfl,rfl,?_⟩,?fixed⟩
    case fixed=>
     intro x hx
     obtain⟨i,hi,rfl⟩:=List.mem_map.1 hx
     have hil:=(c9 i hi).2
     show(args.toArray++Array.replicate (fn.ntmps-args.toArray.size) undef)[i]?=_
     rw[Array.getElem?_append_left (by simp;omega)]
     simp[Ap,show i<args.length by omega]
    intro n sh hf;obtain⟨i,t,s',L,M,G⟩:=Dx.1 hf;rcases G with G|G;simp at G;injection G with O Q;subst O Q;obtain⟨q1,q2,q3⟩:=pv n t sh L M;rw[getE n (by omega)];have:=k1 n sh (ds.getD n .u) (args.getD n undef) q3 (by simp[Ap,show n<ds.length by omega]) (by simp[Ap,show n<args.length by omega]);refine AE.ext (Ay.refl (λ_=>False) _) (λ_ _ q=>q.elim) (λb _ I=>?_) _ _ _ _ (λ_ _ q=>q) this;obtain⟨m,r,W,hbm⟩:=I;obtain⟨i2,t2,s2,g1,g2,g3⟩:=Dx.1 W;rcases g3 with g3|g3;simp at g3;injection g3 with O Q;subst O Q;exact(k2 m (by have:=(pv m t2 r g1 g2).1;omega)).2 b hbm;intro n sh hf;obtain⟨i,t,s',L,M,G⟩:=Dx.1 hf;rcases G with G|G;simp at G;injection G with O Q;subst O Q;exact(k2 n (by have:=(pv n t sh L M).1;omega)).1;intro n sh hf b I;obtain⟨i,t,s',L,M,G⟩:=Dx.1 hf;rcases G with G|G;simp at G;injection G with O Q;subst O Q;exact .inr ((k2 n (by have:=(pv n t sh L M).1;omega)).2 b I);intro n sh m r hf hg hne b I hb2;obtain⟨i,t,s',L,M,G⟩:=Dx.1 hf;obtain⟨i2,t2,s2,g1,g2,g3⟩:=Dx.1 hg;rcases G with G|G;simp at G;rcases g3 with g3|g3;simp at g3;injection G with O Q;subst O Q;injection g3 with O Q;subst O Q;have p1:=(pv n t sh L M).1;have p2:=(pv m t2 r g1 g2).1;exact k3 n m (by omega) (by omega) hne b I hb2;intro t l hf;obtain⟨i,t',s',L,M,G⟩:=Dx.1 hf;rcases G with G|G;injection G with O Q;subst O Q;obtain⟨q1,q2,q3⟩:=pv i t s' L M;subst q2;refine⟨λ_=>?_,λq=>(q (by simp[Au])).elim⟩;show(args.toArray++Array.replicate (fn.ntmps-args.toArray.size) undef)[t]?=_;rw[Array.getElem?_append_left (by simp;omega)];simp[Ap,show t<args.length by omega];simp at G;show(args.toArray++Array.replicate (fn.ntmps-args.toArray.size) undef).size=cf.nt;simp;omega
   refine calls_of_wp hfn hcode ?_;refine GY hs hc W code hl _ _ _ _ _ htr _ e0 a0 w _ hwp he0 H0 ?_;rintro z e' a' w' hl' ⟨hz1,hz2⟩ ⟨L',hz,⟨vs,Bs,H⟩,hfix⟩;have hrL:(∃id,z=.ex id)\/rOK (T.map (·.1)++s.io) L':=by
    cases z with
    |n=>
     right
     have hz':nrm=some L':=hz
     simp only[hz',Z4]at c7
     exact λi hi=>Ao.1 c7 i hi
    |ex id=>exact .inl ⟨id,rfl⟩
    |r=>exact .inr hz
   rcases hrL with⟨id,rfl⟩|hrL
   .exact hz1.elim
   have hres2:=WH hres;simp only[AD9,AV,beq_iff_eq,Ao]at c4;obtain⟨J,Y⟩:∃J:List (Nat×Option Nat),J=T++s.io.map λi=>(i,none):=⟨_,rfl⟩;have hro1:T.map (·.1)++s.io=J.map (·.1):=by rw[Y];simp[List.map_map,Function.comp_def]
   rw[hro1]at c5 hrL;have hz2:rs=(T.map (·.1)++s.io).map e'.E:=hz2;rw[hro1]at hz2;rw[<-Y]at c4;have R:∀(j:Nat)(x:Nat×Option Nat),J[j]?=some x->∃t q q',vt[x.1]?=some (t,q)/\Po x.2 q=some q'/\s.outs[j]?=some q'/\Fact.en x.1 q∈CN vt L'/\Fact.sl t (.is x.1 [])∈CN vt L':=by
    intro j x N;have hL:=hrL x.1 (List.mem_map.2 ⟨x,List.mem_of_getElem? N,rfl⟩);have hjl:j<J.length:=by
     rcases BS j J.length with q|q
     .exact q
     .rw[Df q]at N;simp at N
    have hjq:s.outs[j]?=some (s.outs[j]'(by omega)):=by simp
    have:=c4.2 (x,s.outs[j]'(by omega)) (by rw[List.mem_iff_getElem?];exact⟨j,by simp[List.getElem?_zip_eq_some,N]⟩)
    cases hvi:vt[x.1]? with
    |none=>rw[hvi]at this;simp at this
    |some tq=>
     obtain⟨t,q⟩:=tq
     rw[hvi]at this
     simp only[Option.bind_some]at this
     exact⟨t,q,_,rfl,this,hjq,Dx.2 ⟨x.1,t,q,hvi,hL,.inr rfl⟩,Dx.2 ⟨x.1,t,q,hvi,hL,.inl rfl⟩⟩
   have hv:∀x,x∈J->∃q,Fact.en x.1 q∈CN vt L':=by intro x hi;obtain⟨j,N⟩:=List.mem_iff_getElem?.1 hi;obtain⟨t,q,_,_,_,_,G,_⟩:=R j x N;exact⟨q,G⟩
   let U:Nat×Option Nat->Value:=λx=>match x.2 with
   |none=>vs x.1
   |some _=>match vs x.1 with
    |.pointer (some ⟨b,_,_⟩)=>match w'.heap[b]? with
     |some (.cells cs _ _)=>.agg cs
     |_=>undef
    |_=>undef
   let C:Nat×Option Nat->List Nat:=λx=>match x.2 with
   |none=>Bs x.1
   |some _=>(Bs x.1).tail
   have hCB:∀x,∀b∈C x,b∈Bs x.1:=by
    intro x b I;obtain⟨i,k⟩:=x
    cases k with
    |none=>exact I
    |some n=>exact List.mem_of_mem_tail I
   have hroN:J.Nodup:=(List.pairwise_map.1 c5).imp λh e=>h (congrArg _ e);have hinj:∀x∈J,∀y∈J,x≠y->x.1≠y.1:=ADY (List.pairwise_map.1 c5);have hBn:(J.flatMap C).Nodup:=by
    have key:∀l:List (Nat×Option Nat),(∀x∈l,x∈J)->l.Nodup->(l.flatMap C).Nodup:=by
     intro l;induction l with
     |nil=>intro _ _;simp
     |cons x l ih=>
      intro W hn
      obtain⟨n1,n2⟩:=List.nodup_cons.1 hn
      simp only[List.flatMap_cons]
      obtain⟨s1,hs1⟩:=hv x (W x (List.mem_cons_self ..))
      refine List.nodup_append.2 ⟨?_,ih (λy hy=>W y (BN _ hy)) n2,λb I b' hb' e=>?_⟩
      .have h0:=H.nodup x.1 s1 hs1
       obtain⟨i,k⟩:=x
       cases k with
       |none=>exact h0
       |some n=>exact List.Nodup.sublist (List.tail_sublist _) h0
      .subst e
       obtain⟨y,hy,hb2⟩:=List.mem_flatMap.1 hb'
       obtain⟨s2,hs2⟩:=hv y (W y (BN _ hy))
       exact H.apart x.1 s1 y.1 s2 hs1 hs2 (hinj x (W x (List.mem_cons_self ..)) y (W y (BN _ hy)) (λe=>n1 (e▸hy))) b (hCB x b I) (hCB y b hb2)
    exact key J (λ_ h=>h) hroN
   have hio:s.io.map vs=s.io.map λi=>args.getD i undef:=by
    apply List.map_congr_left;intro i hi;have hmem:(i,none)∈J:=by rw[Y];exact BF _ (List.mem_map.2 ⟨i,hi,rfl⟩)
    obtain⟨j,N⟩:=List.mem_iff_getElem?.1 hmem;obtain⟨t,q,_,L,_,_,_,h4⟩:=R j _ N;obtain⟨_,rfl,_⟩:=pv i t q L (by rw[ABA];simpa using(c9 i (BX _ hi)).2);have O:=(H.loc t _ h4).1 (by simp[Au]);have Q:=hfix (t,args.getD t undef) (List.mem_map.2 ⟨t,BX _ hi,rfl⟩);rw[O]at Q;injection Q
   have cell:∀(j i n:Nat),J[j]?=some (i,some n)->∃q xs b cs e B',Fact.en i (.b q)∈CN vt L'/\s.outs[j]?=some (.a q)/\e'.E i=.g xs/\xs.length=n/\vs i=.pointer (some ⟨b,0,none⟩)/\w'.heap[b]?=some (.cells cs e (0,0))/\cs.size=n/\Bs i=b::B'/\
     AM (AE cf.fid w'.heap (OB (·∈CN vt L') Bs) X q) xs cs.toList B':=by
    intro j i n N
    obtain⟨t,q,q',L,M,G,h4,h5⟩:=R j _ N
    cases q with
    |b q=>
     simp only[Po,AL]at M
     subst M
     have hown:=H.own i _ h4
     simp only[AE]at hown
     obtain⟨xs,b,cs,e,fz,B',k1,k2,k3,k4,k5,k6,k7⟩:=hown
     have hfz:fz=(0,0):=k5
     subst hfz
     have hjr:T[j]?=some (i,some n):=by
      rw[Y]at N
      rcases BS j T.length with r|r
      rwa [DW r]at N
      rw[G7 r]at N
      simp only[List.getElem?_map,Ag,AJ]at N
      obtain⟨_,_,_,h⟩:=N
      cases h
     obtain⟨ys,z1,z2⟩:=AhS V hjr
     have hrs:rs[j]?=some (e'.E i):=by rw[hz2];simp[N]
     rw[hrs,k1]at z1
     injection z1 with z1
     injection z1 with z1
     subst z1
     exact⟨q,xs,b,cs,e,B',h4,G,k1,z2,k3,k4,by omega,k2,k7⟩
    |_=>simp[Po]at M
   have hUc:∀(i n:Nat)(b:Nat)(cs:Array Value)(e:TypeId),vs i=.pointer (some ⟨b,0,none⟩)->w'.heap[b]?=some (.cells cs e (0,0))->U (i,some n)=.agg cs:=by intro i n b cs e L M;simp only[U,L,M]
   have hEach:BU (AE cf.fid w'.heap (·∈J.flatMap C) X) s.outs rs (T.map U++s.io.map λi=>args.getD i undef) (J.flatMap C):=by
    have hmapU:T.map U++(s.io.map λi=>args.getD i undef)=J.map U:=by rw[Y,List.map_append,<-hio];simp[List.map_map,Function.comp_def,U]
    rw[hmapU,hz2,List.map_map];refine BU.of J s.outs c4.1 λj x q L M=>?_;have hO:∀b,b∈J.flatMap C->OB (·∈CN vt L') Bs b:=by intro b I;obtain⟨m,W,I⟩:=List.mem_flatMap.1 I;obtain⟨r,hr⟩:=hv m W;exact⟨m.1,r,hr,hCB m b I⟩
    obtain⟨i,k⟩:=x
    cases k with
    |none=>
     obtain⟨t,q0,q',_,G,h4,h5,_⟩:=R j _ L
     simp only[Po,AL]at G
     subst G
     rw[M]at h4;injection h4 with h4;subst h4
     exact AE.ext (Ay.refl (λ_=>False) _) (λ_ _ q=>q.elim) (λb _ I=>hO b I) _ _ _ _ (λ_ _ q=>q) (H.own i q h5)
    |some n=>
     obtain⟨q0,xs,b,cs,e,B',z1,z2,z3,z4,z5,z6,z7,z8,z9⟩:=cell j i n L
     rw[M]at z2;injection z2 with z2;subst z2
     rw[hUc i n b cs e z5 z6]
     show AE cf.fid w'.heap (·∈J.flatMap C) X (.a q0) (e'.E i) (.agg cs) (Bs i).tail
     rw[z3,z8]
     simp only[AE,List.tail_cons]
     refine⟨xs,cs,rfl,rfl,by omega,AM.imp (λd v B1 _ r=>?_) z9⟩
     exact AE.ext (Ay.refl (λ_=>False) _) (λ_ _ q=>q.elim) (λb _ I=>hO b I) _ _ _ _ (λ_ _ q=>q) r
   have hvals:∀(j:Nat)(v:Value),(T.map U)[j]?=some v->(∃t,fn.results.toList[j]?=some (ResultVar.tmp t)/\a'.tmps.getD t undef=v)\/∃t ty,fn.results.toList[j]?=some (ResultVar.cell t ty)/\(do loadVar ty (<-asAddr (a'.tmps.getD t undef)):Sem Value).run cf.P w'=.ok v w':=by
    intro j v N;simp only[List.getElem?_map,Ag]at N;obtain⟨x,hi,rfl⟩:=N;obtain⟨t,s1,L,h7⟩:=hres2.2 j x hi;have hj2:J[j]?=some x:=by rw[Y,DW];exact hi;rcases BS j T.length with q|q;exact q;rw[Df q]at hi;simp at hi
    obtain⟨t2,q,q',h1',_,_,_,h6⟩:=R j x hj2;rw[L]at h1';simp only[AL,AJ]at h1';obtain⟨rfl,rfl⟩:=h1';have hl:=(H.loc t _ h6).1 (by simp[Au]);have hg:a'.tmps.getD t undef=vs x.1:=by simp[C7,hl]
    rcases h7 with⟨h7,h8⟩|⟨n,ty,h7,h8,h9⟩;left;refine⟨t,h8,?_⟩;rw[hg];obtain⟨i,k⟩:=x;simp only at h7;subst h7;rfl;right;refine⟨t,ty,h9,?_⟩;obtain⟨i,k⟩:=x;simp only at h7;subst h7;obtain⟨q0,xs,b,cs,e,B',z1,z2,z3,z4,z5,z6,z7,z8,z9⟩:=cell j i n hj2;rw[hUc i n b cs e z5 z6,hg,z5];obtain⟨fs,inf,y1,y2,y3,_,_⟩:=L0 h8;have:=run_loadVar_row (P:=cf.P) w' b e ty cs (0,0) (.struct fs) z6 y1 rfl (by simp[y2,y3,z7])
    simpa[asAddr]using this
   have hrun:(results fn a'.tmps).run cf.P w'=.ok (if h:(T.map U).toArray.size=1 then(T.map U).toArray[0]else .tuple (T.map U).toArray) w':=by unfold results;rw[Sem.run_bind];have O:=AO9 (P:=cf.P) (w:=w') (tm:=a'.tmps) fn.results.toList (T.map U) (by simp[hres2.1]) hvals;rw[Array.mapM_eq_mapM_toList,Sem.run_map];erw [O];rfl
   have hQ:∃v,(results fn a'.tmps).run cf.P w'=.ok v w'/\∃v_1 vs_1 B',Ending.returned v=.returned v_1/\Jt v_1 vs_1/\vs_1.length=s.qs.length/\Ay (·∈B) w.heap w'.heap/\w'.os=w.os/\w'.tape=w.tape/\w'.output=w.output/\
     B'.Nodup/\(∀b∈B',b∈B\/w.heap.size<=b)/\BU (AE cf.fid w'.heap (·∈B') X) s.outs rs (vs_1++s.io.map λi=>args.getD i undef) B':=by
    refine⟨_,hrun,_,T.map U,J.flatMap C,rfl,?_,by simp[c10],H.agr,H.os,H.tape,H.output,hBn,?_,hEach⟩
    .exact Ai3 _
    .intro b I
     obtain⟨m,W,I⟩:=List.mem_flatMap.1 I
     obtain⟨r,hr⟩:=hv m W
     exact(H.mine m.1 r hr b (hCB m b I)).symm
   cases z with
   |n=>exact⟨H.defers,hQ⟩
   |ex id=>exact hz1.elim
   |r=>exact⟨H.defers,hQ⟩
  .simp at Z
end
end Go.Cat
namespace Go.Cat
section
variable(cf:CF)(sg:Nat->Option Sg)
def ACB(ops:Array Oper)(st:List Fact)(AA:Nat)(o:Oper)(k:Nat):Option (It×Sm):=
 (Pa ops st o.guard).bind λg=>(SJ cf sg st AA o g.1 k).map λps=>(⟨skZ sg g.1 ps.1,g.1,ps.1⟩,TR k ps.2)
def qIt(ops:Array Oper)(st:List Fact)(AA:Nat)(o:Oper)(k:Nat):Option (It×Sm):=
 if 2000000<=k then(ACB cf sg ops st AA o 0).bind λq=>(NF (Ii st o.dst q.2) AA (k-2000000)).map λps=>
   (⟨[],[],ps.1⟩,⟨[],q.2.kill++ps.2.kill,ps.2.adds++q.2.adds.filter (Ew none ps.2.kill)⟩)
 else ACB cf sg ops st AA o k
def Tk:List Fact->Nat->List Nat->Option (List It×List Fact×Nat×List Nat)
 |st,AA,[]=>some ([],st,AA,[])
 |st,AA,k::h=>if 100000<=k then(NF st AA k).bind λps=>
   (Tk (Ii st none ps.2) (AA+ps.1.np) h).map λr=>(⟨[],[],ps.1⟩::r.1,r.2)
  else some ([],st,AA,k::h)
def YR(g:Bool)(ops:Array Oper):List Oper->List Fact->Nat->List Nat->Option (List It×List Fact×Nat)
 |[],st,AA,h=>if g then(Tk st AA h).map λr=>(r.1,r.2.1,r.2.2.1)else some ([],st,AA)
 |o::os,st,AA,h=>(if g then Tk st AA h else some ([],st,AA,h)).bind λr=>(qIt cf sg ops r.2.1 r.2.2.1 o (r.2.2.2.headD 0)).bind λq=>
   (YR g ops os (Ii r.2.1 o.dst q.2) (r.2.2.1+q.1.p.np) r.2.2.2.tail).map λ(z:List It×List Fact×Nat)=>(r.1++q.1::z.1,z.2)
def Yp(st:List Fact)(mask:Nat):Nat->VT->List (Option Nat)
 |_,[]=>[]
 |i,(t,_)::r=>(if mask.testBit i then match CD st t with
   |some (.is n _)=>some n
   |_=>none
  else none)::Yp st mask (i+1) r
def ABP:List (Bool×Array Oper×List Nat)->List Fact->Nat->Option (List It×List Fact×Nat)
 |[],st,AA=>some ([],st,AA)
 |x::l,st,AA=>match YR cf sg x.1 x.2.1 x.2.1.toList st AA x.2.2 with
  |some (a,b,c)=>match ABP l b c with
   |some (e,y)=>some (a++e,y)
   |none=>none
  |none=>none
def XU(vt:VT)(l:List (Bool×Array Oper×List Nat))(L mask:Nat):Option S:=
 (ABP cf sg l (CN vt L) vt.length).map λr=>.reg r.1 (Yp r.2.1 mask 0 vt)
def qPro(vt:VT)(ops:Array Oper)(L:Nat)(h:Nat×List Nat):Option S:=
 (match h.2 with
  |k::_=>if 500000<=k/\k<600000 then Tk (CN vt L) vt.length h.2 else some ([],CN vt L,vt.length,h.2)
  |[]=>some ([],CN vt L,vt.length,[])).bind λp=>(YR cf sg false ops ops.toList p.2.1 p.2.2.1 p.2.2.2).map λ(r:List It×List Fact×Nat)=>.reg (p.1++r.1) (Yp r.2.1 h.1 0 vt)
variable(vt:VT)
def qS(m:Bool):Code->HL->Nat->Tr
 |.skip,H,L=>some (.skip,H,some L,[])
 |.region _ ops _,h::H,L=>(if m then some .skip else if ADO h=true then XU cf sg vt [(true,ops,h.2.tail)] L h.1
   else qPro cf sg vt ops L h).map λs=>(s,H,some h.1,[])
 |.seq a b,H,L=>if APE H=true then match a,b,H with
  |.region _ O false,.seq (.region _ k false) (.seq (.region _ I false) (.seq (.region _ J false) (.seq (.region _ M false) (.seq (.region _ N false) d)))),g::f::B::C::G::j::e=>
   (if m then some .skip else XU cf sg vt [(true,O,g.2.tail),(true,k,f.2),(true,I,B.2),(true,J,C.2),(true,M,G.2),(true,N,j.2)] L j.1).bind λs=>(qS m d e j.1).map λq=>(.seq s q.1,q.2.1,q.2.2.1,q.2.2.2)
  |.region _ O false,.seq (.region _ k false) d,g::f::e=>(if m then some .skip else XU cf sg vt [(false,O,g.2.tail),(false,k,f.2)] L f.1).bind λs=>(qS m d e f.1).map λq=>(.seq s q.1,q.2.1,q.2.2.1,q.2.2.2)
  |_,_,_=>none
  else(qS m a H L).bind λr=>match r.2.2.1 with
  |none=>some (.seq r.1 .skip,r.2.1,none,r.2.2.2)
  |some l=>(qS m b r.2.1 l).map λq=>(.seq r.1 q.1,q.2.1,q.2.2.1,r.2.2.2++q.2.2.2)
 |.cond (.tmp t) x y,H,L=>(idxOf vt t).bind λi=>
  if NN t x y=true then(qS m y H (L ^^^ 2^i)).map λq=>(.cond i (L9 vt.length L i true) q.1,q.2.1,Fi (some L) q.2.2.1,q.2.2.2)
  else if NN t y x=true then(qS m x H (L ^^^ 2^i)).map λr=>(.cond i r.1 (L9 vt.length L i false),r.2.1,Fi r.2.2.1 (some L),r.2.2.2)
  else(qS m x H (L ^^^ 2^i)).bind λr=>(qS m y r.2.1 (L ^^^ 2^i)).map λq=>(.cond i r.1 q.1,q.2.1,Fi r.2.2.1 q.2.2.1,r.2.2.2++q.2.2.2)
 |.cond (.const (.bool b)) x y,H,L=>(qS m x H L).bind λr=>(qS m y r.2.1 L).map λq=>if b=true then(r.1,q.2.1,r.2.2.1,r.2.2.2)else(q.1,q.2.1,q.2.2.1,q.2.2.2)
 |.block id b,H,L=>(qS m b H L).map λr=>
  (.block id r.1,r.2.1,(r.2.2.2.filter (λx=>x.1==id)).foldl (λo x=>LX o x.2) r.2.2.1,r.2.2.2.filter (λx=>x.1 != id))
 |.loop b,H,L=>(Ns (qS true b) H 5 L).bind λr=>if m then some (.loop r.2.1,r.2.2.1,none,r.2.2.2)else(qS false b H r.1).map λq=>(.loop q.1,q.2.1,none,q.2.2.2)
 |.exit id,H,L=>some (.exit id,H,none,[(id,L)])
 |.ret,H,L=>some (.ret,H,none,[])
 |_,_,_=>none
end
def qF(cf:CF)(sg:Nat->Option Sg)(vt:VT)(h:HL)(fn:Func)(s:Sg):Option IF:=
 match fn.body with
 |none=>none
 |some code=>(Kd cf.P vt fn.results.toList).bind λx=>(qS cf sg vt false code h (2^s.ps.length-1)).map λr=>
   ⟨Tc x,s.ps.length,vt.length,x.map (·.1)++s.io,r.1⟩
end Go.Cat
namespace Go.Cat
structure Row where
 k:Nat
 f:Nat
 s:Sg
def rowOf(tab:List Row)(k:Nat):Option Row:=tab.find? λr=>r.k==k
def Gk(tab:List Row)(k:Nat):Nat:=match rowOf tab k with|some r=>r.f|none=>0
def ARO(tab:List Row)(f:Nat):Option Nat:=(tab.find? λr=>r.f==f).map (·.k)
def NC(tab:List Row)(k:Nat):Option Sg:=(rowOf tab k).map (·.s)
def WO(P:Program)(f:Nat):Bool:=match P.funcs[f]? with
 | some fn => fn.body.isSome && fn.name != "runtime.NumGoroutine"
 |none=>false
def Pb(P:Program)(tab:List Row):Bool:=tab.all λr=>(Gk tab r.k==r.f)&&WO P r.f
def LA(P:Program)(tab:List Row)(nt:Nat)(io:List Nat:=[])(fb:Option (Nat×Nat×List Nat):=none):CF:=⟨P,Gk tab,ARO tab,nt,io++O7 fb,fb⟩
def KS(P:Program)(tab:List Row):Nat->List D->List D->Prop:=λk b rs=>∃r,rowOf tab k=some r/\H7 P (Gk tab) r.f r.s b rs
theorem enters{P:Program}{f:Nat}(h:WO P f=true)(args:Array Value)(w:World):(callFunc f args).run P w=.ok (.enter f args) w:=by unfold WO at h;split at h;rename_i fn H;simp only[AV,bne_iff_ne]at h;unfold callFunc;rw[Sem.run_bind];simp only[run_program,Result.andThen,H];rw[if_neg (by simpa using h.2),if_neg (by cases b:fn.body<;>simp[b]at h|-)];rfl;simp at h
theorem AUY{tab:List Row}{k:Nat}{r:Row}(h:rowOf tab k=some r):r∈tab/\r.k=k:=by refine⟨List.mem_of_find?_eq_some h,?_⟩;have:=List.find?_some h;simpa using this
theorem KS.sound{P:Program}{tab:List Row}{nt:Nat}{io:List Nat}{fb:Option (Nat×Nat×List Nat)}(h:Pb P tab=true):Sound (LA P tab nt io fb) (NC tab) (KS P tab):=by
 simp only[Pb,Ao,AV]at h;constructor;rintro k e rs s ⟨r,H,g⟩ b;simp only[NC,H,Option.map_some,AL]at b;subst b;show H7 P (Gk tab) (Gk tab k) r.s e rs;simp only[Gk,H];exact g;intro k s b args w;simp only[NC,Ag]at b;obtain⟨r,H,_⟩:=b;show(callFunc (Gk tab k) args).run P w=_;have:Gk tab k=r.f:=by simp only[Gk,H]
 rw[show(LA P tab nt io fb).fid k=r.f from this,show Gk tab k=r.f from this];exact enters (h r (AUY H).1).2 args w
theorem KS.AXR{P:Program}{tab:List Row}(h:Pb P tab=true)(G:P.follows .mixedOrders=true){k nt:Nat}{io:List Nat}{fb:Option (Nat×Nat×List Nat)}{r:Row}{vt:VT}{C:HL}{fn:Func}{f:IF}(I:rowOf tab k=some r)
  (J:RR (LA P tab nt io fb) (NC tab) vt C fn r.s=some f) (H:P.funcs[r.f]?=some fn) {b rs:List D} (B:Body (KS P tab) f b rs):KS P tab k b rs:=by
 refine⟨r,I,AeY (cf:=LA P tab nt io fb) (KS.sound h) G ?_ J H B⟩;intro g j e;simp only[LA,ARO,Ag]at e;obtain⟨x,i,rfl⟩:=e;have l:=List.mem_of_find?_eq_some i;have q:x.f=g:=by simpa using List.find?_some i
 simp only[Pb,Ao,AV]at h;have:=(h x l).1;show Gk tab x.k=g;rw[<-q];simpa using this
end Go.Cat
namespace Go.Cat
def IS{α:Type}(n:Nat)(k:Nat->α):α:=match n with
 |0=>k 0
 |m+1=>k (m+1)
theorem MB{α:Type}(n:Nat)(k:Nat->α):IS n k=k n:=by cases n<;>rfl
def PT{α:Type}(n:Int)(k:Int->α):α:=match n with
 |.ofNat m=>IS m λm=>k (.ofNat m)
 |.negSucc m=>IS m λm=>k (.negSucc m)
theorem AAC{α:Type}(n:Int)(k:Int->α):PT n k=k n:=by cases n<;>simp[PT,MB]
def S6{α:Type}(b:Bool)(k:Bool->α):α:=match b with
 |true=>k true
 |false=>k false
theorem ASO{α:Type}(b:Bool)(k:Bool->α):S6 b k=k b:=by cases b<;>rfl
noncomputable def RH{α:Type}(l:List Nat):(List Nat->α)->α:=
 List.rec (motive:=λ_=>(List Nat->α)->α) (λk=>k []) (λn _ i k=>IS n λn=>i λl=>k (n::l)) l
theorem ARZ{α:Type}:∀(l:List Nat)(k:List Nat->α),RH l k=k l
 |[],_=>rfl
 |n::l,k=>by show IS n (λn=>RH l λl=>k (n::l))=_;rw[MB,ARZ l]
noncomputable def fD{α:Type}(d:D):(D->α)->α:=
 D.rec (motive_1:=λ_=>(D->α)->α) (motive_2:=λ_=>(List D->α)->α)
  (λk=>k .u) (λq n k=>PT n λn=>k (.i q n)) (λx k=>S6 x λx=>k (.b x)) (λx k=>RH x λx=>k (.s x))
  (λ_ h k=>h λxs=>k (.l xs)) (λ_ h k=>h λxs=>k (.g xs)) (λk=>k .z) (λ_ h k=>h λxs=>k (.p xs)) (λn _ h k=>h λxs=>k (.f n xs))
  (λk=>k []) (λ_ _ I e k=>I λd=>e λl=>k (d::l)) d
mutual
theorem VL{α:Type}:∀(d:D)(k:D->α),fD d k=k d
 |.u,k=>rfl
 |.i q n,k=>(AAC n λn=>k (.i q n) :)
 |.b x,k=>(ASO x λx=>k (.b x) :)
 |.s x,k=>(ARZ x λx=>k (.s x) :)
 |.l xs,k=>Pl xs _
 |.g xs,k=>Pl xs _
 |.z,k=>rfl
 |.p xs,k=>Pl xs _
 |.f n xs,k=>Pl xs _
theorem Pl{α:Type}:∀(l:List D)(k:List D->α),(D.rec_1 (motive_1:=λ_=>(D->α)->α) (motive_2:=λ_=>(List D->α)->α)
  (λk=>k .u) (λq n k=>PT n λn=>k (.i q n)) (λx k=>S6 x λx=>k (.b x)) (λx k=>RH x λx=>k (.s x))
  (λ_ h k=>h λxs=>k (.l xs)) (λ_ h k=>h λxs=>k (.g xs)) (λk=>k .z) (λ_ h k=>h λxs=>k (.p xs)) (λn _ h k=>h λxs=>k (.f n xs))
  (λk=>k []) (λ_ _ I e k=>I λd=>e λl=>k (d::l)) l:(List D->α)->α) k=k l
 |[],k=>rfl
 |d::l,k=>(VL d _).trans (Pl l _)
end
def fV{α:Type}(d:D)(k:D->α):α:=match d with
 |.u=>k .u
 |.i q n=>k (.i q n)
 |.b x=>k (.b x)
 |.s x=>k (.s x)
 |.l xs=>k (.l xs)
 |.g xs=>k (.g xs)
 |.z=>k .z
 |.p xs=>k (.p xs)
 |.f n xs=>k (.f n xs)
theorem AP9{α:Type}(d:D)(k:D->α):fV d k=k d:=by cases d<;>rfl
noncomputable def IW{α:Type}(l:List D):(List D->α)->α:=
 List.rec (motive:=λ_=>(List D->α)->α) (λk=>k []) (λd _ i k=>fV d λd=>i λl=>k (d::l)) l
theorem Ob{α:Type}:∀(l:List D)(k:List D->α),IW l k=k l
 |[],k=>rfl
 |d::l,k=>(AP9 d λd=>IW l λl=>k (d::l)).trans (Ob l λl=>k (d::l))
noncomputable def fT{α:Type}(d:D)(k:D->α):α:=match d with
 |.i q n=>PT n λn=>k (.i q n)
 |.b x=>S6 x λx=>k (.b x)
 |.l xs=>IW xs λxs=>k (.l xs)
 |d=>fD d k
theorem AaP{α:Type}(d:D)(k:D->α):fT d k=k d:=by unfold fT;split;exact AAC _ _;exact ASO _ _;exact Ob _ _;exact VL _ _
def deep:Pr->Bool
 |.up _ [_] _=>false
 |.up _ _ _=>true
 |.mk _ _ _=>true
 |_=>false
theorem AY5{n:Int}(h:-9223372036854775808<=n)(H:n<=9223372036854775807):IntKind.wrap .i64 n=n:=by simp[IntKind.wrap,IntKind.bits,IntKind.signed]at*;omega
def MF(k:IntKind)(n:Int):Int:=match k,n with
 |.i64,.ofNat m=>if Nat.ble m 9223372036854775807 then .ofNat m else IntKind.wrap .i64 (.ofNat m)
 |.i64,.negSucc m=>if Nat.ble m 9223372036854775807 then .negSucc m else IntKind.wrap .i64 (.negSucc m)
 |.u8,.ofNat m=>.ofNat (Nat.mod m 256)
 |k,n=>k.wrap n
theorem AL5(k:IntKind)(n:Int):MF k n=k.wrap n:=by unfold MF;split;split;rename_i m h;have:=Nat.le_of_ble_eq_true h;simp[IntKind.wrap,IntKind.bits,IntKind.signed];omega;rfl;split;rename_i m h;have:=Nat.le_of_ble_eq_true h;exact(AY5 (by omega) (by omega)).symm;rfl;rename_i m;show((m%256:Nat):Int)=_;unfold IntKind.wrap;simp only[IntKind.bits,IntKind.signed];simp;rfl
def Nd:Int->Int->Bool
 |.ofNat a,.ofNat b=>Nat.ble a b
 |.negSucc _,.ofNat _=>true
 |.ofNat _,.negSucc _=>false
 |.negSucc a,.negSucc b=>Nat.ble b a
theorem AfY(a b:Int):Nd a b=decide (a<=b):=by unfold Nd;split;rw[Bool.eq_iff_iff];simp[Nat.ble_eq];rw[Bool.eq_iff_iff];simp;omega;rw[Bool.eq_iff_iff];simp;omega;rw[Bool.eq_iff_iff];simp[Nat.ble_eq];omega
def MJ:Int->Int->Bool
 |.ofNat a,.ofNat b=>Nat.beq a b
 |.negSucc a,.negSucc b=>Nat.beq a b
 |_,_=>false
theorem QX(a b:Int):MJ a b=(a==b):=by
 unfold MJ;split;rw[Bool.eq_iff_iff];simp[Nat.beq_eq];omega;rw[Bool.eq_iff_iff];simp[Nat.beq_eq];rename_i H e;rw[Bool.eq_iff_iff];constructor;simp;intro h;have:a=b:=by simpa using h
 subst this
 cases a with
 |ofNat n=>exact(H n n rfl rfl).elim
 |negSucc n=>exact(e n n rfl rfl).elim
def Wb:Int->Int->Int
 |.ofNat a,.ofNat b=>.ofNat (Nat.add a b)
 |a,b=>Int.add a b
theorem AXJ(a b:Int):Wb a b=a+b:=by unfold Wb;split<;>rfl
def YP:Int->Int->Int
 |.ofNat a,.ofNat b=>.ofNat (Nat.mul a b)
 |a,b=>Int.mul a b
theorem AV6(a b:Int):YP a b=a*b:=by unfold YP;split<;>rfl
def Vf(O:BinOp)(k:IntKind)(a b:Int):Option D:=
 match O with
 |.add=>some (.i k (MF k (Wb a b)))
 |.sub=>some (.i k (MF k (Int.sub a b)))
 |.mul=>some (.i k (MF k (YP a b)))
 |.quo=>bif MJ b (.ofNat 0)then none else some (.i k (MF k (Int.tdiv a b)))
 |.rem=>bif MJ b (.ofNat 0)then none else some (.i k (Int.tmod a b))
 |.eql=>some (.b (MJ a b))
 |.neq=>some (.b (!MJ a b))
 |.lss=>some (.b (!Nd b a))
 |.leq=>some (.b (Nd a b))
 |.gtr=>some (.b (!Nd a b))
 |.geq=>some (.b (Nd b a))
 |O=>F0 O k a b
theorem AkR(O:BinOp)(k:IntKind)(a b:Int):Vf O k a b=F0 O k a b:=by
 have s:Int.sub a b=a-b:=rfl;have H:MJ b (.ofNat 0)=decide (b=0):=by rw[QX];rw[Bool.eq_iff_iff];simp
 unfold Vf;split<;>simp only[F0,AL5,AXJ,AV6,s,AfY,QX];rw[<-QX,H];by_cases h:b=0<;>simp[h];rw[<-QX,H];by_cases h:b=0<;>simp[h];simp[bne];simp only[AL,D.b.injEq];rw[Bool.eq_iff_iff];simp;simp only[AL,D.b.injEq];rw[Bool.eq_iff_iff];simp
def VO:IntKind->IntKind->Bool
 |.i64,.i64=>true
 |.u8,.u8=>true
 |a,b=>decide (a=b)
theorem AS8(a b:IntKind):VO a b=decide (a=b):=by unfold VO;split<;>simp
noncomputable def at_(n:Nat)(l:List D):D:=List.rec (motive:=λ_=>Nat->D) (λ_=>.u) (λd _ i n=>Nat.rec (motive:=λ_=>D) d (λm _=>i m) n) l n
theorem RS:∀(n:Nat)(l:List D),at_ n l=l.getD n .u
 |n,[]=>by cases n<;>rfl
 |0,d::_=>rfl
 |n+1,_::l=>(RS n l).trans rfl
noncomputable def look(r:List D)(c n:Nat):D:=bif Nat.ble c n then .u else at_ (Nat.pred (Nat.sub c n)) r
theorem look_eq{r:List D}{c:Nat}(h:r.length=c)(n:Nat):look r c n=(r.reverse).getD n .u:=by
 unfold look
 cases b:Nat.ble c n with
 |true=>
  have:=Nat.le_of_ble_eq_true b
  rw[cond_true,Ap,Df (by simp;omega)];rfl
 |false=>
  have:¬c<=n:=λh=>by rw[show Nat.ble c n=true by simpa using h]at b;cases b
  rw[cond_false,RS,Ap,Ap,List.getElem?_reverse (by omega)]
  congr 2
  show c-n-1=_
  omega
section
variable(F:Nat->List D->Option (List D))
def X7:Bool->Bool->Bool
 |true,b=>b
 |false,true=>false
 |false,false=>true
noncomputable def evG(E:Nat->D)(l:List (Nat×Bool)):Option Bool:=
 List.rec (motive:=λ_=>Option Bool) (some true) (λx _ i=>match E x.1 with
  |.b y=>bif X7 y x.2 then i else some false
  |_=>none) l
theorem AIZ(E:Nat->D):∀(l:List (Nat×Bool)),evG E l=Cq E l
 |[]=>rfl
 |(n,want)::r=>by
  show(match E n with|.b y=>bif X7 y want then evG E r else some false|_=>none)=_;simp only[Cq];split;rename_i x h;rw[h]
  cases x<;>cases want<;>simp[AIZ E r,X7];rename_i h;split;rename_i x H;exact absurd H (h x);rfl
noncomputable def nth(l:List D)(n:Nat):Option D:=List.rec (motive:=λ_=>Nat->Option D) (λ_=>none) (λd _ i n=>Nat.rec (motive:=λ_=>Option D) (some d) (λm _=>i m) n) l n
theorem SG:∀(l:List D)(n:Nat),nth l n=l[n]?
 |[],n=>rfl
 |d::l,0=>rfl
 |d::l,n+1=>(SG l n).trans (by simp)
noncomputable def Ky(l:List D)(n:Nat)(x:D):List D:=List.rec (motive:=λ_=>Nat->List D) (λ_=>[]) (λd l i n=>Nat.rec (motive:=λ_=>List D) (x::l) (λm _=>d::i m) n) l n
theorem SU(x:D):∀(l:List D)(n:Nat),Ky l n x=l.set n x
 |[],n=>rfl
 |d::l,0=>rfl
 |d::l,n+1=>(congrArg (d::·) (SU x l n)).trans (by simp)
def AH3:D->Option Nat
 |.i _ (.ofNat m)=>some m
 |_=>none
noncomputable def T9(d i:D):Option D:=match d,AH3 i with
 |.l xs,some m=>(nth xs m).bind known
 |_,_=>none
theorem AKO(d i:D):T9 d i=EN d i:=by
 unfold T9 EN AH3
 cases d<;>cases i<;>try rfl
 rename_i xs k n
 cases n with
 |ofNat m=>simp[SG]
 |negSucc m=>simp
noncomputable def evQ(E:Nat->D):Pr->Option D
 |.bi O a b=>match ev E a,ev E b with
  |.i k a,.i e b=>match O with
   |.shl=>CR .shl (.i k a) (.i e b)
   |.shr=>CR .shr (.i k a) (.i e b)
   |O=>bif VO k e then Vf O k a b else none
  |a,b=>CR O a b
 |.cv k a=>match ev E a with
  |.i _ n=>some (.i k (MF k n))
  |_=>none
 |.ix a [] i=>T9 (ev E a) (ev E i)
 |.iy a i=>(T9 (ev E a) (ev E i)).bind Gx
 |.up n [P] a=>bif (ev E a).one then(PE.ev E P).bind λi=>match E n with
   |.l xs=>(nth xs i).bind λ_=>some (.l (Ky xs i (ev E a)))
   |.g xs=>(nth xs i).bind λ_=>some (.g (Ky xs i (ev E a)))
   |_=>none
  else none
 |p=>AY E p
theorem AhH(E:Nat->D)(p:Pr):evQ E p=AY E p:=by
 unfold evQ;split;rename_i O a b;simp only[AY];split;rename_i k x s y e f;rw[e,f];split;rfl;rfl;rename_i B C;rw[AS8];simp only[CR];by_cases j:k=s<;>simp[j,AkR];rfl;rename_i k a;simp only[AY];split;rename_i h;rw[h,AL5];rename_i h;split;rename_i n q;exact absurd q (h _ _);rfl;rename_i a i;simp[AY,E9,Aq,AKO];simp only[AY,AKO];rename_i n P a;simp only[AY,List.mapM_cons,List.mapM_nil,Option.bind_eq_bind,Option.pure_def]
 cases(ev E a).one with
 |false=>simp
 |true=>
  simp only[cond_true,if_true]
  cases PE.ev E P with
  |none=>simp
  |some i=>
   simp only[Option.bind_some]
   split
   .rename_i xs h
    rw[h]
    simp only[Aw,SG,SU]
    cases xs[i]?<;>simp
   .rename_i xs h
    rw[h]
    simp only[Aw,SG,SU]
    cases xs[i]?<;>simp
   .rename_i h H
    cases hE:E n with
    |l xs=>exact absurd hE (h xs)
    |g xs=>exact absurd hE (H xs)
    |_=>simp[Aw]
 rfl
noncomputable def Pt(l:List D):List D->List D:=List.rec (motive:=λ_=>List D->List D) (λr=>r) (λd _ i r=>i (d::r)) l
theorem Ma:∀(l r:List D),Pt l r=l.reverse++r
 |[],r=>rfl
 |d::l,r=>(Ma l (d::r)).trans (by simp)
noncomputable def us(n:Nat):List D->List D:=Nat.rec (motive:=λ_=>List D->List D) (λr=>r) (λ_ i r=>i (.u::r)) n
theorem WL:∀(n:Nat)(r:List D),us n r=List.replicate n .u++r
 |0,r=>rfl
 |n+1,r=>(WL n (.u::r)).trans (by
  rw[List.replicate_succ']
  simp)
noncomputable def P3(l:List D):Nat->Nat:=List.rec (motive:=λ_=>Nat->Nat) (λn=>n) (λ_ _ i n=>i (n+1)) l
theorem Wd:∀(l:List D)(n:Nat),P3 l n=l.length+n
 |[],n=>by simp[P3]
 |_::l,n=>(Wd l (n+1)).trans (by simp;omega)
noncomputable def AQ0(E:Nat->D)(l:List A):List D:=List.rec (motive:=λ_=>List D) [] (λa _ i=>ev E a::i) l
theorem AKS(E:Nat->D):∀(l:List A),AQ0 E l=l.map (ev E)
 |[]=>rfl
 |a::l=>congrArg (ev E a::·) (AKS E l)
noncomputable def Ya{α:Type}(it:It)(r:List D)(c:Nat)(k:List D->Nat->Option α):Option α:=
 match evG (look r c) it.g with
 |some true=>match it.p with
  |.nop=>k r c
  |.ca g xs m=>IW (AQ0 (look r c) xs) λs=>(F g s).bind λrs=>bif Nat.beq (P3 rs 0) m then IS (Nat.add c m) λC=>k (Pt rs r) C else none
  |.cd ..=>none
  |.sp ..=>none
  |.sw ..=>none
  |.mo ..=>none
  |.tk n=>(Le (look r c n)).bind λd=>fV d λd=>IS (Nat.succ (Nat.succ c)) λC=>k (.g [.u]::d::r) C
  |p=>(evQ (look r c) p).bind λd=>(bif deep p then fD d else fT d) λd=>IS (Nat.succ c) λC=>k (d::r) C
 |some false=>IS (Nat.add c it.p.np) λC=>(match it.z with|[]=>k (us it.p.np r) C|z=>k (Pt (DC (look r c) z it.p.np) r) C)
 |none=>none
noncomputable def UF{α:Type}(i:List It)(r:List D)(c:Nat)(k:List D->Nat->Option α):Option α:=
 List.rec (motive:=λ_=>List D->Nat->Option α) k (λit _ h r c=>Ya F it r c h) i r c
noncomputable def WK(E:Nat->D)(l:List (Option Nat)):List D:=List.rec (motive:=λ_=>List D) [] (λx _ i=>(match x with|some n=>E n|none=>.u)::i) l
theorem Uw(e:Env):∀(l:List (Option Nat)),WK e.E l=ER l e
 |[]=>rfl
 |some n::l=>congrArg (e.E n::·) (Uw e l)
 |none::l=>congrArg (D.u::·) (Uw e l)
noncomputable def Ox(R:Env->Option (X×Env))(n:Nat):Env->Option (X×Env):=
 Nat.rec (motive:=λ_=>Env->Option (X×Env)) (λ_=>none) (λ_ i e=>(R e).bind λr=>match r with
  |(.n,b)=>i b
  |r=>some r) n
noncomputable def F9(n:Nat)(s:S):Env->Option (X×Env):=
 S.rec (motive:=λ_=>Env->Option (X×Env)) (λe=>some (.n,e))
  (λI out e=>IS (P3 e 0) λc=>UF F I (Pt e []) c λr c=>IW (WK (look r c) out) λg=>some (.n,g))
  (λ_ _ ia i e=>(ia e).bind λr=>match r with
   |(.n,f)=>i f
   |r=>some r)
  (λc _ _ ix iy e=>match at_ c e with
   |.b true=>IW (Ky e c .u) λe=>ix e
   |.b false=>IW (Ky e c .u) λe=>iy e
   |_=>none)
  (λid _ i e=>(i e).bind λr=>match r with
   |(.ex j,f)=>bif Nat.beq j id then some (.n,f)else some (.ex j,f)
   |r=>some r)
  (λ_ i e=>Ox i n e)
  (λid e=>some (.ex id,e)) (λe=>some (.r,e)) s
end
variable{F:Nat->List D->Option (List D)}{K:Nat->List D->List D->Prop}
theorem YD{E:Nat->D}:∀(n:Nat),DC E [] n=List.replicate n .u
 |0=>rfl
 |n+1=>by rw[DC,YD n];rfl
theorem AeC{α:Type}(U:∀g s rs,F g s=some rs->K g s rs){it:It}{r:List D}{c:Nat}{k:List D->Nat->Option α}{x:α}(e:r.length=c){Q:Env->Prop}(h:Ya F it r c k=some x)
  (q:∀R C,R.length=C->k R C=some x->Q R.reverse):Iv K it r.reverse Q:=by
 have T:look r c=Env.E r.reverse:=funext λn=>look_eq e n;unfold Ya at h;unfold Iv;rw[T,AIZ]at h;split at h
 .rename_i l;rw[l];split at h
  .rename_i H;rw[H];exact q _ _ e h
  .rename_i g xs m H;rw[H];simp only[Ob,AW,AKS,MB,Wd]at h;obtain⟨rs,f,b⟩:=h
   cases i:Nat.beq (rs.length+0) m with
   |false=>rw[i,cond_false]at b;cases b
   |true=>
    rw[i,cond_true]at b
    have B:rs.length=m:=by simpa using Nat.eq_of_beq_eq_true i
    refine⟨rs,U _ _ _ f,B,?_⟩
    have:=q _ _ ?_ b
    .rw[Ma]at this;simpa using this
    .rw[Ma];simp only[A4,List.length_reverse,B,e];show _=c+m;omega
  .cases h
  .cases h
  .cases h
  .cases h
  .rename_i n H;rw[H];simp only[AW,AP9,MB]at h;obtain⟨d,f,b⟩:=h;have:=q _ _ (by simp[e]) b;show match Le (Env.E r.reverse n)with|some d=>Q (r.reverse++[d,.g [.u]])|none=>False;rw[f];simpa using this
  .rename_i p f b L N O P M;have j:∀(d:D)(k:D->Option α),(bif deep it.p then fD d else fT d) k=k d:=λd k=>by cases deep it.p<;>simp[VL,AaP]
   simp only[AW,j,MB,AhH]at h;obtain⟨d,I,J⟩:=h;have:=q _ _ (by simp[e]) J;show Ad K it.p r.reverse Q;unfold Ad;split
   .rename_i H;exact(f H).elim
   .rename_i H;exact(b _ _ _ H).elim
   .rename_i H;exact(L _ _ _ _ H).elim
   .rename_i H;exact(M _ H).elim
   .rename_i H;exact(N _ _ _ H).elim
   .rename_i H;exact(O _ H).elim
   .rename_i H;exact(P _ _ _ H).elim
   .rw[I];simpa using this
 .rename_i l;rw[l];simp only[MB]at h;split at h
  .rename_i G;have:=q _ _ ?_ h
   .rw[G,YD];rw[WL]at this;simpa using this
   .rw[WL];simp only[A4,List.length_replicate,e];show _=c+_;omega
  .rename_i z G;have:=q _ _ ?_ h
   .rw[Ma]at this;simpa using this
   .rw[Ma];simp only[A4,List.length_reverse,NU,e];show _=c+_;omega
 .cases h
theorem AAM{α:Type}(e:∀g s rs,F g s=some rs->K g s rs):∀{i:List It}{r:List D}{c:Nat}{k:List D->Nat->Option α}{x:α}(_:r.length=c){Q:Env->Prop}(_:UF F i r c k=some x)
  (_:∀R C,R.length=C->k R C=some x->Q R.reverse),Ek K i r.reverse Q
 |[],r,c,k,x,H,Q,h,q=>q _ _ H h
 |it::i,r,c,k,x,H,Q,h,q=>AeC e H h λR C b f=>AAM e b f q
theorem AcE(R:Env->Option (X×Env))(n:Nat)(e:Env):Ox R (n+1) e=(R e).bind λr=>match r with
  |(.n,b)=>Ox R n b
  |r=>some r:=rfl
theorem AVV(n:Nat)(e:Env):F9 F n .skip e=some (.n,e):=rfl
theorem AgB(n:Nat)(i:List It)(out:List (Option Nat))(e:Env):F9 F n (.reg i out) e=IS (P3 e 0) λc=>UF F i (Pt e []) c λr c=>IW (WK (look r c) out) λb=>some (.n,b):=rfl
theorem Ag4(n:Nat)(a b:S)(e:Env):F9 F n (.seq a b) e=(F9 F n a e).bind λr=>match r with
  |(.n,f)=>F9 F n b f
  |r=>some r:=rfl
theorem Ai5(n c:Nat)(a b:S)(e:Env):F9 F n (.cond c a b) e=match at_ c e with
  |.b true=>IW (Ky e c .u) λe=>F9 F n a e
  |.b false=>IW (Ky e c .u) λe=>F9 F n b e
  |_=>none:=rfl
theorem AT6(n id:Nat)(b:S)(e:Env):F9 F n (.block id b) e=(F9 F n b e).bind λr=>match r with
  |(.ex j,f)=>bif Nat.beq j id then some (.n,f)else some (.ex j,f)
  |r=>some r:=rfl
theorem AY7(n:Nat)(b:S)(e:Env):F9 F n (.loop b) e=Ox (F9 F n b) n e:=rfl
theorem AaX(n id:Nat)(e:Env):F9 F n (.exit id) e=some (.ex id,e):=rfl
theorem AW3(n:Nat)(e:Env):F9 F n .ret e=some (.r,e):=rfl
theorem APP{R:Env->Option (X×Env)}{W:(X->Env->Prop)->Env->Prop}(f:∀e x b Q,R e=some (x,b)->Q x b->W Q e):∀(n:Nat){e b:Env}{x:X}{Q:X->Env->Prop},
  Ox R n e=some (x,b)->Q x b->EK W n Q e
 |0,_,_,_,_,h,_=>by cases h
 |n+1,e,b,x,Q,h,q=>by
  simp only[AcE,AW]at h;obtain⟨⟨y,i⟩,g,H⟩:=h;refine f _ _ _ _ g ?_
  cases y with
  |n=>exact APP f n H q
  |ex j=>simp only[AL,AJ]at H;obtain⟨rfl,rfl⟩:=H;exact q
  |r=>simp only[AL,AJ]at H;obtain⟨rfl,rfl⟩:=H;exact q
theorem Ku(i:∀g I rs,F g I=some rs->K g I rs)(n:Nat):∀(s:S){e f:Env}{x:X}{Q:X->Env->Prop}(_:F9 F n s e=some (x,f))(_:Q x f),wpS K s Q e
 |.skip,e,f,x,Q,h,q=>by simp only[AVV,AL,AJ]at h;obtain⟨rfl,rfl⟩:=h;exact q
 |.reg N out,e,f,x,Q,h,q=>by simp only[AgB,MB,Ob,Wd,Ma]at h;have:=AAM (r:=e.reverse++[]) (Q:=λk=>Q .n (ER out k)) i (by simp) h ?_;simp only[List.append_nil,List.reverse_reverse]at this;exact this;intro R L B J;simp only[AL,AJ]at J;obtain⟨rfl,rfl⟩:=J;have M:look R L=Env.E R.reverse:=funext λn=>look_eq B n;rw[M,Uw]at q;exact q
 |.seq a b,e,f,x,Q,h,q=>by
  simp only[Ag4,AW]at h;obtain⟨⟨y,k⟩,l,H⟩:=h;refine Ku i n a l ?_
  cases y with
  |n=>exact Ku i n b H q
  |ex j=>simp only[AL,AJ]at H;obtain⟨rfl,rfl⟩:=H;exact q
  |r=>simp only[AL,AJ]at H;obtain⟨rfl,rfl⟩:=H;exact q
 |.cond c a b,e,f,x,Q,h,q=>by
  simp only[Ai5,Ob,RS,SU]at h;simp only[wpS];change (match e.E c with|.b true=>_|.b false=>_|_=>_)=_ at h;split at h;rename_i C;rw[C];exact Ku i n a h q;rename_i C;rw[C];exact Ku i n b h q
  cases h
 |.block id b,e,f,x,Q,h,q=>by
  simp only[AT6,AW]at h;obtain⟨⟨y,k⟩,l,H⟩:=h;refine Ku i n b l ?_
  cases y with
  |n=>simp only[AL,AJ]at H;obtain⟨rfl,rfl⟩:=H;exact q
  |ex j=>
   simp only at H
   cases hb:Nat.beq j id with
   |true=>
    rw[hb,cond_true]at H
    have G:=Nat.eq_of_beq_eq_true hb
    simp only[AL,AJ]at H;obtain⟨rfl,rfl⟩:=H
    show if j=id then _ else _
    rw[if_pos G];exact q
   |false=>
    rw[hb,cond_false]at H
    have G:=Nat.ne_of_beq_eq_false hb
    simp only[AL,AJ]at H;obtain⟨rfl,rfl⟩:=H
    show if j=id then _ else _
    rw[if_neg G];exact q
  |r=>simp only[AL,AJ]at H;obtain⟨rfl,rfl⟩:=H;exact q
 |.loop b,e,f,x,Q,h,q=>by simp only[AY7]at h;exact⟨n,APP (W:=wpS K b) (λe x f Q h q=>Ku i n b h q) n h q⟩
 |.exit id,e,f,x,Q,h,q=>by simp only[AaX,AL,AJ]at h;obtain⟨rfl,rfl⟩:=h;exact q
 |.ret,e,f,x,Q,h,q=>by simp only[AW3,AL,AJ]at h;obtain⟨rfl,rfl⟩:=h;exact q
noncomputable def TQ(F:Nat->List D->Option (List D))(n:Nat)(f:IF)(s:List D):Option (List D):=
 if s.length=f.np then(F9 F n f.body (s++List.replicate (f.nv-f.np) .u)).bind λr=>match r with
  |(.ex _,_)=>none
  |(_,e)=>bif G5 f.cl (f.res.map λn=>at_ n e)then some (f.res.map λn=>at_ n e)else none
 else none
theorem AcU(B:∀g s rs,F g s=some rs->K g s rs){n:Nat}{f:IF}{s rs:List D}(h:TQ F n f s=some rs):Body K f s rs:=by
 unfold TQ at h;split at h;rename_i C;simp only[AW]at h;obtain⟨⟨x,e⟩,b,H⟩:=h;have i:(∀j,x≠.ex j)/\G5 f.cl rs=true/\rs=f.res.map λn=>at_ n e:=by
  cases x with
  |ex j=>cases H
  |n=>
   simp only at H
   cases hc:G5 f.cl (f.res.map λn=>at_ n e)with
   |true=>rw[hc,cond_true,AL]at H;exact⟨by simp,by rw[<-H];exact hc,H.symm⟩
   |false=>rw[hc,cond_false]at H;cases H
  |r=>
   simp only at H
   cases hc:G5 f.cl (f.res.map λn=>at_ n e)with
   |true=>rw[hc,cond_true,AL]at H;exact⟨by simp,by rw[<-H];exact hc,H.symm⟩
   |false=>rw[hc,cond_false]at H;cases H
 obtain⟨k,l,q⟩:=i;refine⟨⟨C,l⟩,Ku B n _ b ?_⟩;have he:rs=f.res.map (Env.E e):=q.trans (List.map_congr_left λn _=>RS n e)
 cases x with
 |ex j=>exact(k j rfl).elim
 |n=>exact⟨trivial,he⟩
 |r=>exact⟨trivial,he⟩
 cases h
noncomputable def E2(T:Nat->Option IF)(n d:Nat):Nat->List D->Option (List D):=
 Nat.rec (motive:=λ_=>Nat->List D->Option (List D)) (λ_ _=>none) (λ_ i k s=>(T k).bind λf=>TQ i n f s) d
theorem AKL{T:Nat->Option IF}(H:∀k f s rs,T k=some f->Body K f s rs->K k s rs)(n:Nat):∀(d k:Nat)(s rs:List D),E2 T n d k s=some rs->K k s rs
 |0,_,_,_,h=>by cases h
 |d+1,k,s,rs,h=>by change ((T k).bind λf=>TQ (E2 T n d) n f s)=some rs at h;simp only[AW]at h;obtain⟨f,b,e⟩:=h;exact H _ _ _ _ b (AcU (AKL H n d) e)
end Go.Cat
namespace Go.Cat
class Has(K:Nat->List D->List D->Prop)(k:Nat)(f:IF):Prop where
 h:∀ds rs,Body K f ds rs->K k ds rs
class Km(K:Nat->List D->List D->Prop)(l:List (Nat×IF)):Prop where
 h:∀k f,(k,f)∈l->∀ds rs,Body K f ds rs->K k ds rs
instance{K:Nat->List D->List D->Prop}:Km K []:=⟨by simp⟩
instance{K:Nat->List D->List D->Prop}{k:Nat}{f:IF}{l:List (Nat×IF)}[a:Has K k f][b:Km K l]:Km K ((k,f)::l):=by
 refine⟨λg e h=>?_⟩;rcases A7.1 h with h|h
 cases h;exact a.h;exact b.h _ _ h
noncomputable def EU(l:List (Nat×IF))(k:Nat):Option IF:=
 List.rec (motive:=λ_=>Option IF) none (λx _ i=>bif Nat.beq x.1 k then some x.2 else i) l
theorem AN4{k:Nat}{f:IF}:∀{l:List (Nat×IF)},EU l k=some f->(k,f)∈l
 |[],h=>by cases h
 |(j,g)::r,h=>by
  change (bif Nat.beq j k then some g else EU r k)=some f at h
  cases hb:Nat.beq j k with
  |true=>rw[hb,cond_true]at h;cases h;rw[Nat.eq_of_beq_eq_true hb];simp
  |false=>rw[hb,cond_false]at h;exact BN _ (AN4 h)
theorem run{K:Nat->List D->List D->Prop}(l:List (Nat×IF))[Km K l](n d k:Nat){s rs:List D}(h:E2 (EU l) n d k s=some rs):K k s rs:=
 AKL (λk f s rs H b=>Km.h k f (AN4 H) s rs b) n d k s rs h
end Go.Cat
namespace Go.Cat
section
variable{K:Nat->List D->List D->Prop}
theorem ALP{p:Pr}{e:Env}{Q i:Env->Prop}(H:∀e,Q e->i e)(h:Ad K p e Q):Ad K p e i:=by unfold Ad at*;split at h;exact H _ h;obtain⟨rs,b,f,g⟩:=h;exact⟨rs,b,f,H _ g⟩;obtain⟨h0,rs,b,f,g⟩:=h;exact⟨h0,rs,b,f,H _ g⟩;split at h;exact H _ h;exact h.elim;split at h;exact H _ h;exact h.elim;split at h;exact H _ h;exact h.elim;split at h;exact H _ h;exact h.elim;split at h;exact H _ h;exact h.elim
theorem RN:∀{i:List It}{e:Env}{Q b:Env->Prop}(_:∀e,Q e->b e)(_:Ek K i e Q),Ek K i e b
 |[],e,Q,b,H,h=>H _ h
 |it::i,e,Q,b,H,h=>by simp only[Ek,Iv]at*;split at h;exact ALP (λe h=>RN H h) h;exact RN H h;exact h
theorem AKG{R:(X->Env->Prop)->Env->Prop}(f:∀Q b e,(∀x e,Q x e->b x e)->R Q e->R b e):∀(n:Nat){e:Env}{Q b:X->Env->Prop}(_:∀x e,Q x e->b x e)(_:EK R n Q e),EK R n b e
 |0,_,_,_,_,h=>h.elim
 |n+1,e,Q,b,H,h=>by
  simp only[EK]at*;refine f _ _ _ ?_ h;intro x e h
  cases x with
  |n=>exact AKG f n H h
  |ex j=>exact H _ _ h
  |r=>exact H _ _ h
theorem D8:∀(s:S){e:Env}{Q f:X->Env->Prop}(_:∀x e,Q x e->f x e)(_:wpS K s Q e),wpS K s f e
 |.skip,e,Q,f,H,h=>H _ _ h
 |.reg I out,e,Q,f,H,h=>RN (λe h=>H _ _ h) h
 |.seq a b,e,Q,f,H,h=>by
  refine D8 a ?_ h;intro x e h
  cases x with
  |n=>exact D8 b H h
  |ex j=>exact H _ _ h
  |r=>exact H _ _ h
 |.cond c a b,e,Q,f,H,h=>by simp only[wpS]at*;split at h;exact D8 a H h;exact D8 b H h;exact h
 |.block id b,e,Q,f,H,h=>by
  refine D8 b ?_ h;intro x e h
  cases x with
  |n=>exact H _ _ h
  |ex j=>
   show if j=id then _ else _
   have g:if j=id then Q .n e else Q (.ex j) e:=h
   split
   .rename_i i;rw[if_pos i]at g;exact H _ _ g
   .rename_i i;rw[if_neg i]at g;exact H _ _ g
  |r=>exact H _ _ h
 |.loop b,e,Q,f,H,h=>by obtain⟨n,h⟩:=h;exact⟨n,AKG (R:=wpS K b) (λQ f e H h=>D8 b H h) n H h⟩
 |.exit id,e,Q,f,H,h=>H _ _ h
 |.ret,e,Q,f,H,h=>H _ _ h
theorem AWQ{b:S}{Q:X->Env->Prop}{e:Env}(I:Nat->Env->Prop)(m:Nat)(h0:I m e)
  (step:∀m e,I m e->wpS K b (λx f=>match x with|.n=>∃M,M < m/\I M f|x=>Q x f) e):wpS K (.loop b) Q e:=by
 suffices ∀(m:Nat)(e:Env),I m e->∃n,EK (wpS K b) n Q e by exact this m e h0
 intro m;induction m using Nat.strongRecOn with
 |ind m i=>
  intro e H
  have s:=step m e H
  suffices ∀(m:Nat)(e:Env),I m e->EK (wpS K b) (m+1) Q e from⟨m+1,this m e H⟩
  clear s H i e m
  intro m
  induction m using Nat.strongRecOn with
  |ind m i=>
   intro e H
   simp only[EK]
   refine D8 b ?_ (step m e H)
   intro x e h
   cases x with
   |n=>
    obtain⟨M,g,h⟩:=h
    have:=i M g e h
    exact W (by omega) this
   |ex j=>exact h
   |r=>exact h
where
 W {b:S} {Q:X->Env->Prop}:∀{n N:Nat}{e:Env}(_:n<=N)(_:EK (wpS K b) n Q e),EK (wpS K b) N Q e
  |0,_,_,_,h=>h.elim
  |n+1,0,_,k,_=>by omega
  |n+1,N+1,e,k,h=>by
   simp only[EK]at*
   refine D8 b ?_ h
   intro x e h
   cases x with
   |n=>exact W (by omega) h
   |ex j=>exact h
   |r=>exact h
end
noncomputable def BR(n:Nat)(p:Nat->Bool):Bool:=Nat.rec (motive:=λ_=>Bool) true (λn i=>bif p n then i else false) n
theorem BY{p:Nat->Bool}:∀{n:Nat},BR n p=true->∀i,i<n->p i=true
 |0,_,i,hi=>by omega
 |n+1,h,i,hi=>by
  change (bif p n then BR n p else false)=true at h
  cases hp:p n with
  |false=>rw[hp,cond_false]at h;cases h
  |true=>
  rw[hp,cond_true]at h;rcases BS i n with k|k
  .exact BY h i k
  .have:i=n:=by omega
   subst this;exact hp
end Go.Cat
