/-
 Texts of plane trees, partitions, matchings; permutations of paths.
-/
import Derived.Test.YthoilpmggmenbaaGreatPfPLine
set_option linter.unusedSimpArgs false
set_option linter.unusedVariables false
namespace Go.Cat
variable{K:Nat->List D->List D->Prop}
theorem AQG{sep:List Nat}{ws:List (List Nat)}{x:List Nat}:∀{i:Nat},i<=ws.length->BH sep (ws++[x]) i=BH sep ws i
 |0,_=>rfl
 |i+1,h=>by
  have e:AF (ws++[x]) i=AF ws i:=by
   simp only[AF,BM,Ap]
   rw[D4 (by omega)]
  rw[BH,BH,AQG (by omega),e]
theorem R7{sep:List Nat}{ws:List (List Nat)}{x:List Nat}:glue sep (ws++[x])=glue sep ws++(if 0<ws.length then sep else [])++x:=by
 have e:AF (ws++[x]) ws.length=x:=by simp[AF]
 rw[glue,AW,AP,A5,Nat.zero_add,BH,AQG (Nat.le_refl _),e]<;>rfl
theorem ALC{sep:List Nat}:glue sep []=[]:=rfl
theorem Np{sep:List Nat}{ws:List (List Nat)}{b:Nat}(h:∀x∈ws,x.length<=b):(glue sep ws).length<=ws.length*(b+sep.length):=IN h ws.length
def Ex(p:List Int):List (List Nat):=p.map AQ
def IZ(p:List Int):List Nat:=if CI p=true then glue [44] (Ex p)else []
theorem AaL{p:List Int}{i:Nat}(h:i<p.length):AF (Ex p) i=AQ (AB p i):=by simp[AF,Ex,AB,h]
theorem AhX{p:List Int}{i:Nat}(h:i<p.length):(Ex p).take (i+1)=(Ex p).take i++[AQ (AB p i)]:=by rw[CQ (by simpa[Ex]using h)];simp[Ex,AB,h]
theorem Uw{p:List Int}:(Ex p).length=p.length:=by simp[Ex]
theorem TI{p:List Int}(h:CI p=true):(1<=p.length/\p.length<=9)/\∀j:Nat,j<p.length->-1<=AB p j/\AB p j<=100:=by simp only[CI,AV,Ac]at h;have l:=A7.1 h.1;refine⟨by omega,λj H=>?_⟩;have:=Nb h.2 j H;omega
theorem ZB{p:List Int}(h:∀j:Nat,j<p.length->-1<=AB p j/\AB p j<=100):∀x∈Ex p,x.length<=20:=by intro x a;obtain⟨y,b,rfl⟩:=List.mem_map.1 a;obtain⟨j,H,rfl⟩:=List.mem_iff_getElem.1 b;have:=h j H;refine Aw ?_;simp only[AB,BM,Ap,Eg H,Option.getD_some]at this;omega
theorem AfQ[HA K]{p:List Int}(h:p.length<=1048576):K 534 [LI p] [.s (IZ p)]:=by
 refine qw I534 ?_;refine cB (X1 (by omega)) ?_
 cases H:CI p;refine wW ?_;simp[IZ,H];obtain⟨l,b⟩:=TI H;have f:=Uw (p:=p);refine wW ?_;rw[Ma];refine AN (λ_=>True) (λi=>[.u,.u,LS ((Ex p).take i),.u,.u,LI p,.n p.length,.n i,.u]) p.length trivial (by simp) (λi hi _=>?_) (λ_=>?_);have e:((Ex p).take i).length=i:=by simp;omega
 have a:=b i hi;rw[AhX hi];refine wW ?_;exact cZ (C8 (by omega));rw[List.take_of_length_le (by omega)];have k:=JW (K:=K) (ws:=Ex p) (sep:=[44]) (by omega) (λx c=>by have:=ZB b x c;omega) (by simp);refine wW ?_;refine cW k ?_;simp[IZ,H]
theorem AX9[HA K]{p:List Int}(h:p.length<=1048576):K 529 [LI p] [.s (IZ p)]:=by
 refine qw I529 ?_
 cases H:CI p
 .refine Bd (λ(_:Unit)=>True) (λ_=>[LI p,.u,.s [],.n 0,.u,.u]) (λ_=>0) () trivial rfl (λ_ _=>?_);by_cases h0:0<p.length
  .refine wW ?_;repeat(refine cB (Jw (by omega)) ?_;try simp(disch:=try exact dV) only[AD,H])
   simp[IZ,H]
  refine wW ?_;simp[IZ,H]
 obtain⟨l,b⟩:=TI H;have c:=Uw (p:=p);refine AN (λ_=>True) (λi=>[LI p,.u,.s (BH [44] (Ex p) i),.n i,.u,.u]) p.length trivial rfl (λi hi _=>?_) (λ_=>?_);have a:=b i hi;have b1:=IN (sep:=[44]) (ZB b) i;have b2:=Aw (n:=AB p i) (by omega);have B:i*(20+[44].length)<=61*21:=Nat.mul_le_mul (by omega) (by simp);have e:=AaL hi;refine wW ?_;refine cB (Jw (by omega)) ?_;by_cases q:0<i;simp(disch:=try exact dV) only[AD,H];refine cW (CB (by omega)) ?_;simp only[BH,if_pos q,e];simp(disch:=try exact dV) only[AD,H];refine cW (CB (by omega)) ?_;simp only[BH,if_neg q,e,List.append_nil];refine wW ?_;have g:glue [44] (Ex p)=BH [44] (Ex p) p.length:=by rw[glue,c]
 simp[IZ,H,g]
def DW(r:List Int):Nat->List Nat
 |0=>[]
 |i+1=>DW r i++AQ (AB r i+1)
theorem K8{r:List Int}(h:∀j:Nat,j<r.length->0<=AB r j/\AB r j<=100):∀i,i<=r.length->(DW r i).length<=i*20
 |0,_=>by simp[DW]
 |i+1,hi=>by have H:=K8 h i (by omega);have a:=h i (by omega);have b:=Aw (n:=AB r i+1) (by omega);simp only[DW,AW];omega
theorem UY{p:List Int}:∀{i:Nat}{r:List Int},r∈Ar p i->∀x∈r,0<=x/\x<i
 |0,r,h=>by simp[Ar]at h
 |i+1,r,h=>by
  have o:∀r∈(if AB p i=(Ar p i).length then Ar p i++[[]]else Ar p i),∀x∈r,0<=x/\x<i:=by
   intro r a
   split at a
   rcases A9.1 a with q|q
   exact UY q
   simp at q;subst q;simp
   exact UY a
  simp only[Ar,Dz]at h
  intro x H
  rcases List.mem_or_eq_of_mem_set h with q|q
  have:=o _ q x H;omega
  subst q
  rcases A9.1 H with H|H
  have key:∀x∈(AG (if AB p i=(Ar p i).length then Ar p i++[[]]else Ar p i) (AB p i)),0<=x/\x<i:=by
   simp only[AG]
   rcases BQ (AB p i).toNat (if AB p i=(Ar p i).length then Ar p i++[[]]else Ar p i).length with q|q
   rw[Ap,Eg q]
   exact o _ (List.getElem_mem q)
   rw[Ap,Dt q];simp
  have:=key x H;omega
  simp only[List.mem_singleton]at H;omega
def CM(p:List Int):List (List Int):=if CZ p=true then Ar p p.length else []
theorem XP{p:List Int}:(CM p).length<=8:=by unfold CM;split;rename_i h;simp only[CZ,AV,Ac]at h;have H:=Lq h.2;have a:=Jk h.2;omega;simp
theorem TZ{p:List Int}{r:List Int}(h:r∈CM p):r.length<=8/\∀j:Nat,j<r.length->0<=AB r j/\AB r j<=100:=by
 unfold CM at h;split at h;rename_i b;simp only[CZ,AV,Ac]at b;have c:=Nz h;have H:=UY h;refine⟨by omega,λj a=>?_⟩;have:=H (AB r j) (by simp[AB,a]);omega
 cases h
theorem AQ8{b:List (List Int)}{i:Nat}(h:i<b.length):AG b i∈b:=by simp[AG,h]
def E9(p:List Int):List (List Nat):=(CM p).map λr=>DW r r.length
def Jd(p:List Int):List Nat:=glue [124] (E9 p)
theorem Ad3{p:List Int}{i:Nat}(h:i<(CM p).length):AF (E9 p) i=DW (AG (CM p) i) (AG (CM p) i).length:=by simp[AF,E9,AG,h]
theorem AUX{p:List Int}{i:Nat}(h:i<(CM p).length):(E9 p).take (i+1)=(E9 p).take i++[DW (AG (CM p) i) (AG (CM p) i).length]:=by rw[CQ (by simpa[E9]using h)];simp[E9,AG,h]
theorem Wt{p:List Int}:(E9 p).length=(CM p).length:=by simp[E9]
theorem VR{p:List Int}:∀x∈E9 p,x.length<=160:=by intro x a;obtain⟨r,H,rfl⟩:=List.mem_map.1 a;obtain⟨b,h⟩:=TZ H;have:=K8 h r.length (Nat.le_refl _);omega
theorem Vl[HA K]{p:List Int}(h:p.length<=1048576):K 537 [LI p] [.s (Jd p)]:=by
 have l:=XP (p:=p);have q:=Wt (p:=p);have k:=AIA (K:=K) (p:=p) (by omega);rw[show(if CZ p=true then Ar p p.length else [])=CM p from rfl]at k;refine qw I537 ?_;refine cW k ?_;rw[Ma];refine AN (λ_=>True) (λi=>[.u,.u,LS ((E9 p).take i),.u,.u,.u,LL (CM p),.n (CM p).length,.n i,.u,.u,.u,.u,.u]) (CM p).length trivial (by simp) (λi hi _=>?_) (λ_=>?_);have o:((E9 p).take i).length=i:=by simp;omega
 obtain⟨b,R⟩:=TZ (AQ8 hi);rw[AUX hi];refine wW ?_;generalize AG (CM p) i=r at b R|-;refine AN (λ_=>True) (λj=>[.u,.u,LS ((E9 p).take i),.u,.s (DW r j),.u,LL (CM p),.n (CM p).length,.n i,.u,LI r,.n r.length,.n j,.u]) r.length trivial rfl (λj H _=>?_) (λ_=>?_);have c:=R j H;have e:=K8 R j (by omega);have f:=Aw (n:=AB r j+1) (by omega);refine wW ?_;exact cZ (C8 (by omega));exact wZ;rw[List.take_of_length_le (by omega)];have g:=JW (K:=K) (ws:=E9 p) (sep:=[124]) (by omega) (λx a=>by have:=VR x a;omega) (by simp);refine wW ?_;exact cZ g
theorem AW8[HA K]{p:List Int}(h:p.length<=1048576):K 532 [LI p] [.s (Jd p)]:=by
 have o:=XP (p:=p);have B:=Wt (p:=p);have k:=YR (K:=K) (p:=p) (by omega);rw[show(if CZ p=true then Ar p p.length else [])=CM p from rfl]at k;refine qw I532 ?_;refine cW k ?_;refine AN (λ_=>True) (λi=>[.u,.u,LL (CM p),.s (BH [124] (E9 p) i),.n i,.u,.u,.u,.u]) (CM p).length trivial rfl (λi hi _=>?_) (λ_=>?_);obtain⟨F,R⟩:=TZ (AQ8 hi);have e:=Ad3 hi;have b1:=IN (sep:=[124]) (VR (p:=p)) i;have C:i*(160+[124].length)<=8*161:=Nat.mul_le_mul (by omega) (by simp);obtain⟨a,H⟩:∃a,a=BH [124] (E9 p) i++(if 0<i then [124]else []):=⟨_,rfl⟩;have x:a.length<=2000:=by
  rw[H,AW];have:(if 0<i then [124]else []).length<=1:=by split<;>simp
  omega
 have key:BH [124] (E9 p) (i+1)=a++DW (AG (CM p) i) (AG (CM p) i).length:=by rw[BH,e,H]
 rw[key];have inner:∀(Q:X->Env->Prop)(b:S),True:=λ_ _=>trivial;by_cases q:0<i;rw[if_pos q]at H;refine wW ?_;rw[<-H];refine AN (λ_=>True) (λj=>[.u,.u,LL (CM p),.s (a++DW (AG (CM p) i) j),.n i,.n j,.u,.u,.u]) (AG (CM p) i).length trivial (by simp[DW]) (λj c _=>?_) (λ_=>?_);have f:=R j c;have g:=K8 R j (by omega);have l:=Aw (n:=AB (AG (CM p) i) j+1) (by omega);refine wW ?_;refine cW (CB (by omega)) ?_;simp only[DW,CT];exact wZ;rw[if_neg q,List.append_nil]at H;refine wW ?_;rw[<-H];refine AN (λ_=>True) (λj=>[.u,.u,LL (CM p),.s (a++DW (AG (CM p) i) j),.n i,.n j,.u,.u,.u]) (AG (CM p) i).length trivial (by simp[DW]) (λj c _=>?_) (λ_=>?_);have f:=R j c;have g:=K8 R j (by omega);have l:=Aw (n:=AB (AG (CM p) i) j+1) (by omega);refine wW ?_;refine cW (CB (by omega)) ?_;simp only[DW,CT];exact wZ;refine wW ?_;rw[Jd,glue,B]
def BW(m:List Int):Nat->List (List Nat)
 |0=>[]
 |i+1=>if(i:Int)<AB m i then BW m i++[AQ i++[45]++AQ (AB m i)]else BW m i
def Fo(m:List Int):List Nat:=if Ca m=true then(if m.length=0 then [110,111,110,101]else glue [32] (BW m m.length))else []
theorem O9{m:List Int}:∀i,(BW m i).length<=i
 |0=>by simp[BW]
 |i+1=>by have:=O9 (m:=m) i;unfold BW;split;simp;omega;omega
theorem Ou{m:List Int}(h:Ca m=true):∀i,i<=m.length->∀x∈BW m i,x.length<=41
 |0,_,x,H=>by simp[BW]at H
 |i+1,hi,x,H=>by unfold BW at H;split at H;rcases A9.1 H with q|q;exact Ou h i (by omega) x q;simp only[List.mem_singleton]at q;obtain⟨b,a⟩:=HT h;have c:=A7.1 (a i (by omega)).1;have f:=Aw (n:=(i:Int)) (by omega);have F:=Aw (n:=AB m i) (by omega);rw[q];simp only[AW,AP,A5];omega;exact Ou h i (by omega) x H
theorem VU[HA K]{m:List Int}(h:m.length<=1048576):K 538 [LI m] [.s (Fo m)]:=by
 refine qw I538 ?_;refine cB (AGU (by omega)) ?_
 cases H:Ca m;refine wW ?_;simp[Fo,H];obtain⟨c,a⟩:=HT H;by_cases h0:m.length=0;simp(disch:=try exact dV) only[AD,h0];simp[Fo,H,h0];refine wW ?_;rw[Ma];refine AN (λ_=>True) (λi=>[.u,.u,LS (BW m i),.u,.u,.u,.u,LI m,.n m.length,.n i,.u,.u]) m.length trivial rfl (λi hi _=>?_) (λ_=>?_);have l:=O9 (m:=m) i;have g:=A7.1 (a i hi).1;have f:=Aw (n:=(i:Int)) (by omega);have F:=Aw (n:=AB m i) (by omega);by_cases q:(i:Int)<AB m i;have e:BW m (i+1)=BW m i++[AQ i++[45]++AQ (AB m i)]:=by rw[BW,if_pos q]
 rw[e];refine wW ?_;refine cW (C8 (by omega)) ?_;exact cZ (C8 (by omega));have e:BW m (i+1)=BW m i:=by rw[BW,if_neg q]
 rw[e];exact wZ;have l:=O9 (m:=m) m.length;have k:=JW (K:=K) (ws:=BW m m.length) (sep:=[32]) (by omega) (λx b=>by have:=Ou H m.length (Nat.le_refl _) x b;omega) (by simp);refine wW ?_;refine cW k ?_;simp[Fo,H,h0]
theorem AfK[HA K]{m:List Int}(h:m.length<=1048576):K 533 [LI m] [.s (Fo m)]:=by
 refine qw I533 ?_
 cases H:Ca m
 .have h0:m.length≠0:=by
   intro q
   have:m=[]:=Dy q
   subst this
   exact absurd H (by decide)
  refine Bd (λ(_:Unit)=>True) (λ_=>[LI m,.u,.s [],.n 0,.u,.u,.u,.u]) (λ_=>0) () trivial rfl (λ_ _=>?_)
  refine wW ?_
  repeat(refine cB (SU (by omega)) ?_;try simp(disch:=try exact dV) only[AD,H])
  simp[Fo,H]
 obtain⟨o,f⟩:=HT H;refine AN (λ_=>True) (λi=>[LI m,.u,.s (glue [32] (BW m i)),.n i,.u,.u,.u,.u]) m.length trivial rfl (λi hi _=>?_) (λ_=>?_);have C:=O9 (m:=m) i;have g:=A7.1 (f i hi).1;have F:=Aw (n:=(i:Int)) (by omega);have l:=Aw (n:=AB m i) (by omega);have b1:=Np (sep:=[32]) (Ou H i (by omega));have B:(BW m i).length*(41+[32].length)<=16*42:=Nat.mul_le_mul (by omega) (by simp);refine wW ?_;refine cB (SU (by omega)) ?_;by_cases q:(i:Int)<AB m i;have e:BW m (i+1)=BW m i++[AQ i++[45]++AQ (AB m i)]:=by rw[BW,if_pos q]
 rw[e,R7];by_cases k:(BW m i).length=0;have b:BW m i=[]:=Dy k;rw[b,ALC];simp(disch:=try exact dV) only[AD,H];refine cW (CB (by omega)) ?_;refine cW (CB (by omega)) ?_;simp;have b:(glue [32] (BW m i)==[])=false:=by
  refine beq_eq_false_iff_ne.2 λq=>?_;obtain⟨n,j⟩:∃n,(BW m i).length=n+1:=⟨(BW m i).length-1,by omega⟩;have a:AF (BW m i) n∈BW m i:=by
   have:n<(BW m i).length:=by omega
   simp[AF,this]
  have c:∀i,∀x∈BW m i,x≠[]:=by
   intro i;induction i with
   |zero=>intro x a;simp[BW]at a
   |succ i I=>
    intro x a
    unfold BW at a
    split at a
    .rcases A9.1 a with q|q
     .exact I x q
     .simp only[List.mem_singleton]at q
      rw[q];simp
    .exact I x a
  have:=c i _ a;rw[glue,j,BH]at q;have Q:=congrArg List.length q;simp only[AW,A5]at Q;have g:(AF (BW m i) n).length≠0:=λq=>this (Dy q);omega
 simp(disch:=try exact dV) only[AD,H,b];refine cW (CB (by omega)) ?_;refine cW (CB (by omega)) ?_;rw[if_pos (by omega)];simp;have e:BW m (i+1)=BW m i:=by rw[BW,if_neg q]
 rw[e];simp(disch:=try exact dV) only[AD,H];by_cases h0:m.length=0;have e:BW m m.length=[]:=by rw[h0];rfl
 rw[e,ALC];simp(disch:=try exact dV) only[AD,h0];simp[Fo,H,h0];refine wW ?_
 cases b:(glue [32] (BW m m.length)==[]);simp(disch:=try exact dV) only[AD,b];simp[Fo,H,h0];simp(disch:=try exact dV) only[AD,b];simp[Fo,H,h0]
def Fi:List Nat->List Int->List Nat->Nat->Nat->List Int
 |[],out,_,_,_=>out
 |c::w,out,st,n,k=>if c=117 then Fi w out (n::st) (n+1) k else Fi w (BE out (st.headD 0:Nat) k) st.tail n (k+1)
def C6(w:List Nat):List Int:=Fi w (rep (w.length/2:Nat) 0) [] 0 0
theorem UX:∀{w:List Nat}{out:List Int}{st:List Nat}{n k:Nat},(Fi w out st n k).length=out.length
 |[],_,_,_,_=>rfl
 |c::w,out,st,n,k=>by rw[Fi];split;exact UX;rw[UX,DN]
theorem Sx{w:List Nat}:(C6 w).length=w.length/2:=by rw[C6,UX,Lg];omega
theorem AH1:∀{w:List Nat}{out:List Int}{st:List Nat}{n k:Nat},(∀x∈out,0<=x/\x<k+w.length+1)->∀x∈Fi w out st n k,0<=x/\x<k+w.length+1
 |[],_,_,_,_,h=>h
 |c::w,out,st,n,k,h=>by
  simp only[AP]at h|-
  rw[Fi]
  split
  intro x H
  have:=AH1 (w:=w) (out:=out) (st:=n::st) (n:=n+1) (k:=k+1)
  have a:∀(w:List Nat)(out:List Int)(st:List Nat)(n k b:Nat),(∀x∈out,0<=x/\x<(b:Int))->k+w.length<=b->∀x∈Fi w out st n k,0<=x/\x<(b:Int):=by
   intro w
   induction w with
   |nil=>intro out st n k b h _;exact h
   |cons c w i=>
    intro out st n k b h e
    simp only[AP]at e
    rw[Fi]
    split
    .exact i _ _ _ _ _ h (by omega)
    .refine i _ _ _ _ _ (λx H=>?_) (by omega)
     rcases List.mem_or_eq_of_mem_set H with q|q
     .exact h x q
     .omega
  have:=a w out (n::st) (n+1) k (k+(w.length+1)+1) (λx H=>by have:=h x H;omega) (by omega) x H
  omega
  intro x H
  have a:∀(w:List Nat)(out:List Int)(st:List Nat)(n k b:Nat),(∀x∈out,0<=x/\x<(b:Int))->k+w.length<=b->∀x∈Fi w out st n k,0<=x/\x<(b:Int):=by
   intro w
   induction w with
   |nil=>intro out st n k b h _;exact h
   |cons c w i=>
    intro out st n k b h e
    simp only[AP]at e
    rw[Fi]
    split
    .exact i _ _ _ _ _ h (by omega)
    .refine i _ _ _ _ _ (λx H=>?_) (by omega)
     rcases List.mem_or_eq_of_mem_set H with q|q
     .exact h x q
     .omega
  have:=a w (BE out (st.headD 0:Nat) k) st.tail n (k+1) (k+(w.length+1)+1) (λx H=>by
   rcases List.mem_or_eq_of_mem_set H with q|q
   .have:=h x q;omega
   .omega) (by omega) x H
  omega
theorem AjK{l:List Int}{j:Nat}(h:j<l.length):AB l j∈l:=by simp[AB,h]
theorem Uc{w:List Nat}(l:w.length<=16)(j:Nat):0<=AB (C6 w) j/\AB (C6 w) j<=16:=by
 rcases BQ j (C6 w).length with q|q;have:=AH1 (w:=w) (out:=rep (w.length/2:Nat) 0) (st:=[]) (n:=0) (k:=0) (λx h=>by simp only[rep,List.mem_replicate]at h;omega) (AB (C6 w) j) (AjK q)
 omega;have e:AB (C6 w) j=0:=by simp[AB,q]
 omega
def nI(st:List Nat):List Int:=(st.map λ(j:Nat)=>(j:Int)).reverse
theorem Qr{j:Nat}{t:List Nat}:nI (j::t)=nI t++[(j:Int)]:=by simp[nI]
theorem Qh{t:List Nat}:(nI t).length=t.length:=by simp[nI]
structure PQ(w:List Nat)(i:Nat)(x:List Int×List Nat×Nat×Nat):Prop where
 v:Fi (w.drop i) x.1 x.2.1 x.2.2.1 x.2.2.2=C6 w
 l:x.1.length=w.length/2
 s:(x.2.1.length:Int)=Hh w i
 n:x.2.2.1=CV w i
 b:∀j∈x.2.1,j<x.2.2.1
 k:x.2.2.2<=i
theorem AP4{w:List Nat}:PQ w 0 (rep (w.length/2:Nat) 0,[],0,0):=
 ⟨by simp[C6],by rw[Lg];omega,by simp[FI],by simp[CV,AA],by simp,by simp⟩
theorem ARC{w:List Nat}{i:Nat}{out:List Int}{st:List Nat}{n k:Nat}(h:PQ w i (out,st,n,k))(hi:i<w.length)(a:AH w i=117):PQ w (i+1) (out,n::st,n+1,k):=by obtain⟨H,b,e,f,c,g⟩:=h;simp only at H b e f c g;rw[EN hi,Fi,if_pos a]at H;have s:=GS hi a;have l:=Hr hi;rw[if_pos a]at l;refine⟨H,b,by simp only[AP];omega,by simp only;omega,λj o=>?_,by simp only;omega⟩;rcases A6.1 o with q|q;simp only;omega;have:=c j q;simp only;omega
theorem AFP{w:List Nat}{i:Nat}{out:List Int}{j:Nat}{t:List Nat}{n k:Nat}(h:PQ w i (out,j::t,n,k))(hi:i<w.length)(o:AH w i=100):PQ w (i+1) (BE out (j:Nat) k,t,n,k+1):=by obtain⟨H,a,c,e,b,f⟩:=h;simp only[AP]at H a c e b f;rw[EN hi,Fi,if_neg (by omega)]at H;have q:=F0 hi o;have g:=Hr hi;rw[if_neg (by omega)]at g;exact⟨H,by simp only[DN];exact a,by simp only;omega,by simp only;omega,λj l=>b j (BP _ l),by simp only;omega⟩
theorem AdG[HA K]{w:List Nat}(hd:AK w=true):K 539 [.s w] [LI (C6 w),.b true]:=by
 have f:=Af hd;have T:=f.l;have O:=ML hd;refine qw I539 ?_;repeat(refine cB (Bz (by omega)) ?_;try simp(disch:=try exact dV) only[AD,hd])
 have B:((w.length:Int)/2)=((w.length/2:Nat):Int):=by omega
 simp(disch:=try exact dV) only[AD,B,Eb];refine Ah (λi (x:List Int×List Nat×Nat×Nat)=>PQ w i x) (λi x=>[.s w,.u,.u,LI x.1,LI (nI x.2.1),.n x.2.2.1,.n x.2.2.2,.n i,.u,.u,.u]) w.length (rep (w.length/2:Nat) 0,[],0,0) AP4 rfl (λi x hi h=>?_) (λx h=>?_);obtain⟨out,st,n,k⟩:=x;have g:=h.s;have L:=h.n;have q:=h.b;have N:=h.l;have J:=h.k;have Q:=f.h0 (i+1) (by omega);have e:=Hr hi;have P:=JX (w:=w) (a:=i+1) (b:=w.length) (by omega) (by omega);simp only at g L q N J;have M:=Qh (t:=st);rcases f.ud i hi with H|H;rw[if_pos H]at e;have I:=Gx (w:=w) (i:=i);simp(disch:=try exact dV) only[AD,H];exact⟨(out,n::st,n+1,k),ARC h hi H,by simp[Qr]⟩;have C:=F0 hi H;rw[if_neg (by omega)]at e
 cases st with
 |nil=>simp at g;omega
 |cons j t=>
  have R:=q j (by simp)
  have c:=Qh (t:=t)
  have F:AB (nI t++[(j:Int)]) t.length=j:=by rw[<-c];exact LA
  have G:sub (nI t++[(j:Int)]) 0 t.length=nI t:=by rw[<-c];exact MG
  have f3:(((nI t++[(j:Int)]).length:Nat):Int)=(t.length:Int)+1:=by simp[nI]
  have I:=Gx (w:=w) (i:=i)
  simp only[AP]at g
  simp only[Qr]
  simp(disch:=try exact dV) only[AD,H,f3,Bq,F,G]
  exact⟨(BE out (j:Nat) k,t,n,k+1),AFP h hi H,by simp⟩
 have o:=h.v;obtain⟨out,st,n,k⟩:=x;rw[List.drop_length]at o;simp only[Fi]at o;refine wW ?_;rw[o]
theorem AcT[HA K]{w:List Nat}(hd:AK w=true):K 325 [.s w] [LI (C6 w),.b true]:=by
 have f:=Af hd;have T:=f.l;have O:=ML hd;refine qw I325 ?_;repeat(refine cB (Bu (by omega)) ?_;try simp(disch:=try exact dV) only[AD,hd])
 have B:((w.length:Int)/2)=((w.length/2:Nat):Int):=by omega
 simp(disch:=try exact dV) only[AD,B,Eb];refine Ah (λi (x:List Int×List Nat×Nat×Nat)=>PQ w i x) (λi x=>[.s w,.u,.u,LI x.1,LI (nI x.2.1),.n x.2.2.1,.n x.2.2.2,.n i,.u,.u,.u]) w.length (rep (w.length/2:Nat) 0,[],0,0) AP4 rfl (λi x hi h=>?_) (λx h=>?_);obtain⟨out,st,n,k⟩:=x;have g:=h.s;have L:=h.n;have q:=h.b;have N:=h.l;have J:=h.k;have Q:=f.h0 (i+1) (by omega);have e:=Hr hi;have P:=JX (w:=w) (a:=i+1) (b:=w.length) (by omega) (by omega);simp only at g L q N J;have M:=Qh (t:=st);rcases f.ud i hi with H|H;rw[if_pos H]at e;have I:=Gx (w:=w) (i:=i);simp(disch:=try exact dV) only[AD,H];exact⟨(out,n::st,n+1,k),ARC h hi H,by simp[Qr]⟩;have C:=F0 hi H;rw[if_neg (by omega)]at e
 cases st with
 |nil=>simp at g;omega
 |cons j t=>
  have R:=q j (by simp)
  have c:=Qh (t:=t)
  have F:AB (nI t++[(j:Int)]) t.length=j:=by rw[<-c];exact LA
  have G:sub (nI t++[(j:Int)]) 0 t.length=nI t:=by rw[<-c];exact MG
  have f3:(((nI t++[(j:Int)]).length:Nat):Int)=(t.length:Int)+1:=by simp[nI]
  have I:=Gx (w:=w) (i:=i)
  simp only[AP]at g
  simp only[Qr]
  simp(disch:=try exact dV) only[AD,H,f3,Bq,F,G]
  exact⟨(BE out (j:Nat) k,t,n,k+1),AFP h hi H,by simp⟩
 have o:=h.v;obtain⟨out,st,n,k⟩:=x;rw[List.drop_length]at o;simp only[Fi]at o;refine wW ?_;rw[o]
end Go.Cat
