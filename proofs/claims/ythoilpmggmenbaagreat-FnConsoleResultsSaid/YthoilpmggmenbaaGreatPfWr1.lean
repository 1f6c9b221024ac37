/-
 Texts of plane trees, partitions, matchings; permutations of paths.
-/
import Derived.Test.YthoilpmggmenbaaGreatPfPLine
set_option linter.unusedSimpArgs false
set_option linter.unusedVariables false
namespace Go.Cat
variable{K:Nat->List D->List D->Prop}
theorem AI7{sep:List Nat}{ws:List (List Nat)}{x:List Nat}:∀{i:Nat},i<=ws.length->BC sep (ws++[x]) i=BC sep ws i
 |0,_=>rfl
 |i+1,h=>by
  have e:AH (ws++[x]) i=AH ws i:=by
   simp only[AH,BM,Ap]
   rw[DP (by omega)]
  rw[BC,BC,AI7 (by omega),e]
theorem RC{sep:List Nat}{ws:List (List Nat)}{x:List Nat}:glue sep (ws++[x])=glue sep ws++(if 0<ws.length then sep else [])++x:=by
 have e:AH (ws++[x]) ws.length=x:=by simp[AH]
 rw[glue,AZ,AO,Aa,Nat.zero_add,BC,AI7 (Nat.le_refl _),e]<;>rfl
theorem ZO{sep:List Nat}:glue sep []=[]:=rfl
theorem LW{sep:List Nat}{ws:List (List Nat)}{b:Nat}(h:∀x∈ws,x.length<=b):(glue sep ws).length<=ws.length*(b+sep.length):=Gu h ws.length
def E7(p:List Int):List (List Nat):=p.map AN
def Hb(p:List Int):List Nat:=if CY p=true then glue [44] (E7 p)else []
theorem AV2{p:List Int}{i:Nat}(h:i<p.length):AH (E7 p) i=AN (AB p i):=by simp[AH,E7,AB,h]
theorem ATS{p:List Int}{i:Nat}(h:i<p.length):(E7 p).take (i+1)=(E7 p).take i++[AN (AB p i)]:=by rw[CO (by simpa[E7]using h)];simp[E7,AB,h]
theorem U3{p:List Int}:(E7 p).length=p.length:=by simp[E7]
theorem OX{p:List Int}(h:CY p=true):(1<=p.length/\p.length<=9)/\∀j:Nat,j<p.length->-1<=AB p j/\AB p j<=100:=by simp only[CY,AU,Ad]at h;have l:=Af.1 h.1;refine⟨by omega,λj H=>?_⟩;have:=LX h.2 j H;omega
theorem WW{p:List Int}(h:∀j:Nat,j<p.length->-1<=AB p j/\AB p j<=100):∀x∈E7 p,x.length<=20:=by intro x a;obtain⟨y,b,rfl⟩:=List.mem_map.1 a;obtain⟨j,H,rfl⟩:=List.mem_iff_getElem.1 b;have:=h j H;refine Ar ?_;simp only[AB,BM,Ap,GB H,Option.getD_some]at this;omega
theorem AOD[HA K]{p:List Int}(h:p.length<=1048576):K 534 [LI p] [.s (Hb p)]:=by
 refine qw I534 ?_;refine cB (Rv (by omega)) ?_
 cases H:CY p;refine wW ?_;simp[Hb,H];obtain⟨l,b⟩:=OX H;have f:=U3 (p:=p);refine wW ?_;rw[MU];refine AR (λ_=>True) (λi=>[.u,.u,LS ((E7 p).take i),.u,.u,LI p,.n p.length,.n i,.u]) p.length trivial (by simp) (λi hi _=>?_) (λ_=>?_);have e:((E7 p).take i).length=i:=by simp;omega
 have a:=b i hi;rw[ATS hi];refine wW ?_;exact cZ (C4 (by omega));rw[List.take_of_length_le (by omega)];have k:=Hs (K:=K) (ws:=E7 p) (sep:=[44]) (by omega) (λx c=>by have:=WW b x c;omega) (by simp);refine wW ?_;refine cW k ?_;simp[Hb,H]
theorem AcG[HA K]{p:List Int}(h:p.length<=1048576):K 529 [LI p] [.s (Hb p)]:=by
 refine qw I529 ?_
 cases H:CY p
 .refine Bd (λ(_:Unit)=>True) (λ_=>[LI p,.u,.s [],.n 0,.u,.u]) (λ_=>0) () trivial rfl (λ_ _=>?_);by_cases h0:0<p.length
  .refine wW ?_;repeat(refine cB (Kr (by omega)) ?_;try simp(disch:=try exact dV) only[AD,H])
   simp[Hb,H]
  refine wW ?_;simp[Hb,H]
 obtain⟨l,b⟩:=OX H;have c:=U3 (p:=p);refine AR (λ_=>True) (λi=>[LI p,.u,.s (BC [44] (E7 p) i),.n i,.u,.u]) p.length trivial rfl (λi hi _=>?_) (λ_=>?_);have a:=b i hi;have b1:=Gu (sep:=[44]) (WW b) i;have b2:=Ar (n:=AB p i) (by omega);have B:i*(20+[44].length)<=61*21:=Nat.mul_le_mul (by omega) (by simp);have e:=AV2 hi;refine wW ?_;refine cB (Kr (by omega)) ?_;by_cases q:0<i;simp(disch:=try exact dV) only[AD,H];refine cW (Bk (by omega)) ?_;simp only[BC,if_pos q,e];simp(disch:=try exact dV) only[AD,H];refine cW (Bk (by omega)) ?_;simp only[BC,if_neg q,e,List.append_nil];refine wW ?_;have g:glue [44] (E7 p)=BC [44] (E7 p) p.length:=by rw[glue,c]
 simp[Hb,H,g]
def DS(r:List Int):Nat->List Nat
 |0=>[]
 |i+1=>DS r i++AN (AB r i+1)
theorem JC{r:List Int}(h:∀j:Nat,j<r.length->0<=AB r j/\AB r j<=100):∀i,i<=r.length->(DS r i).length<=i*20
 |0,_=>by simp[DS]
 |i+1,hi=>by have H:=JC h i (by omega);have a:=h i (by omega);have b:=Ar (n:=AB r i+1) (by omega);simp only[DS,AZ];omega
theorem V8{p:List Int}:∀{i:Nat}{r:List Int},r∈Ak p i->∀x∈r,0<=x/\x<i
 |0,r,h=>by simp[Ak]at h
 |i+1,r,h=>by
  have o:∀r∈(if AB p i=(Ak p i).length then Ak p i++[[]]else Ak p i),∀x∈r,0<=x/\x<i:=by
   intro r a
   split at a
   rcases Ac.1 a with q|q
   exact V8 q
   simp at q;subst q;simp
   exact V8 a
  simp only[Ak,D9]at h
  intro x H
  rcases List.mem_or_eq_of_mem_set h with q|q
  have:=o _ q x H;omega
  subst q
  rcases Ac.1 H with H|H
  have key:∀x∈(AF (if AB p i=(Ak p i).length then Ak p i++[[]]else Ak p i) (AB p i)),0<=x/\x<i:=by
   simp only[AF]
   rcases B7 (AB p i).toNat (if AB p i=(Ak p i).length then Ak p i++[[]]else Ak p i).length with q|q
   rw[Ap,GB q]
   exact o _ (List.getElem_mem q)
   rw[Ap,D7 q];simp
  have:=key x H;omega
  simp only[List.mem_singleton]at H;omega
def Br(p:List Int):List (List Int):=if CJ p=true then Ak p p.length else []
theorem TW{p:List Int}:(Br p).length<=8:=by unfold Br;split;rename_i h;simp only[CJ,AU,Ad]at h;have H:=Jj h.2;have a:=Hk h.2;omega;simp
theorem P1{p:List Int}{r:List Int}(h:r∈Br p):r.length<=8/\∀j:Nat,j<r.length->0<=AB r j/\AB r j<=100:=by
 unfold Br at h;split at h;rename_i b;simp only[CJ,AU,Ad]at b;have c:=Ku h;have H:=V8 h;refine⟨by omega,λj a=>?_⟩;have:=H (AB r j) (by simp[AB,a]);omega
 cases h
theorem AG2{b:List (List Int)}{i:Nat}(h:i<b.length):AF b i∈b:=by simp[AF,h]
def Dt(p:List Int):List (List Nat):=(Br p).map λr=>DS r r.length
def IH(p:List Int):List Nat:=glue [124] (Dt p)
theorem APW{p:List Int}{i:Nat}(h:i<(Br p).length):AH (Dt p) i=DS (AF (Br p) i) (AF (Br p) i).length:=by simp[AH,Dt,AF,h]
theorem AT9{p:List Int}{i:Nat}(h:i<(Br p).length):(Dt p).take (i+1)=(Dt p).take i++[DS (AF (Br p) i) (AF (Br p) i).length]:=by rw[CO (by simpa[Dt]using h)];simp[Dt,AF,h]
theorem Rs{p:List Int}:(Dt p).length=(Br p).length:=by simp[Dt]
theorem SI{p:List Int}:∀x∈Dt p,x.length<=160:=by intro x a;obtain⟨r,H,rfl⟩:=List.mem_map.1 a;obtain⟨b,h⟩:=P1 H;have:=JC h r.length (Nat.le_refl _);omega
theorem TZ[HA K]{p:List Int}(h:p.length<=1048576):K 537 [LI p] [.s (IH p)]:=by
 have l:=TW (p:=p);have q:=Rs (p:=p);have k:=AHR (K:=K) (p:=p) (by omega);rw[show(if CJ p=true then Ak p p.length else [])=Br p from rfl]at k;refine qw I537 ?_;refine cW k ?_;rw[MU];refine AR (λ_=>True) (λi=>[.u,.u,LS ((Dt p).take i),.u,.u,.u,LL (Br p),.n (Br p).length,.n i,.u,.u,.u,.u,.u]) (Br p).length trivial (by simp) (λi hi _=>?_) (λ_=>?_);have o:((Dt p).take i).length=i:=by simp;omega
 obtain⟨b,R⟩:=P1 (AG2 hi);rw[AT9 hi];refine wW ?_;generalize AF (Br p) i=r at b R|-;refine AR (λ_=>True) (λj=>[.u,.u,LS ((Dt p).take i),.u,.s (DS r j),.u,LL (Br p),.n (Br p).length,.n i,.u,LI r,.n r.length,.n j,.u]) r.length trivial rfl (λj H _=>?_) (λ_=>?_);have c:=R j H;have e:=JC R j (by omega);have f:=Ar (n:=AB r j+1) (by omega);refine wW ?_;exact cZ (C4 (by omega));exact wZ;rw[List.take_of_length_le (by omega)];have g:=Hs (K:=K) (ws:=Dt p) (sep:=[124]) (by omega) (λx a=>by have:=SI x a;omega) (by simp);refine wW ?_;exact cZ g
theorem AUY[HA K]{p:List Int}(h:p.length<=1048576):K 532 [LI p] [.s (IH p)]:=by
 have o:=TW (p:=p);have B:=Rs (p:=p);have k:=VV (K:=K) (p:=p) (by omega);rw[show(if CJ p=true then Ak p p.length else [])=Br p from rfl]at k;refine qw I532 ?_;refine cW k ?_;refine AR (λ_=>True) (λi=>[.u,.u,LL (Br p),.s (BC [124] (Dt p) i),.n i,.u,.u,.u,.u]) (Br p).length trivial rfl (λi hi _=>?_) (λ_=>?_);obtain⟨F,R⟩:=P1 (AG2 hi);have e:=APW hi;have b1:=Gu (sep:=[124]) (SI (p:=p)) i;have C:i*(160+[124].length)<=8*161:=Nat.mul_le_mul (by omega) (by simp);obtain⟨a,H⟩:∃a,a=BC [124] (Dt p) i++(if 0<i then [124]else []):=⟨_,rfl⟩;have x:a.length<=2000:=by
  rw[H,AZ];have:(if 0<i then [124]else []).length<=1:=by split<;>simp
  omega
 have key:BC [124] (Dt p) (i+1)=a++DS (AF (Br p) i) (AF (Br p) i).length:=by rw[BC,e,H]
 rw[key];have inner:∀(Q:X->Env->Prop)(b:S),True:=λ_ _=>trivial;by_cases q:0<i;rw[if_pos q]at H;refine wW ?_;rw[<-H];refine AR (λ_=>True) (λj=>[.u,.u,LL (Br p),.s (a++DS (AF (Br p) i) j),.n i,.n j,.u,.u,.u]) (AF (Br p) i).length trivial (by simp[DS]) (λj c _=>?_) (λ_=>?_);have f:=R j c;have g:=JC R j (by omega);have l:=Ar (n:=AB (AF (Br p) i) j+1) (by omega);refine wW ?_;refine cW (Bk (by omega)) ?_;simp only[DS,CE];exact wZ;rw[if_neg q,List.append_nil]at H;refine wW ?_;rw[<-H];refine AR (λ_=>True) (λj=>[.u,.u,LL (Br p),.s (a++DS (AF (Br p) i) j),.n i,.n j,.u,.u,.u]) (AF (Br p) i).length trivial (by simp[DS]) (λj c _=>?_) (λ_=>?_);have f:=R j c;have g:=JC R j (by omega);have l:=Ar (n:=AB (AF (Br p) i) j+1) (by omega);refine wW ?_;refine cW (Bk (by omega)) ?_;simp only[DS,CE];exact wZ;refine wW ?_;rw[IH,glue,B]
def BV(m:List Int):Nat->List (List Nat)
 |0=>[]
 |i+1=>if(i:Int)<AB m i then BV m i++[AN i++[45]++AN (AB m i)]else BV m i
def F4(m:List Int):List Nat:=if CV m=true then(if m.length=0 then [110,111,110,101]else glue [32] (BV m m.length))else []
theorem NA{m:List Int}:∀i,(BV m i).length<=i
 |0=>by simp[BV]
 |i+1=>by have:=NA (m:=m) i;unfold BV;split;simp;omega;omega
theorem NY{m:List Int}(h:CV m=true):∀i,i<=m.length->∀x∈BV m i,x.length<=41
 |0,_,x,H=>by simp[BV]at H
 |i+1,hi,x,H=>by unfold BV at H;split at H;rcases Ac.1 H with q|q;exact NY h i (by omega) x q;simp only[List.mem_singleton]at q;obtain⟨b,a⟩:=GY h;have c:=Af.1 (a i (by omega)).1;have f:=Ar (n:=(i:Int)) (by omega);have F:=Ar (n:=AB m i) (by omega);rw[q];simp only[AZ,AO,Aa];omega;exact NY h i (by omega) x H
theorem TM[HA K]{m:List Int}(h:m.length<=1048576):K 538 [LI m] [.s (F4 m)]:=by
 refine qw I538 ?_;refine cB (XA (by omega)) ?_
 cases H:CV m;refine wW ?_;simp[F4,H];obtain⟨c,a⟩:=GY H;by_cases h0:m.length=0;simp(disch:=try exact dV) only[AD,h0];simp[F4,H,h0];refine wW ?_;rw[MU];refine AR (λ_=>True) (λi=>[.u,.u,LS (BV m i),.u,.u,.u,.u,LI m,.n m.length,.n i,.u,.u]) m.length trivial rfl (λi hi _=>?_) (λ_=>?_);have l:=NA (m:=m) i;have g:=Af.1 (a i hi).1;have f:=Ar (n:=(i:Int)) (by omega);have F:=Ar (n:=AB m i) (by omega);by_cases q:(i:Int)<AB m i;have e:BV m (i+1)=BV m i++[AN i++[45]++AN (AB m i)]:=by rw[BV,if_pos q]
 rw[e];refine wW ?_;refine cW (C4 (by omega)) ?_;exact cZ (C4 (by omega));have e:BV m (i+1)=BV m i:=by rw[BV,if_neg q]
 rw[e];exact wZ;have l:=NA (m:=m) m.length;have k:=Hs (K:=K) (ws:=BV m m.length) (sep:=[32]) (by omega) (λx b=>by have:=NY H m.length (Nat.le_refl _) x b;omega) (by simp);refine wW ?_;refine cW k ?_;simp[F4,H,h0]
theorem AUQ[HA K]{m:List Int}(h:m.length<=1048576):K 533 [LI m] [.s (F4 m)]:=by
 refine qw I533 ?_
 cases H:CV m
 .have h0:m.length≠0:=by
   intro q
   have:m=[]:=Dd q
   subst this
   exact absurd H (by decide)
  refine Bd (λ(_:Unit)=>True) (λ_=>[LI m,.u,.s [],.n 0,.u,.u,.u,.u]) (λ_=>0) () trivial rfl (λ_ _=>?_)
  refine wW ?_
  repeat(refine cB (Qd (by omega)) ?_;try simp(disch:=try exact dV) only[AD,H])
  simp[F4,H]
 obtain⟨o,f⟩:=GY H;refine AR (λ_=>True) (λi=>[LI m,.u,.s (glue [32] (BV m i)),.n i,.u,.u,.u,.u]) m.length trivial rfl (λi hi _=>?_) (λ_=>?_);have C:=NA (m:=m) i;have g:=Af.1 (f i hi).1;have F:=Ar (n:=(i:Int)) (by omega);have l:=Ar (n:=AB m i) (by omega);have b1:=LW (sep:=[32]) (NY H i (by omega));have B:(BV m i).length*(41+[32].length)<=16*42:=Nat.mul_le_mul (by omega) (by simp);refine wW ?_;refine cB (Qd (by omega)) ?_;by_cases q:(i:Int)<AB m i;have e:BV m (i+1)=BV m i++[AN i++[45]++AN (AB m i)]:=by rw[BV,if_pos q]
 rw[e,RC];by_cases k:(BV m i).length=0;have b:BV m i=[]:=Dd k;rw[b,ZO];simp(disch:=try exact dV) only[AD,H];refine cW (Bk (by omega)) ?_;refine cW (Bk (by omega)) ?_;simp;have b:(glue [32] (BV m i)==[])=false:=by
  refine beq_eq_false_iff_ne.2 λq=>?_;obtain⟨n,j⟩:∃n,(BV m i).length=n+1:=⟨(BV m i).length-1,by omega⟩;have a:AH (BV m i) n∈BV m i:=by
   have:n<(BV m i).length:=by omega
   simp[AH,this]
  have c:∀i,∀x∈BV m i,x≠[]:=by
   intro i;induction i with
   |zero=>intro x a;simp[BV]at a
   |succ i I=>
    intro x a
    unfold BV at a
    split at a
    .rcases Ac.1 a with q|q
     .exact I x q
     .simp only[List.mem_singleton]at q
      rw[q];simp
    .exact I x a
  have:=c i _ a;rw[glue,j,BC]at q;have Q:=congrArg List.length q;simp only[AZ,Aa]at Q;have g:(AH (BV m i) n).length≠0:=λq=>this (Dd q);omega
 simp(disch:=try exact dV) only[AD,H,b];refine cW (Bk (by omega)) ?_;refine cW (Bk (by omega)) ?_;rw[if_pos (by omega)];simp;have e:BV m (i+1)=BV m i:=by rw[BV,if_neg q]
 rw[e];simp(disch:=try exact dV) only[AD,H];by_cases h0:m.length=0;have e:BV m m.length=[]:=by rw[h0];rfl
 rw[e,ZO];simp(disch:=try exact dV) only[AD,h0];simp[F4,H,h0];refine wW ?_
 cases b:(glue [32] (BV m m.length)==[]);simp(disch:=try exact dV) only[AD,b];simp[F4,H,h0];simp(disch:=try exact dV) only[AD,b];simp[F4,H,h0]
def FH:List Nat->List Int->List Nat->Nat->Nat->List Int
 |[],out,_,_,_=>out
 |c::w,out,st,n,k=>if c=117 then FH w out (n::st) (n+1) k else FH w (B9 out (st.headD 0:Nat) k) st.tail n (k+1)
def CT(w:List Nat):List Int:=FH w (rep (w.length/2:Nat) 0) [] 0 0
theorem U5:∀{w:List Nat}{out:List Int}{st:List Nat}{n k:Nat},(FH w out st n k).length=out.length
 |[],_,_,_,_=>rfl
 |c::w,out,st,n,k=>by rw[FH];split;exact U5;rw[U5,DD]
theorem RP{w:List Nat}:(CT w).length=w.length/2:=by rw[CT,U5,J0];omega
theorem ANW:∀{w:List Nat}{out:List Int}{st:List Nat}{n k:Nat},(∀x∈out,0<=x/\x<k+w.length+1)->∀x∈FH w out st n k,0<=x/\x<k+w.length+1
 |[],_,_,_,_,h=>h
 |c::w,out,st,n,k,h=>by
  simp only[AO]at h|-
  rw[FH]
  split
  intro x H
  have:=ANW (w:=w) (out:=out) (st:=n::st) (n:=n+1) (k:=k+1)
  have a:∀(w:List Nat)(out:List Int)(st:List Nat)(n k b:Nat),(∀x∈out,0<=x/\x<(b:Int))->k+w.length<=b->∀x∈FH w out st n k,0<=x/\x<(b:Int):=by
   intro w
   induction w with
   |nil=>intro out st n k b h _;exact h
   |cons c w i=>
    intro out st n k b h e
    simp only[AO]at e
    rw[FH]
    split
    .exact i _ _ _ _ _ h (by omega)
    .refine i _ _ _ _ _ (λx H=>?_) (by omega)
     rcases List.mem_or_eq_of_mem_set H with q|q
     .exact h x q
     .omega
  have:=a w out (n::st) (n+1) k (k+(w.length+1)+1) (λx H=>by have:=h x H;omega) (by omega) x H
  omega
  intro x H
  have a:∀(w:List Nat)(out:List Int)(st:List Nat)(n k b:Nat),(∀x∈out,0<=x/\x<(b:Int))->k+w.length<=b->∀x∈FH w out st n k,0<=x/\x<(b:Int):=by
   intro w
   induction w with
   |nil=>intro out st n k b h _;exact h
   |cons c w i=>
    intro out st n k b h e
    simp only[AO]at e
    rw[FH]
    split
    .exact i _ _ _ _ _ h (by omega)
    .refine i _ _ _ _ _ (λx H=>?_) (by omega)
     rcases List.mem_or_eq_of_mem_set H with q|q
     .exact h x q
     .omega
  have:=a w (B9 out (st.headD 0:Nat) k) st.tail n (k+1) (k+(w.length+1)+1) (λx H=>by
   rcases List.mem_or_eq_of_mem_set H with q|q
   .have:=h x q;omega
   .omega) (by omega) x H
  omega
theorem AOG{l:List Int}{j:Nat}(h:j<l.length):AB l j∈l:=by simp[AB,h]
theorem Vb{w:List Nat}(l:w.length<=16)(j:Nat):0<=AB (CT w) j/\AB (CT w) j<=16:=by
 rcases B7 j (CT w).length with q|q;have:=ANW (w:=w) (out:=rep (w.length/2:Nat) 0) (st:=[]) (n:=0) (k:=0) (λx h=>by simp only[rep,List.mem_replicate]at h;omega) (AB (CT w) j) (AOG q)
 omega;have e:AB (CT w) j=0:=by simp[AB,q]
 omega
def nI(st:List Nat):List Int:=(st.map λ(j:Nat)=>(j:Int)).reverse
theorem P4{j:Nat}{t:List Nat}:nI (j::t)=nI t++[(j:Int)]:=by simp[nI]
theorem Q8{t:List Nat}:(nI t).length=t.length:=by simp[nI]
structure PQ(w:List Nat)(i:Nat)(x:List Int×List Nat×Nat×Nat):Prop where
 v:FH (w.drop i) x.1 x.2.1 x.2.2.1 x.2.2.2=CT w
 l:x.1.length=w.length/2
 s:(x.2.1.length:Int)=Hh w i
 n:x.2.2.1=CD w i
 b:∀j∈x.2.1,j<x.2.2.1
 k:x.2.2.2<=i
theorem AI2{w:List Nat}:PQ w 0 (rep (w.length/2:Nat) 0,[],0,0):=
 ⟨by simp[CT],by rw[J0];omega,by simp[Ef],by simp[CD,AA],by simp,by simp⟩
theorem AC2{w:List Nat}{i:Nat}{out:List Int}{st:List Nat}{n k:Nat}(h:PQ w i (out,st,n,k))(hi:i<w.length)(a:AI w i=117):PQ w (i+1) (out,n::st,n+1,k):=by obtain⟨H,b,e,f,c,g⟩:=h;simp only at H b e f c g;rw[EJ hi,FH,if_pos a]at H;have s:=F6 hi a;have l:=G9 hi;rw[if_pos a]at l;refine⟨H,b,by simp only[AO];omega,by simp only;omega,λj o=>?_,by simp only;omega⟩;rcases AY.1 o with q|q;simp only;omega;have:=c j q;simp only;omega
theorem AJN{w:List Nat}{i:Nat}{out:List Int}{j:Nat}{t:List Nat}{n k:Nat}(h:PQ w i (out,j::t,n,k))(hi:i<w.length)(o:AI w i=100):PQ w (i+1) (B9 out (j:Nat) k,t,n,k+1):=by obtain⟨H,a,c,e,b,f⟩:=h;simp only[AO]at H a c e b f;rw[EJ hi,FH,if_neg (by omega)]at H;have q:=Ej hi o;have g:=G9 hi;rw[if_neg (by omega)]at g;exact⟨H,by simp only[DD];exact a,by simp only;omega,by simp only;omega,λj l=>b j (BL _ l),by simp only;omega⟩
theorem AdB[HA K]{w:List Nat}(hd:AK w=true):K 539 [.s w] [LI (CT w),.b true]:=by
 have f:=A8 hd;have T:=f.l;have O:=Ka hd;refine qw I539 ?_;repeat(refine cB (Bf (by omega)) ?_;try simp(disch:=try exact dV) only[AD,hd])
 have B:((w.length:Int)/2)=((w.length/2:Nat):Int):=by omega
 simp(disch:=try exact dV) only[AD,B,EI];refine BE (λi (x:List Int×List Nat×Nat×Nat)=>PQ w i x) (λi x=>[.s w,.u,.u,LI x.1,LI (nI x.2.1),.n x.2.2.1,.n x.2.2.2,.n i,.u,.u,.u]) w.length (rep (w.length/2:Nat) 0,[],0,0) AI2 rfl (λi x hi h=>?_) (λx h=>?_);obtain⟨out,st,n,k⟩:=x;have g:=h.s;have L:=h.n;have q:=h.b;have N:=h.l;have J:=h.k;have Q:=f.h0 (i+1) (by omega);have e:=G9 hi;have P:=IL (w:=w) (a:=i+1) (b:=w.length) (by omega) (by omega);simp only at g L q N J;have M:=Q8 (t:=st);rcases f.ud i hi with H|H;rw[if_pos H]at e;have I:=Fx (w:=w) (i:=i);simp(disch:=try exact dV) only[AD,H];exact⟨(out,n::st,n+1,k),AC2 h hi H,by simp[P4]⟩;have C:=Ej hi H;rw[if_neg (by omega)]at e
 cases st with
 |nil=>simp at g;omega
 |cons j t=>
  have R:=q j (by simp)
  have c:=Q8 (t:=t)
  have F:AB (nI t++[(j:Int)]) t.length=j:=by rw[<-c];exact NH
  have G:sub (nI t++[(j:Int)]) 0 t.length=nI t:=by rw[<-c];exact Mh
  have f3:(((nI t++[(j:Int)]).length:Nat):Int)=(t.length:Int)+1:=by simp[nI]
  have I:=Fx (w:=w) (i:=i)
  simp only[AO]at g
  simp only[P4]
  simp(disch:=try exact dV) only[AD,H,f3,Bl,F,G]
  exact⟨(B9 out (j:Nat) k,t,n,k+1),AJN h hi H,by simp⟩
 have o:=h.v;obtain⟨out,st,n,k⟩:=x;rw[List.drop_length]at o;simp only[FH]at o;refine wW ?_;rw[o]
theorem AcL[HA K]{w:List Nat}(hd:AK w=true):K 325 [.s w] [LI (CT w),.b true]:=by
 have f:=A8 hd;have T:=f.l;have O:=Ka hd;refine qw I325 ?_;repeat(refine cB (By (by omega)) ?_;try simp(disch:=try exact dV) only[AD,hd])
 have B:((w.length:Int)/2)=((w.length/2:Nat):Int):=by omega
 simp(disch:=try exact dV) only[AD,B,EI];refine BE (λi (x:List Int×List Nat×Nat×Nat)=>PQ w i x) (λi x=>[.s w,.u,.u,LI x.1,LI (nI x.2.1),.n x.2.2.1,.n x.2.2.2,.n i,.u,.u,.u]) w.length (rep (w.length/2:Nat) 0,[],0,0) AI2 rfl (λi x hi h=>?_) (λx h=>?_);obtain⟨out,st,n,k⟩:=x;have g:=h.s;have L:=h.n;have q:=h.b;have N:=h.l;have J:=h.k;have Q:=f.h0 (i+1) (by omega);have e:=G9 hi;have P:=IL (w:=w) (a:=i+1) (b:=w.length) (by omega) (by omega);simp only at g L q N J;have M:=Q8 (t:=st);rcases f.ud i hi with H|H;rw[if_pos H]at e;have I:=Fx (w:=w) (i:=i);simp(disch:=try exact dV) only[AD,H];exact⟨(out,n::st,n+1,k),AC2 h hi H,by simp[P4]⟩;have C:=Ej hi H;rw[if_neg (by omega)]at e
 cases st with
 |nil=>simp at g;omega
 |cons j t=>
  have R:=q j (by simp)
  have c:=Q8 (t:=t)
  have F:AB (nI t++[(j:Int)]) t.length=j:=by rw[<-c];exact NH
  have G:sub (nI t++[(j:Int)]) 0 t.length=nI t:=by rw[<-c];exact Mh
  have f3:(((nI t++[(j:Int)]).length:Nat):Int)=(t.length:Int)+1:=by simp[nI]
  have I:=Fx (w:=w) (i:=i)
  simp only[AO]at g
  simp only[P4]
  simp(disch:=try exact dV) only[AD,H,f3,Bl,F,G]
  exact⟨(B9 out (j:Nat) k,t,n,k+1),AJN h hi H,by simp⟩
 have o:=h.v;obtain⟨out,st,n,k⟩:=x;rw[List.drop_length]at o;simp only[FH]at o;refine wW ?_;rw[o]
end Go.Cat
