/-
 Texts of plane trees, partitions, matchings; permutations of paths.
-/
import Derived.Test.YthoilpmggmenbaaGreatPfPLine
import Derived.Test.YthoilpmggmenbaaGreatPfMach
set_option linter.unusedSimpArgs false
set_option linter.unusedVariables false
namespace Go.Cat
variable{K:Nat->List D->List D->Prop}
theorem ADN{sep:List Nat}{ws:List (List Nat)}{x:List Nat}:∀{i:Nat},i<=ws.length->BE sep (ws++[x]) i=BE sep ws i
 |0,_=>rfl
 |i+1,h=>by
  have e:AG (ws++[x]) i=AG ws i:=by
   simp only[AG,BM,Ap]
   rw[DW (by omega)]
  rw[BE,BE,ADN (by omega),e]
theorem Qj{sep:List Nat}{ws:List (List Nat)}{x:List Nat}:glue sep (ws++[x])=glue sep ws++(if 0<ws.length then sep else [])++x:=by
 have e:AG (ws++[x]) ws.length=x:=by simp[AG]
 rw[glue,A4,AO,A6,Nat.zero_add,BE,ADN (Nat.le_refl _),e]<;>rfl
theorem AK1{sep:List Nat}:glue sep []=[]:=rfl
theorem NA{sep:List Nat}{ws:List (List Nat)}{b:Nat}(h:∀x∈ws,x.length<=b):(glue sep ws).length<=ws.length*(b+sep.length):=IH h ws.length
def Ev(p:List Int):List (List Nat):=p.map AQ
def IT(p:List Int):List Nat:=if CB p=true then glue [44] (Ev p)else []
theorem AWD{p:List Int}{i:Nat}(h:i<p.length):AG (Ev p) i=AQ (AB p i):=by simp[AG,Ev,AB,h]
theorem AaZ{p:List Int}{i:Nat}(h:i<p.length):(Ev p).take (i+1)=(Ev p).take i++[AQ (AB p i)]:=by rw[CP (by simpa[Ev]using h)];simp[Ev,AB,h]
theorem Uk{p:List Int}:(Ev p).length=p.length:=by simp[Ev]
theorem Ra{p:List Int}(h:CB p=true):(1<=p.length/\p.length<=9)/\∀j:Nat,j<p.length->-1<=AB p j/\AB p j<=100:=by simp only[CB,AV,Aa]at h;have l:=A5.1 h.1;refine⟨by omega,λj H=>?_⟩;have:=Nl h.2 j H;omega
theorem Yb{p:List Int}(h:∀j:Nat,j<p.length->-1<=AB p j/\AB p j<=100):∀x∈Ev p,x.length<=20:=by intro x a;obtain⟨y,b,rfl⟩:=List.mem_map.1 a;obtain⟨j,H,rfl⟩:=List.mem_iff_getElem.1 b;have:=h j H;refine Ax ?_;simp only[AB,BM,Ap,FD H,Option.getD_some]at this;omega
theorem AXH[HA K]{p:List Int}(h:p.length<=1048576):K 534 [LI p] [.s (IT p)]:=by
 refine qw I534 ?_;refine cB (WW (by omega)) ?_
 cases H:CB p;refine wW ?_;simp[IT,H];obtain⟨l,b⟩:=Ra H;have f:=Uk (p:=p);refine wW ?_;rw[Np];refine AN (λ_=>True) (λi=>[.u,.u,LS ((Ev p).take i),.u,.u,LI p,.n p.length,.n i,.u]) p.length trivial (by simp) (λi hi _=>?_) (λ_=>?_);have e:((Ev p).take i).length=i:=by simp;omega
 have a:=b i hi;rw[AaZ hi];refine wW ?_;exact cZ (C4 (by omega));rw[List.take_of_length_le (by omega)];have k:=J1 (K:=K) (ws:=Ev p) (sep:=[44]) (by omega) (λx c=>by have:=Yb b x c;omega) (by simp);refine wW ?_;refine cW k ?_;simp[IT,H]
theorem AUW[HA K]{p:List Int}(h:p.length<=1048576):K 529 [LI p] [.s (IT p)]:=by
 refine qw I529 ?_
 cases H:CB p
 .refine Bj (λ(_:Unit)=>True) (λ_=>[LI p,.u,.s [],.n 0,.u,.u]) (λ_=>0) () trivial rfl (λ_ _=>?_);by_cases h0:0<p.length
  .refine wW ?_;repeat(refine cB (Jy (by omega)) ?_;try simp(disch:=try exact dV) only[AD,H])
   simp[IT,H]
  refine wW ?_;simp[IT,H]
 obtain⟨l,b⟩:=Ra H;have c:=Uk (p:=p);refine AN (λ_=>True) (λi=>[LI p,.u,.s (BE [44] (Ev p) i),.n i,.u,.u]) p.length trivial rfl (λi hi _=>?_) (λ_=>?_);have a:=b i hi;have b1:=IH (sep:=[44]) (Yb b) i;have b2:=Ax (n:=AB p i) (by omega);have B:i*(20+[44].length)<=61*21:=Nat.mul_le_mul (by omega) (by simp);have e:=AWD hi;refine wW ?_;refine cB (Jy (by omega)) ?_;by_cases q:0<i;simp(disch:=try exact dV) only[AD,H];refine cW (By (by omega)) ?_;simp only[BE,if_pos q,e];simp(disch:=try exact dV) only[AD,H];refine cW (By (by omega)) ?_;simp only[BE,if_neg q,e,List.append_nil];refine wW ?_;have g:glue [44] (Ev p)=BE [44] (Ev p) p.length:=by rw[glue,c]
 simp[IT,H,g]
def DS(r:List Int):Nat->List Nat
 |0=>[]
 |i+1=>DS r i++AQ (AB r i+1)
theorem K2{r:List Int}(h:∀j:Nat,j<r.length->0<=AB r j/\AB r j<=100):∀i,i<=r.length->(DS r i).length<=i*20
 |0,_=>by simp[DS]
 |i+1,hi=>by have H:=K2 h i (by omega);have a:=h i (by omega);have b:=Ax (n:=AB r i+1) (by omega);simp only[DS,A4];omega
theorem YL{p:List Int}:∀{i:Nat}{r:List Int},r∈Ar p i->∀x∈r,0<=x/\x<i
 |0,r,h=>by simp[Ar]at h
 |i+1,r,h=>by
  have o:∀r∈(if AB p i=(Ar p i).length then Ar p i++[[]]else Ar p i),∀x∈r,0<=x/\x<i:=by
   intro r a
   split at a
   rcases Ac.1 a with q|q
   exact YL q
   simp at q;subst q;simp
   exact YL a
  simp only[Ar,Du]at h
  intro x H
  rcases List.mem_or_eq_of_mem_set h with q|q
  have:=o _ q x H;omega
  subst q
  rcases Ac.1 H with H|H
  have key:∀x∈(AF (if AB p i=(Ar p i).length then Ar p i++[[]]else Ar p i) (AB p i)),0<=x/\x<i:=by
   simp only[AF]
   rcases BS (AB p i).toNat (if AB p i=(Ar p i).length then Ar p i++[[]]else Ar p i).length with q|q
   rw[Ap,FD q]
   exact o _ (List.getElem_mem q)
   rw[Ap,Df q];simp
  have:=key x H;omega
  simp only[List.mem_singleton]at H;omega
def CJ(p:List Int):List (List Int):=if CW p=true then Ar p p.length else []
theorem VW{p:List Int}:(CJ p).length<=8:=by unfold CJ;split;rename_i h;simp only[CW,AV,Aa]at h;have H:=LC h.2;have a:=JG h.2;omega;simp
theorem To{p:List Int}{r:List Int}(h:r∈CJ p):r.length<=8/\∀j:Nat,j<r.length->0<=AB r j/\AB r j<=100:=by
 unfold CJ at h;split at h;rename_i b;simp only[CW,AV,Aa]at b;have c:=NJ h;have H:=YL h;refine⟨by omega,λj a=>?_⟩;have:=H (AB r j) (by simp[AB,a]);omega
 cases h
theorem AIA{b:List (List Int)}{i:Nat}(h:i<b.length):AF b i∈b:=by simp[AF,h]
def EY(p:List Int):List (List Nat):=(CJ p).map λr=>DS r r.length
def JI(p:List Int):List Nat:=glue [124] (EY p)
theorem AfN{p:List Int}{i:Nat}(h:i<(CJ p).length):AG (EY p) i=DS (AF (CJ p) i) (AF (CJ p) i).length:=by simp[AG,EY,AF,h]
theorem Aa7{p:List Int}{i:Nat}(h:i<(CJ p).length):(EY p).take (i+1)=(EY p).take i++[DS (AF (CJ p) i) (AF (CJ p) i).length]:=by rw[CP (by simpa[EY]using h)];simp[EY,AF,h]
theorem Ui{p:List Int}:(EY p).length=(CJ p).length:=by simp[EY]
theorem Yd{p:List Int}:∀x∈EY p,x.length<=160:=by intro x a;obtain⟨r,H,rfl⟩:=List.mem_map.1 a;obtain⟨b,h⟩:=To H;have:=K2 h r.length (Nat.le_refl _);omega
theorem Ww[HA K]{p:List Int}(h:p.length<=1048576):K 537 [LI p] [.s (JI p)]:=by
 have l:=VW (p:=p);have q:=Ui (p:=p);have k:=AC2 (K:=K) (p:=p) (by omega);rw[show(if CW p=true then Ar p p.length else [])=CJ p from rfl]at k;refine qw I537 ?_;refine cW k ?_;rw[Np];refine AN (λ_=>True) (λi=>[.u,.u,LS ((EY p).take i),.u,.u,.u,LL (CJ p),.n (CJ p).length,.n i,.u,.u,.u,.u,.u]) (CJ p).length trivial (by simp) (λi hi _=>?_) (λ_=>?_);have o:((EY p).take i).length=i:=by simp;omega
 obtain⟨b,R⟩:=To (AIA hi);rw[Aa7 hi];refine wW ?_;generalize AF (CJ p) i=r at b R|-;refine AN (λ_=>True) (λj=>[.u,.u,LS ((EY p).take i),.u,.s (DS r j),.u,LL (CJ p),.n (CJ p).length,.n i,.u,LI r,.n r.length,.n j,.u]) r.length trivial rfl (λj H _=>?_) (λ_=>?_);have c:=R j H;have e:=K2 R j (by omega);have f:=Ax (n:=AB r j+1) (by omega);refine wW ?_;exact cZ (C4 (by omega));exact wZ;rw[List.take_of_length_le (by omega)];have g:=J1 (K:=K) (ws:=EY p) (sep:=[124]) (by omega) (λx a=>by have:=Yd x a;omega) (by simp);refine wW ?_;exact cZ g
theorem AWV[HA K]{p:List Int}(h:p.length<=1048576):K 532 [LI p] [.s (JI p)]:=by
 have o:=VW (p:=p);have B:=Ui (p:=p);have k:=UH (K:=K) (p:=p) (by omega);rw[show(if CW p=true then Ar p p.length else [])=CJ p from rfl]at k;refine qw I532 ?_;refine cW k ?_;refine AN (λ_=>True) (λi=>[.u,.u,LL (CJ p),.s (BE [124] (EY p) i),.n i,.u,.u,.u,.u]) (CJ p).length trivial rfl (λi hi _=>?_) (λ_=>?_);obtain⟨F,R⟩:=To (AIA hi);have e:=AfN hi;have b1:=IH (sep:=[124]) (Yd (p:=p)) i;have C:i*(160+[124].length)<=8*161:=Nat.mul_le_mul (by omega) (by simp);obtain⟨a,H⟩:∃a,a=BE [124] (EY p) i++(if 0<i then [124]else []):=⟨_,rfl⟩;have x:a.length<=2000:=by
  rw[H,A4];have:(if 0<i then [124]else []).length<=1:=by split<;>simp
  omega
 have key:BE [124] (EY p) (i+1)=a++DS (AF (CJ p) i) (AF (CJ p) i).length:=by rw[BE,e,H]
 rw[key];have inner:∀(Q:X->Env->Prop)(b:S),True:=λ_ _=>trivial;by_cases q:0<i;rw[if_pos q]at H;refine wW ?_;rw[<-H];refine AN (λ_=>True) (λj=>[.u,.u,LL (CJ p),.s (a++DS (AF (CJ p) i) j),.n i,.n j,.u,.u,.u]) (AF (CJ p) i).length trivial (by simp[DS]) (λj c _=>?_) (λ_=>?_);have f:=R j c;have g:=K2 R j (by omega);have l:=Ax (n:=AB (AF (CJ p) i) j+1) (by omega);refine wW ?_;refine cW (By (by omega)) ?_;simp only[DS,CO];exact wZ;rw[if_neg q,List.append_nil]at H;refine wW ?_;rw[<-H];refine AN (λ_=>True) (λj=>[.u,.u,LL (CJ p),.s (a++DS (AF (CJ p) i) j),.n i,.n j,.u,.u,.u]) (AF (CJ p) i).length trivial (by simp[DS]) (λj c _=>?_) (λ_=>?_);have f:=R j c;have g:=K2 R j (by omega);have l:=Ax (n:=AB (AF (CJ p) i) j+1) (by omega);refine wW ?_;refine cW (By (by omega)) ?_;simp only[DS,CO];exact wZ;refine wW ?_;rw[JI,glue,B]
def BV(m:List Int):Nat->List (List Nat)
 |0=>[]
 |i+1=>if(i:Int)<AB m i then BV m i++[AQ i++[45]++AQ (AB m i)]else BV m i
def Fg(m:List Int):List Nat:=if C1 m=true then(if m.length=0 then [110,111,110,101]else glue [32] (BV m m.length))else []
theorem Oz{m:List Int}:∀i,(BV m i).length<=i
 |0=>by simp[BV]
 |i+1=>by have:=Oz (m:=m) i;unfold BV;split;simp;omega;omega
theorem OQ{m:List Int}(h:C1 m=true):∀i,i<=m.length->∀x∈BV m i,x.length<=41
 |0,_,x,H=>by simp[BV]at H
 |i+1,hi,x,H=>by unfold BV at H;split at H;rcases Ac.1 H with q|q;exact OQ h i (by omega) x q;simp only[List.mem_singleton]at q;obtain⟨b,a⟩:=HZ h;have c:=A5.1 (a i (by omega)).1;have f:=Ax (n:=(i:Int)) (by omega);have F:=Ax (n:=AB m i) (by omega);rw[q];simp only[A4,AO,A6];omega;exact OQ h i (by omega) x H
theorem Yl[HA K]{m:List Int}(h:m.length<=1048576):K 538 [LI m] [.s (Fg m)]:=by
 refine qw I538 ?_;refine cB (Yv (by omega)) ?_
 cases H:C1 m;refine wW ?_;simp[Fg,H];obtain⟨c,a⟩:=HZ H;by_cases h0:m.length=0;simp(disch:=try exact dV) only[AD,h0];simp[Fg,H,h0];refine wW ?_;rw[Np];refine AN (λ_=>True) (λi=>[.u,.u,LS (BV m i),.u,.u,.u,.u,LI m,.n m.length,.n i,.u,.u]) m.length trivial rfl (λi hi _=>?_) (λ_=>?_);have l:=Oz (m:=m) i;have g:=A5.1 (a i hi).1;have f:=Ax (n:=(i:Int)) (by omega);have F:=Ax (n:=AB m i) (by omega);by_cases q:(i:Int)<AB m i;have e:BV m (i+1)=BV m i++[AQ i++[45]++AQ (AB m i)]:=by rw[BV,if_pos q]
 rw[e];refine wW ?_;refine cW (C4 (by omega)) ?_;exact cZ (C4 (by omega));have e:BV m (i+1)=BV m i:=by rw[BV,if_neg q]
 rw[e];exact wZ;have l:=Oz (m:=m) m.length;have k:=J1 (K:=K) (ws:=BV m m.length) (sep:=[32]) (by omega) (λx b=>by have:=OQ H m.length (Nat.le_refl _) x b;omega) (by simp);refine wW ?_;refine cW k ?_;simp[Fg,H,h0]
theorem AfE[HA K]{m:List Int}(h:m.length<=1048576):K 533 [LI m] [.s (Fg m)]:=by
 refine qw I533 ?_
 cases H:C1 m
 .have h0:m.length≠0:=by
   intro q
   have:m=[]:=Dz q
   subst this
   exact absurd H (by decide)
  refine Bj (λ(_:Unit)=>True) (λ_=>[LI m,.u,.s [],.n 0,.u,.u,.u,.u]) (λ_=>0) () trivial rfl (λ_ _=>?_)
  refine wW ?_
  repeat(refine cB (R7 (by omega)) ?_;try simp(disch:=try exact dV) only[AD,H])
  simp[Fg,H]
 obtain⟨o,f⟩:=HZ H;refine AN (λ_=>True) (λi=>[LI m,.u,.s (glue [32] (BV m i)),.n i,.u,.u,.u,.u]) m.length trivial rfl (λi hi _=>?_) (λ_=>?_);have C:=Oz (m:=m) i;have g:=A5.1 (f i hi).1;have F:=Ax (n:=(i:Int)) (by omega);have l:=Ax (n:=AB m i) (by omega);have b1:=NA (sep:=[32]) (OQ H i (by omega));have B:(BV m i).length*(41+[32].length)<=16*42:=Nat.mul_le_mul (by omega) (by simp);refine wW ?_;refine cB (R7 (by omega)) ?_;by_cases q:(i:Int)<AB m i;have e:BV m (i+1)=BV m i++[AQ i++[45]++AQ (AB m i)]:=by rw[BV,if_pos q]
 rw[e,Qj];by_cases k:(BV m i).length=0;have b:BV m i=[]:=Dz k;rw[b,AK1];simp(disch:=try exact dV) only[AD,H];refine cW (By (by omega)) ?_;refine cW (By (by omega)) ?_;simp;have b:(glue [32] (BV m i)==[])=false:=by
  refine beq_eq_false_iff_ne.2 λq=>?_;obtain⟨n,j⟩:∃n,(BV m i).length=n+1:=⟨(BV m i).length-1,by omega⟩;have a:AG (BV m i) n∈BV m i:=by
   have:n<(BV m i).length:=by omega
   simp[AG,this]
  have c:∀i,∀x∈BV m i,x≠[]:=by
   intro i;induction i with
   |zero=>intro x a;simp[BV]at a
   |succ i I=>
    intro x a
    unfold BV at a
    split at a
    .rcases Ac.1 a with q|q
     .exact I x q
     .simp only[List.mem_singleton]at q
      rw[q];simp
    .exact I x a
  have:=c i _ a;rw[glue,j,BE]at q;have Q:=congrArg List.length q;simp only[A4,A6]at Q;have g:(AG (BV m i) n).length≠0:=λq=>this (Dz q);omega
 simp(disch:=try exact dV) only[AD,H,b];refine cW (By (by omega)) ?_;refine cW (By (by omega)) ?_;rw[if_pos (by omega)];simp;have e:BV m (i+1)=BV m i:=by rw[BV,if_neg q]
 rw[e];simp(disch:=try exact dV) only[AD,H];by_cases h0:m.length=0;have e:BV m m.length=[]:=by rw[h0];rfl
 rw[e,AK1];simp(disch:=try exact dV) only[AD,h0];simp[Fg,H,h0];refine wW ?_
 cases b:(glue [32] (BV m m.length)==[]);simp(disch:=try exact dV) only[AD,b];simp[Fg,H,h0];simp(disch:=try exact dV) only[AD,b];simp[Fg,H,h0]
def Fh:List Nat->List Int->List Nat->Nat->Nat->List Int
 |[],out,_,_,_=>out
 |c::w,out,st,n,k=>if c=117 then Fh w out (n::st) (n+1) k else Fh w (BH out (st.headD 0:Nat) k) st.tail n (k+1)
def CZ(w:List Nat):List Int:=Fh w (rep (w.length/2:Nat) 0) [] 0 0
theorem Y0:∀{w:List Nat}{out:List Int}{st:List Nat}{n k:Nat},(Fh w out st n k).length=out.length
 |[],_,_,_,_=>rfl
 |c::w,out,st,n,k=>by rw[Fh];split;exact Y0;rw[Y0,DO]
theorem RM{w:List Nat}:(CZ w).length=w.length/2:=by rw[CZ,Y0,LV];omega
theorem AJ8:∀{w:List Nat}{out:List Int}{st:List Nat}{n k:Nat},(∀x∈out,0<=x/\x<k+w.length+1)->∀x∈Fh w out st n k,0<=x/\x<k+w.length+1
 |[],_,_,_,_,h=>h
 |c::w,out,st,n,k,h=>by
  simp only[AO]at h|-
  rw[Fh]
  split
  intro x H
  have:=AJ8 (w:=w) (out:=out) (st:=n::st) (n:=n+1) (k:=k+1)
  have a:∀(w:List Nat)(out:List Int)(st:List Nat)(n k b:Nat),(∀x∈out,0<=x/\x<(b:Int))->k+w.length<=b->∀x∈Fh w out st n k,0<=x/\x<(b:Int):=by
   intro w
   induction w with
   |nil=>intro out st n k b h _;exact h
   |cons c w i=>
    intro out st n k b h e
    simp only[AO]at e
    rw[Fh]
    split
    .exact i _ _ _ _ _ h (by omega)
    .refine i _ _ _ _ _ (λx H=>?_) (by omega)
     rcases List.mem_or_eq_of_mem_set H with q|q
     .exact h x q
     .omega
  have:=a w out (n::st) (n+1) k (k+(w.length+1)+1) (λx H=>by have:=h x H;omega) (by omega) x H
  omega
  intro x H
  have a:∀(w:List Nat)(out:List Int)(st:List Nat)(n k b:Nat),(∀x∈out,0<=x/\x<(b:Int))->k+w.length<=b->∀x∈Fh w out st n k,0<=x/\x<(b:Int):=by
   intro w
   induction w with
   |nil=>intro out st n k b h _;exact h
   |cons c w i=>
    intro out st n k b h e
    simp only[AO]at e
    rw[Fh]
    split
    .exact i _ _ _ _ _ h (by omega)
    .refine i _ _ _ _ _ (λx H=>?_) (by omega)
     rcases List.mem_or_eq_of_mem_set H with q|q
     .exact h x q
     .omega
  have:=a w (BH out (st.headD 0:Nat) k) st.tail n (k+1) (k+(w.length+1)+1) (λx H=>by
   rcases List.mem_or_eq_of_mem_set H with q|q
   .have:=h x q;omega
   .omega) (by omega) x H
  omega
theorem AfV{l:List Int}{j:Nat}(h:j<l.length):AB l j∈l:=by simp[AB,h]
theorem WM{w:List Nat}(l:w.length<=16)(j:Nat):0<=AB (CZ w) j/\AB (CZ w) j<=16:=by
 rcases BS j (CZ w).length with q|q;have:=AJ8 (w:=w) (out:=rep (w.length/2:Nat) 0) (st:=[]) (n:=0) (k:=0) (λx h=>by simp only[rep,List.mem_replicate]at h;omega) (AB (CZ w) j) (AfV q)
 omega;have e:AB (CZ w) j=0:=by simp[AB,q]
 omega
def nI(st:List Nat):List Int:=(st.map λ(j:Nat)=>(j:Int)).reverse
theorem RC{j:Nat}{t:List Nat}:nI (j::t)=nI t++[(j:Int)]:=by simp[nI]
theorem R9{t:List Nat}:(nI t).length=t.length:=by simp[nI]
structure PQ(w:List Nat)(i:Nat)(x:List Int×List Nat×Nat×Nat):Prop where
 v:Fh (w.drop i) x.1 x.2.1 x.2.2.1 x.2.2.2=CZ w
 l:x.1.length=w.length/2
 s:(x.2.1.length:Int)=Hh w i
 n:x.2.2.1=CT w i
 b:∀j∈x.2.1,j<x.2.2.1
 k:x.2.2.2<=i
theorem AG9{w:List Nat}:PQ w 0 (rep (w.length/2:Nat) 0,[],0,0):=
 ⟨by simp[CZ],by rw[LV];omega,by simp[FW],by simp[CT,AA],by simp,by simp⟩
theorem AMD{w:List Nat}{i:Nat}{out:List Int}{st:List Nat}{n k:Nat}(h:PQ w i (out,st,n,k))(hi:i<w.length)(a:AH w i=117):PQ w (i+1) (out,n::st,n+1,k):=by obtain⟨H,b,e,f,c,g⟩:=h;simp only at H b e f c g;rw[EF hi,Fh,if_pos a]at H;have s:=GN hi a;have l:=Ho hi;rw[if_pos a]at l;refine⟨H,b,by simp only[AO];omega,by simp only;omega,λj o=>?_,by simp only;omega⟩;rcases A7.1 o with q|q;simp only;omega;have:=c j q;simp only;omega
theorem AGF{w:List Nat}{i:Nat}{out:List Int}{j:Nat}{t:List Nat}{n k:Nat}(h:PQ w i (out,j::t,n,k))(hi:i<w.length)(o:AH w i=100):PQ w (i+1) (BH out (j:Nat) k,t,n,k+1):=by obtain⟨H,a,c,e,b,f⟩:=h;simp only[AO]at H a c e b f;rw[EF hi,Fh,if_neg (by omega)]at H;have q:=FO hi o;have g:=Ho hi;rw[if_neg (by omega)]at g;exact⟨H,by simp only[DO];exact a,by simp only;omega,by simp only;omega,λj l=>b j (BN _ l),by simp only;omega⟩
theorem Ai8[HA K]{w:List Nat}(hd:AK w=true):K 539 [.s w] [LI (CZ w),.b true]:=by
 have f:=Af hd;have T:=f.l;have O:=Ld hd;refine qw I539 ?_;repeat(refine cB (Bv (by omega)) ?_;try simp(disch:=try exact dV) only[AD,hd])
 have B:((w.length:Int)/2)=((w.length/2:Nat):Int):=by omega
 simp(disch:=try exact dV) only[AD,B,E3];refine Aj (λi (x:List Int×List Nat×Nat×Nat)=>PQ w i x) (λi x=>[.s w,.u,.u,LI x.1,LI (nI x.2.1),.n x.2.2.1,.n x.2.2.2,.n i,.u,.u,.u]) w.length (rep (w.length/2:Nat) 0,[],0,0) AG9 rfl (λi x hi h=>?_) (λx h=>?_);obtain⟨out,st,n,k⟩:=x;have g:=h.s;have L:=h.n;have q:=h.b;have N:=h.l;have J:=h.k;have Q:=f.h0 (i+1) (by omega);have e:=Ho hi;have P:=JK (w:=w) (a:=i+1) (b:=w.length) (by omega) (by omega);simp only at g L q N J;have M:=R9 (t:=st);rcases f.ud i hi with H|H;rw[if_pos H]at e;have I:=HE (w:=w) (i:=i);simp(disch:=try exact dV) only[AD,H];exact⟨(out,n::st,n+1,k),AMD h hi H,by simp[RC]⟩;have C:=FO hi H;rw[if_neg (by omega)]at e
 cases st with
 |nil=>simp at g;omega
 |cons j t=>
  have R:=q j (by simp)
  have c:=R9 (t:=t)
  have F:AB (nI t++[(j:Int)]) t.length=j:=by rw[<-c];exact Kr
  have G:sub (nI t++[(j:Int)]) 0 t.length=nI t:=by rw[<-c];exact L7
  have f3:(((nI t++[(j:Int)]).length:Nat):Int)=(t.length:Int)+1:=by simp[nI]
  have I:=HE (w:=w) (i:=i)
  simp only[AO]at g
  simp only[RC]
  simp(disch:=try exact dV) only[AD,H,f3,Bm,F,G]
  exact⟨(BH out (j:Nat) k,t,n,k+1),AGF h hi H,by simp⟩
 have o:=h.v;obtain⟨out,st,n,k⟩:=x;rw[List.drop_length]at o;simp only[Fh]at o;refine wW ?_;rw[o]
theorem AfZ[HA K]{w:List Nat}(hd:AK w=true):K 325 [.s w] [LI (CZ w),.b true]:=by
 have f:=Af hd;have T:=f.l;have O:=Ld hd;refine qw I325 ?_;repeat(refine cB (Br (by omega)) ?_;try simp(disch:=try exact dV) only[AD,hd])
 have B:((w.length:Int)/2)=((w.length/2:Nat):Int):=by omega
 simp(disch:=try exact dV) only[AD,B,E3];refine Aj (λi (x:List Int×List Nat×Nat×Nat)=>PQ w i x) (λi x=>[.s w,.u,.u,LI x.1,LI (nI x.2.1),.n x.2.2.1,.n x.2.2.2,.n i,.u,.u,.u]) w.length (rep (w.length/2:Nat) 0,[],0,0) AG9 rfl (λi x hi h=>?_) (λx h=>?_);obtain⟨out,st,n,k⟩:=x;have g:=h.s;have L:=h.n;have q:=h.b;have N:=h.l;have J:=h.k;have Q:=f.h0 (i+1) (by omega);have e:=Ho hi;have P:=JK (w:=w) (a:=i+1) (b:=w.length) (by omega) (by omega);simp only at g L q N J;have M:=R9 (t:=st);rcases f.ud i hi with H|H;rw[if_pos H]at e;have I:=HE (w:=w) (i:=i);simp(disch:=try exact dV) only[AD,H];exact⟨(out,n::st,n+1,k),AMD h hi H,by simp[RC]⟩;have C:=FO hi H;rw[if_neg (by omega)]at e
 cases st with
 |nil=>simp at g;omega
 |cons j t=>
  have R:=q j (by simp)
  have c:=R9 (t:=t)
  have F:AB (nI t++[(j:Int)]) t.length=j:=by rw[<-c];exact Kr
  have G:sub (nI t++[(j:Int)]) 0 t.length=nI t:=by rw[<-c];exact L7
  have f3:(((nI t++[(j:Int)]).length:Nat):Int)=(t.length:Int)+1:=by simp[nI]
  have I:=HE (w:=w) (i:=i)
  simp only[AO]at g
  simp only[RC]
  simp(disch:=try exact dV) only[AD,H,f3,Bm,F,G]
  exact⟨(BH out (j:Nat) k,t,n,k+1),AGF h hi H,by simp⟩
 have o:=h.v;obtain⟨out,st,n,k⟩:=x;rw[List.drop_length]at o;simp only[Fh]at o;refine wW ?_;rw[o]
end Go.Cat
