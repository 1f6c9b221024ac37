/-
 Turns of matchings, of partitions, of triangulations.
-/
import Derived.Test.YthoilpmggmenbaaGreatPfLFrz
set_option linter.unusedSimpArgs false
set_option linter.unusedVariables false
namespace Go.Cat
variable{K:Nat->List D->List D->Prop}
theorem Ac1{rs:List (List Int)}{j:Int}(h:0<=j/\j<=rs.length):FC (LL rs) none (some (.n j))=some (LL (sub rs 0 j)):=Jq LI Jv (Fp h.1) (by omega) (by omega)
def KA(m:List Int)(k:Nat):List Int:=iter (λi out=>BE out (((i:Int)-k+m.length)%m.length) ((AB m i-k+m.length)%m.length)) m.length (rep m.length 0)
theorem AS6{m:List Int}{k:Nat}:(KA m k).length=m.length:=by unfold KA;exact Vh (λ(l:List Int)=>l.length=m.length) (by simp[rep]) (λi s h=>by rw[DN];exact h) _
theorem Ko{a n:Int}(h:0<n):0<=a%n/\a%n<n:=⟨Int.emod_nonneg _ (by omega),Int.emod_lt_of_pos _ h⟩
theorem AaP[HA K]{m:List Int}{k:Nat}(c:Ca m=true)(o:0<m.length)(l:k<m.length)(j:∀i:Nat,i<m.length->0<=AB m i/\AB m i<m.length):K 474 [LI m,.n k] [LI (KA m k),.b true]:=by
 have g:=(HT c).1;have H:AR 0 ((m.length:Int)-1) k=true:=A7.2 (by omega);refine qw I474 ?_;refine cB (AGU (by omega)) ?_;rw[c];refine wW ?_;have f:max 0 ((m.length:Int)-1)=(m.length:Int)-1:=by omega
 simp(disch:=try exact dV) only[AD,f];refine cB Br ?_;simp(disch:=try exact dV) only[AD,H];refine Pw (λi out=>BE out (((i:Int)-k+m.length)%m.length) ((AB m i-k+m.length)%m.length)) (λ_ s=>s.length=m.length) (λi s=>[.u,.n k,.u,.u,.n m.length,LI s,.u,.u,.u,LI m,.n m.length,.n i,.u]) m.length (rep m.length 0) (by simp[rep]) rfl (λi s _ h=>by rw[DN];exact h) (λi s hi e _=>?_) (λs e _=>?_);have R:=j i hi;have q:=Ko (a:=(i:Int)-k+m.length) (n:=m.length) (by omega);have Q:=Ko (a:=AB m i-k+m.length) (n:=m.length) (by omega);exact wZ;refine wW ?_;rw[e]<;>rfl
theorem AV9[HA K]{m:List Int}{k:Nat}(c:Ca m=true)(o:0<m.length)(l:k<m.length)(j:∀i:Nat,i<m.length->0<=AB m i/\AB m i<m.length):K 477 [LI m,.n k] [LI (KA m k),.b true]:=by
 have g:=(HT c).1;have H:AR 0 ((m.length:Int)-1) k=true:=A7.2 (by omega);refine qw I477 ?_;refine cB (SU (by omega)) ?_;rw[c];have f:max 0 ((m.length:Int)-1)=(m.length:Int)-1:=by omega
 simp(disch:=try exact dV) only[AD,f];refine cB Bt ?_;simp(disch:=try exact dV) only[AD,H];refine Pw (λi out=>BE out (((i:Int)-k+m.length)%m.length) ((AB m i-k+m.length)%m.length)) (λ_ s=>s.length=m.length) (λi s=>[LI m,.n k,.u,.u,.n m.length,LI s,.n i,.u,.u]) m.length (rep m.length 0) (by simp[rep]) rfl (λi s _ h=>by rw[DN];exact h) (λi s hi e _=>?_) (λs e _=>?_);have R:=j i hi;have q:=Ko (a:=(i:Int)-k+m.length) (n:=m.length) (by omega);have Q:=Ko (a:=AB m i-k+m.length) (n:=m.length) (by omega);exact wZ;refine wW ?_;rw[e]<;>rfl
def NL(p:List Int):List Int:=[AB p ((p.length:Int)-1)]++sub p 0 ((p.length:Int)-1)
def IY(p:List Int):List Int:=DB (NL p) (NL p).length
theorem AFU{p:List Int}(h:0<p.length):(NL p).length=p.length:=by simp only[NL,AW,AP,A5,J6];omega
theorem AcY[HA K]{p:List Int}(h:CZ p=true)(H:0<p.length):K 435 [LI p] [LI (IY p),.b true]:=by
 have c:p.length<=8:=by simp[CZ]at h;exact h.1
 have a:=AFU H;refine qw I435 ?_;refine cB (AHZ (p:=p) (by omega)) ?_;rw[h];refine wW ?_;exact cZ (Z1 (l:=NL p) (by omega))
theorem Af7[HA K]{p:List Int}(h:CZ p=true)(H:0<p.length):K 594 [LI p] [LI (IY p),.b true]:=by
 have c:p.length<=8:=by simp[CZ]at h;exact h.1
 have a:=AFU H;refine qw I594 ?_;refine cB (PL (p:=p) (by omega)) ?_;rw[h];refine wW ?_;exact cZ (AJD (l:=NL p) (by omega))
theorem AhV[HA K]{n:Int}{r:List Int}(s:0<=n/\n<=1000)(H:FV r):K 605 [.n n,LI r] [.b (EH n r)]:=by
 obtain⟨k,l,o⟩:=H;refine qb I605 ?_;simp(disch:=first|omega|simp only[vl];omega) only[AD];refine DU (Br (K:=K)) rfl ?_
 cases c:AR 0 (n-1) (AB r 0);simp(disch:=first|omega|simp only[vl];omega) only[AD];simp[EH,c];simp(disch:=first|omega|simp only[vl];omega) only[AD];refine DU (Br (K:=K)) rfl ?_
 cases f:AR 0 (n-1) (AB r 1);have e:EH n r=false:=by simp only[EH,Bool.and_eq_false_iff];refine .inl (.inr ?_);rw[Bool.eq_false_iff];intro q;have a:=A7.1 c;have b:=A7.1 q;have:AR 0 (n-1) (AB r 1)=true:=A7.2 (by omega);rw[this]at f;cases f
 simp(disch:=first|omega|simp only[vl];omega) only[AD];rw[e];have j:=A7.1 c;have a2:=A7.1 f;by_cases x:AB r 1-AB r 0>=2;have Q:AR (AB r 0+2) (n-1) (AB r 1)=true:=A7.2 (by omega);by_cases g:AB r 0=0;by_cases h:AB r 1=n-1;simp(disch:=first|omega|simp only[vl];omega) only[AD];simp[EH,g,h];simp(disch:=first|omega|simp only[vl];omega) only[AD];have i:decide (AB r 1=n-1)=false:=decide_eq_false h;simp only[EH,c,Q,i,Bool.and_false];rfl;simp(disch:=first|omega|simp only[vl];omega) only[AD];simp[EH,c,Q,g];have Q:AR (AB r 0+2) (n-1) (AB r 1)=false:=by rw[Bool.eq_false_iff];intro q;have:=A7.1 q;omega
 simp(disch:=first|omega|simp only[vl];omega) only[AD];simp[EH,Q]
theorem AVY[HA K]{n:Int}{d:List (List Int)}(h:Cp n d=true)(g:∀r∈d,FV r):K 602 [.n n,LL d] [.b true]:=by
 simp only[Cp,AV,Ac]at h;obtain⟨⟨o,J⟩,L⟩:=h;have W:=A7.1 o;have F:max 0 (n-3)=(d.length:Int):=J.symm;refine qb I602 ?_;simp(disch:=first|omega|simp only[vl];omega) only[AD];refine DU (Br (K:=K)) rfl ?_;rw[o];simp(disch:=first|omega|simp only[vl];omega) only[AD,F];refine AN (λi=>DG n (d.take i) (d.drop i)=true) (λi=>[.n n,LL d,.u,.u,.u,.u,.u,LL d,.n d.length,.n i,.u,.u,.u,.u,.u,.u,.u]) d.length (by simpa using L) rfl (λi hi P=>?_) (λ_=>?_);rw[ADJ hi]at P;simp only[AV,Bool.or_eq_true,Ac,Ao,Bool.not_eq_true']at P;obtain⟨⟨⟨O,Q⟩,R⟩,s⟩:=P;have j:FV (AG d i):=g _ (by simp[AG,hi]);have M:=j.1;simp(disch:=first|omega|simp only[vl];omega) only[AD];refine DU (AhV (K:=K) (n:=n) (r:=AG d i) (by omega) j) rfl ?_;rw[O];have fin:∀k:Nat,k<i->Du (AG d k) (AG d i)=false/\FV (AG d k):=λk H=>by
  have q:AG d k∈d.take i:=by rw[List.mem_iff_getElem];exact⟨k,by simp;omega,by simp[AG,show k<d.length by omega]⟩
  exact⟨R _ q,g _ (List.mem_of_mem_take q)⟩
 have es:sub d 0 (i:Int)=d.take i:=by simp[sub]
 have I:(d.take i).length=i:=by simp;omega
 have G:∀k:Nat,k<i->AG (d.take i) k=AG d k:=λk H=>by simp[AG,Ap,H]
 by_cases h0:i=0;subst h0;simp(disch:=first|omega|simp only[vl];omega) only[AD,es];refine AN (λ_=>True) (λk=>[.n n,LL d,.u,.u,LI (AG d 0),.u,.u,LL d,.n d.length,.n 0,.u,.u,LL (sub d 0 (0:Int)),.n 0,.n k,.u,.u]) 0 trivial rfl (λk H _=>by omega) (λ_=>?_);simp(disch:=first|omega|simp only[vl];omega) only[AD];exact s;have f:CC (AG d ((i:Int)-1)) (AG d i)=true:=Q.resolve_left h0;have N:FV (AG d ((i:Int)-1)):=g _ (by
  have:((i:Int)-1).toNat=i-1:=by omega
  simp[AG,this,show i-1<d.length by omega])
 have a:decide (Jy (AG d ((i:Int)-1)) (AG d i)>=0)=false:=by have:=AD1 (x:=AG d ((i:Int)-1)) (y:=AG d i);rw[f]at this;simp only[Ac]at this;exact decide_eq_false (by omega)
 have l:=ASY (K:=K) (x:=AG d ((i:Int)-1)) (y:=AG d i) N.1 j.1;simp(disch:=first|omega|simp only[vl];omega) only[AD];refine DU (l) rfl ?_;simp(disch:=first|omega|simp only[vl];omega) only[AD,a,Ac1,es];refine AN (λ_=>True) (λk=>[.n n,LL d,.u,.u,LI (AG d i),.u,.u,LL d,.n d.length,.n i,.u,.u,LL (d.take i),.n i,.n k,.u,.u]) i trivial ?_ (λk H _=>?_) (λ_=>?_);rw[I]<;>rfl;obtain⟨c,c2⟩:=fin k H;have C:=c2.1;have B:=G k H;simp only[Du,Bool.or_eq_false_iff,Bool.and_eq_false_iff,decide_eq_false_iff_not]at c;rw[<-B]at c c2 C;obtain⟨y,e⟩:∃y,AG (d.take i) (k:Int)=y:=⟨_,rfl⟩;rw[e]at c c2 C;by_cases T:AB y 0<AB (AG d i) 0;by_cases a2:AB (AG d i) 0<AB y 1;by_cases U:AB y 1<AB (AG d i) 1;omega;simp(disch:=first|omega|simp only[vl];omega) only[AD,e];simp(disch:=first|omega|simp only[vl];omega) only[AD,e];by_cases b1:AB (AG d i) 0<AB y 0;by_cases b2:AB y 0<AB (AG d i) 1;by_cases V:AB (AG d i) 1<AB y 1;omega;simp(disch:=first|omega|simp only[vl];omega) only[AD,e];simp(disch:=first|omega|simp only[vl];omega) only[AD,e];simp(disch:=first|omega|simp only[vl];omega) only[AD,e];simp(disch:=first|omega|simp only[vl];omega) only[AD];exact s;simp(disch:=first|omega|simp only[vl];omega) only[AD]
def Kf(n k:Int)(r:List Int):List Int:=[min ((AB r 0+k)%n) ((AB r 1+k)%n),max ((AB r 0+k)%n) ((AB r 1+k)%n)]
def JQ(n k:Int)(d:List (List Int)):List (List Int):=Dv (d.map (Kf n k))
theorem AVA{l:List (List Int)}{x:List Int}:Dv (l++[x])=(Bh x (Dv l).reverse).reverse:=by simp only[Dv,J1,List.foldl_append,List.foldl_cons,List.foldl_nil,List.reverse_reverse]
theorem ADA{α:Type}{l:List (List Int)}{f:List Int->α}{i:Nat}(h:i<l.length):(l.take (i+1)).map f=(l.take i).map f++[f (AG l i)]:=by rw[AQ0 h,List.map_append]<;>rfl
theorem Q1{n:Int}{d:List (List Int)}(h:Cp n d=true):d.length<=7/\2<=n/\n<=10:=by simp only[Cp,AV,Ac]at h;have:=A7.1 h.1.1;have:=h.1.2;omega
theorem AHS{n:Int}:∀{d o:List (List Int)},DG n o d=true->∀r∈d,EH n r=true
 |[],_,_,r,H=>by cases H
 |x::d,o,h,r,H=>by simp only[DG,AV]at h;rcases A6.1 H with rfl|H;exact h.1.1.1;exact AHS h.2 r H
theorem ABQ{n:Int}{d:List (List Int)}(h:Cp n d=true){i:Nat}(hi:i<d.length):(0<=AB (AG d i) 0/\AB (AG d i) 0<=n-1)/\0<=AB (AG d i) 1/\AB (AG d i) 1<=n-1:=by simp only[Cp,AV]at h;have:=AHS h.2 (AG d i) (by simp[AG,hi]);simp only[EH,AV]at this;have a:=A7.1 this.1.1;have b:=A7.1 this.1.2;omega
theorem Ak8[HA K]{n k:Int}{d:List (List Int)}(h:Cp n d=true)(c:∀r∈d,FV r)(f:0<=k/\k<n):K 598 [.n n,LL d,.n k] [LL (JQ n k d),.b true]:=by
 obtain⟨g,j⟩:=Q1 h;refine qw I598 ?_;refine cW (AVY h c) ?_;refine cB Br ?_;rw[show AR 0 (n-1) k=true from A7.2 (by omega)];refine wW ?_;refine Ah (λi (o:List (List Int))=>o=(d.take i).map (Kf n k)) (λi o=>[.n n,.u,.n k,.u,.u,LL o,.u,.u,.u,.u,LL d,.n d.length,.n i,.u]) d.length [] rfl rfl (λi o hi P=>?_) (λo P=>?_);have H:=c (AG d i) (by simp[AG,hi]);have l:=H.1;have R:=ABQ h hi;have q:o.length=i:=by rw[P];simp;omega
 have Q:=Ko (a:=AB (AG d i) 0+k) (n:=n) (by omega);have B:=Ko (a:=AB (AG d i) 1+k) (n:=n) (by omega);simp(disch:=try exact dV) only[AD,Fv];have e:EG false (LL o) (LL [Kf n k (AG d i)])=some (LL (o++[Kf n k (AG d i)])):=KG ⟨by simp;omega,rfl⟩;simp only[Kf]at e;simp(disch:=try exact dV) only[AD,e];refine⟨_,?_,rfl⟩;rw[P,ADA hi]<;>rfl;rw[List.take_of_length_le (by omega)]at P;have s:=AAW (K:=K) (d:=o) (by rw[P];simp;omega) (by intro x H;rw[P]at H;obtain⟨r,_,rfl⟩:=List.mem_map.1 H;rfl);refine wW ?_;refine cW s ?_;rw[P]<;>rfl
theorem AdK[HA K]{n k:Int}{d:List (List Int)}(h:Cp n d=true)(e:∀r∈d,FV r)(q:0<=k/\k<n):K 595 [.n n,LL d,.n k] [LL (JQ n k d),.b true]:=by
 obtain⟨s,B⟩:=Q1 h;refine qw I595 ?_;refine cB (AK1 (by omega) (by omega) e) ?_;rw[h];refine wW ?_;refine cB Bt ?_;rw[show AR 0 (n-1) k=true from A7.2 (by omega)];refine wW ?_;refine Ah (λi (o:List (List Int))=>o=Dv ((d.take i).map (Kf n k))) (λi o=>[.n n,LL d,.n k,.u,.u,LL o,.n i,.u,.u,.u,.u]) d.length [] rfl rfl (λi o hi P=>?_) (λo P=>?_);have g:=e (AG d i) (by simp[AG,hi]);have j:=g.1;have R:=ABQ h hi;have C:o.length=i:=by rw[P,AIV];simp;omega
 have Q:=Ko (a:=AB (AG d i) 0+k) (n:=n) (by omega);have F:=Ko (a:=AB (AG d i) 1+k) (n:=n) (by omega);have c:∀z∈o,Cg z:=λz f=>by rw[P,UO]at f;obtain⟨r,_,rfl⟩:=List.mem_map.1 f;rfl
 have H:=AMJ (K:=K) (l:=o) (x:=Kf n k (AG d i)) (by omega) c rfl;simp only[Kf]at H;refine wW ?_;refine cW H ?_;refine⟨_,?_,rfl⟩;rw[ADA hi,AVA,<-P]<;>rfl;rw[List.take_of_length_le (by omega)]at P;refine wW ?_;rw[P]<;>rfl
end Go.Cat
namespace Go.Cat
variable{K:Nat->List D->List D->Prop}
def CD(s:List Nat):Nat:=(s.takeWhile λc=>decide (c≠58)).length
theorem AWK{s:List Nat}:CD s<=s.length:=by have:=(List.takeWhile_sublist (l:=s) (p:=λc=>decide (c≠58))).length_le;exact this
theorem ADE:∀{s:List Nat}{j:Nat},j<CD s->AH s j≠58
 |[],j,h=>by simp[CD]at h
 |c::t,j,h=>by
  by_cases H:c=58;simp[CD,H]at h
  cases j with
  |zero=>simpa[AH]using H
  |succ j=>
   have h:j<CD t:=by simp[CD,H]at h|-;exact h
   have:=ADE h
   simpa[AH]using this
theorem AMT:∀{s:List Nat},CD s<s.length->AH s (CD s)=58
 |[],h=>by simp at h
 |c::t,h=>by
  by_cases H:c=58;simp[CD,H,AH];have e:CD (c::t)=CD t+1:=by simp[CD,H]
  rw[e]at h|-;have:=AMT (s:=t) (by simpa using h);simpa[AH]using this
def LK(r:List Nat)(k:Nat):List Int:=[(AH r (3*(k:Int)):Int)-48,(AH r (3*(k:Int)+1):Int)-48]
def GL(r:List Nat):List (List Int):=if r=[110,111,110,101]then []else(List.range ((r.length+1)/3)).map (LK r)
def HB(s:List Nat):Option (List Nat):=
 if C7 (s.take (CD s))=true/\CD s+2<=s.length/\Cp (pR (s.take (CD s))) (GL (s.drop (CD s+2)))=true
 then some (I2 (pR (s.take (CD s))) (GL (s.drop (CD s+2)))).p else none
def HN(s:List Nat):Bool:=(HB s).isSome
def GP(s:List Nat):List Nat:=(HB s).getD []
theorem AX8{r:List Nat}:(GL r).length<=r.length:=by unfold GL;split;simp;rw[List.length_map,List.length_range];omega
theorem PO{s:List Nat}(h:∀c∈s,c<256){i:Int}:AH s i<256:=by unfold AH;rcases BQ i.toNat s.length with q|q;rw[Ap,Eg q];exact h _ (List.getElem_mem q);rw[Ap,Dt q];simp
theorem AkV{r:List Nat}(h:∀c∈r,c<256):∀x∈GL r,FV x:=by
 intro x H;unfold GL at H;split at H
 cases H;obtain⟨k,_,rfl⟩:=List.mem_map.1 H;have h0:=PO h (i:=3*(k:Int));have a:=PO h (i:=3*(k:Int)+1);refine⟨rfl,?_,?_⟩;show -1000<=(AH r (3*(k:Int)):Int)-48/\(AH r (3*(k:Int)):Int)-48<=1000;omega;show -1000<=(AH r (3*(k:Int)+1):Int)-48/\(AH r (3*(k:Int)+1):Int)-48<=1000;omega
theorem AZ0:Az []=false:=by cases h:Az [];rfl;obtain⟨x,H,_⟩:=FX h;have:=BT.tl x;rw[<-H]at this;simp at this
theorem Zl{s:List Nat}:-999999999<=pR s/\pR s<=999999999:=by unfold pR;split;rename_i h;simp only[C7,AV,Ac]at h;exact h.1;omega
theorem AZU:D.l []=LL []:=rfl
theorem AJH[HA K]{n:Int}{d:List (List Int)}:K 577 [.s (if Cp n d=true then(I2 n d).t else [])] [.s (if Cp n d=true then(I2 n d).p else []),.b (Cp n d)]:=by cases h:Cp n d;simpa using ABD (K:=K) AZ0;simpa using WN (K:=K) (XX h)
theorem AkA[HA K]{s:List Nat}(h:s.length<=1000)(U:∀c∈s,c<256):K 582 [.s s] [.s (GP s),.b (HN s)]:=by
 have P:=AWK (s:=s);have Q:=Qo (K:=K) (s:=s.take (CD s)) (by simp;omega);have g:sub s 0 (CD s:Int)=s.take (CD s):=by simp[sub]
 refine qw I582 ?_;refine AN (λ_=>True) (λi=>[.s s,.u,.u,.n i,.u,.u,.u,.u,.u,.u,.u,.u,.u,.u,.u,.u]) (CD s) trivial rfl (λi hi _=>?_) (λ_=>?_);have G:=ADE hi;simp(disch:=omega) only[AD,G];by_cases C:CD s<s.length
 .have x:=AMT C;simp(disch:=omega) only[AD,x];rw[g];refine cB Q ?_;by_cases H:C7 (s.take (CD s))=true
  .by_cases O:CD s+2<=s.length
   .have I:(s.drop (CD s+2)).length=s.length-(CD s+2):=by simp
    have M:sub s ((CD s:Int)+2) (s.length:Int)=s.drop (CD s+2):=by
     have e:((CD s:Int)+2).toNat=CD s+2:=by omega
     simp[sub,e]
    have f:∀c∈s.drop (CD s+2),c<256:=λc P=>U c (List.mem_of_mem_drop P);have F:=Zl (s:=s.take (CD s));generalize Y:pR (s.take (CD s))=n at F;generalize V:s.drop (CD s+2)=r at I M f;have W:=AX8 (r:=r);have l:=AkV f;have L:=AGG (K:=K) (n:=n) (d:=GL r) (by omega) (by omega) l;have fin:∀b,Cp n (GL r)=b->HB s=if b=true then some (I2 n (GL r)).p else none:=by intro b j;simp only[HB,Y,V,H,O,j];simp
    simp(disch:=omega) only[AD,H,AZU];rw[M];by_cases o:r=[110,111,110,101];have q:GL r=[]:=if_pos o;have a:(r==[110,111,110,101])=true:=by simpa using o
    refine AN (λ_=>True) (λ_=>[.u,.u,.u,.u,.n n,.u,LL [],.s r,.n 0,.u,.u,.u,.u,.u,.u,.u]) 0 trivial rfl (λi hi _=>absurd hi (by omega)) (λ_=>?_);rw[q]at L fin;have Z:r.length=4:=by rw[o];rfl
    have J:=AJH (K:=K) (n:=n) (d:=[]);simp(disch:=omega) only[AD,a];refine cW L ?_;refine cB J ?_
    cases j:Cp n [];refine wW ?_;simp only[GP,HN,fin false j];rfl;refine wW ?_;simp only[GP,HN,fin true j];rfl;have q:GL r=(List.range ((r.length+1)/3)).map (LK r):=if_neg o;have a:(r==[110,111,110,101])=false:=beq_eq_false_iff_ne.2 o;refine AN (λ_=>True) (λk=>[.u,.u,.u,.u,.n n,.u,LL ((List.range k).map (LK r)),.s r,.n (3*(k:Int)),.u,.u,.u,.u,.u,.u,.u]) ((r.length+1)/3) trivial rfl (λk hk _=>?_) (λ_=>?_)
    .have B:((List.range k).map (LK r)).length=k:=by simp
     have b0:=PO f (i:=3*(k:Int));have b1:=PO f (i:=3*(k:Int)+1);have R:3*((k+1:Nat):Int)=3*(k:Int)+3:=by omega
     rw[List.range_succ,List.map_append,R];have T:EG false (LL (List.map (LK r) (List.range k))) (LL [[(AH r (3*(k:Int)):Int)-48,(AH r (3*(k:Int)+1):Int)-48]])=some (LL (List.map (LK r) (List.range k)++[LK r k])):=O8 (by rw[B];simp;omega);simp(disch:=omega) only[AD,a,T];try rfl
    rw[<-q];by_cases hrr:3*(((r.length+1)/3:Nat):Int)+1<r.length;omega;have J:=AJH (K:=K) (n:=n) (d:=GL r);simp(disch:=omega) only[AD,a];refine cW L ?_;refine cB J ?_
    cases j:Cp n (GL r);refine wW ?_;simp only[GP,HN,fin false j];rfl;refine wW ?_;simp only[GP,HN,fin true j];rfl
   have N:HB s=none:=by simp[HB,O]
   simp(disch:=omega) only[AD,H];simp only[GP,HN,N];rfl
  have N:HB s=none:=by simp[HB,H]
  simp(disch:=omega) only[AD,H];simp only[GP,HN,N];rfl
 have N:HB s=none:=by
  have:¬CD s+2<=s.length:=by omega
  simp[HB,this]
 refine wW ?_;rw[g];refine cB Q ?_;by_cases H:C7 (s.take (CD s))=true;simp(disch:=omega) only[AD,H];simp only[GP,HN,N];rfl;simp(disch:=omega) only[AD,H];simp only[GP,HN,N];rfl
end Go.Cat
