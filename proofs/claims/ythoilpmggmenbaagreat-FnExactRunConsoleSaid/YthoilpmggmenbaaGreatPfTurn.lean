/-
 Turns of matchings, of partitions, of triangulations.
-/
import Derived.Test.YthoilpmggmenbaaGreatPfLFrz
set_option linter.unusedSimpArgs false
set_option linter.unusedVariables false
namespace Go.Cat
variable{K:Nat->List D->List D->Prop}
theorem AZR{rs:List (List Int)}{j:Int}(h:0<=j/\j<=rs.length):Ep (LL rs) none (some (.n j))=some (LL (sub rs 0 j)):=JO LI KX (Fe h.1) (by omega) (by omega)
def Ji(m:List Int)(k:Nat):List Int:=iter (λi out=>BH out (((i:Int)-k+m.length)%m.length) ((AB m i-k+m.length)%m.length)) m.length (rep m.length 0)
theorem AAH{m:List Int}{k:Nat}:(Ji m k).length=m.length:=by unfold Ji;exact VB (λ(l:List Int)=>l.length=m.length) (by simp[rep]) (λi s h=>by rw[DO];exact h) _
theorem Jv{a n:Int}(h:0<n):0<=a%n/\a%n<n:=⟨Int.emod_nonneg _ (by omega),Int.emod_lt_of_pos _ h⟩
theorem AgQ[HA K]{m:List Int}{k:Nat}(c:C1 m=true)(o:0<m.length)(l:k<m.length)(j:∀i:Nat,i<m.length->0<=AB m i/\AB m i<m.length):K 474 [LI m,.n k] [LI (Ji m k),.b true]:=by
 have g:=(HZ c).1;have H:AR 0 ((m.length:Int)-1) k=true:=A5.2 (by omega);refine qw I474 ?_;refine cB (Yv (by omega)) ?_;rw[c];refine wW ?_;have f:max 0 ((m.length:Int)-1)=(m.length:Int)-1:=by omega
 simp(disch:=try exact dV) only[AD,f];refine cB Bq ?_;simp(disch:=try exact dV) only[AD,H];refine P8 (λi out=>BH out (((i:Int)-k+m.length)%m.length) ((AB m i-k+m.length)%m.length)) (λ_ s=>s.length=m.length) (λi s=>[.u,.n k,.u,.u,.n m.length,LI s,.u,.u,.u,LI m,.n m.length,.n i,.u]) m.length (rep m.length 0) (by simp[rep]) rfl (λi s _ h=>by rw[DO];exact h) (λi s hi e _=>?_) (λs e _=>?_);have R:=j i hi;have q:=Jv (a:=(i:Int)-k+m.length) (n:=m.length) (by omega);have Q:=Jv (a:=AB m i-k+m.length) (n:=m.length) (by omega);exact wZ;refine wW ?_;rw[e]<;>rfl
theorem Ad5[HA K]{m:List Int}{k:Nat}(c:C1 m=true)(o:0<m.length)(l:k<m.length)(j:∀i:Nat,i<m.length->0<=AB m i/\AB m i<m.length):K 477 [LI m,.n k] [LI (Ji m k),.b true]:=by
 have g:=(HZ c).1;have H:AR 0 ((m.length:Int)-1) k=true:=A5.2 (by omega);refine qw I477 ?_;refine cB (R7 (by omega)) ?_;rw[c];have f:max 0 ((m.length:Int)-1)=(m.length:Int)-1:=by omega
 simp(disch:=try exact dV) only[AD,f];refine cB Bt ?_;simp(disch:=try exact dV) only[AD,H];refine P8 (λi out=>BH out (((i:Int)-k+m.length)%m.length) ((AB m i-k+m.length)%m.length)) (λ_ s=>s.length=m.length) (λi s=>[LI m,.n k,.u,.u,.n m.length,LI s,.n i,.u,.u]) m.length (rep m.length 0) (by simp[rep]) rfl (λi s _ h=>by rw[DO];exact h) (λi s hi e _=>?_) (λs e _=>?_);have R:=j i hi;have q:=Jv (a:=(i:Int)-k+m.length) (n:=m.length) (by omega);have Q:=Jv (a:=AB m i-k+m.length) (n:=m.length) (by omega);exact wZ;refine wW ?_;rw[e]<;>rfl
def Ni(p:List Int):List Int:=[AB p ((p.length:Int)-1)]++sub p 0 ((p.length:Int)-1)
def Hy(p:List Int):List Int:=DB (Ni p) (Ni p).length
theorem AAF{p:List Int}(h:0<p.length):(Ni p).length=p.length:=by simp only[Ni,A4,AO,A6,K9];omega
theorem AcN[HA K]{p:List Int}(h:CW p=true)(H:0<p.length):K 435 [LI p] [LI (Hy p),.b true]:=by
 have c:p.length<=8:=by simp[CW]at h;exact h.1
 have a:=AAF H;refine qw I435 ?_;refine cB (APO (p:=p) (by omega)) ?_;rw[h];refine wW ?_;exact cZ (AJV (l:=Ni p) (by omega))
theorem Aa3[HA K]{p:List Int}(h:CW p=true)(H:0<p.length):K 594 [LI p] [LI (Hy p),.b true]:=by
 have c:p.length<=8:=by simp[CW]at h;exact h.1
 have a:=AAF H;refine qw I594 ?_;refine cB (OU (p:=p) (by omega)) ?_;rw[h];refine wW ?_;exact cZ (ASQ (l:=Ni p) (by omega))
theorem AVA[HA K]{n:Int}{r:List Int}(s:0<=n/\n<=1000)(H:FE r):K 605 [.n n,LI r] [.b (EI n r)]:=by
 obtain⟨k,l,o⟩:=H;refine qb I605 ?_;simp(disch:=first|omega|simp only[vl];omega) only[AD];refine Eu (Bq (K:=K)) rfl ?_
 cases c:AR 0 (n-1) (AB r 0);simp(disch:=first|omega|simp only[vl];omega) only[AD];simp[EI,c];simp(disch:=first|omega|simp only[vl];omega) only[AD];refine Eu (Bq (K:=K)) rfl ?_
 cases f:AR 0 (n-1) (AB r 1);have e:EI n r=false:=by simp only[EI,Bool.and_eq_false_iff];refine .inl (.inr ?_);rw[Bool.eq_false_iff];intro q;have a:=A5.1 c;have b:=A5.1 q;have:AR 0 (n-1) (AB r 1)=true:=A5.2 (by omega);rw[this]at f;cases f
 simp(disch:=first|omega|simp only[vl];omega) only[AD];rw[e];have j:=A5.1 c;have a2:=A5.1 f;by_cases x:AB r 1-AB r 0>=2;have Q:AR (AB r 0+2) (n-1) (AB r 1)=true:=A5.2 (by omega);by_cases g:AB r 0=0;by_cases h:AB r 1=n-1;simp(disch:=first|omega|simp only[vl];omega) only[AD];simp[EI,g,h];simp(disch:=first|omega|simp only[vl];omega) only[AD];have i:decide (AB r 1=n-1)=false:=decide_eq_false h;simp only[EI,c,Q,i,Bool.and_false];rfl;simp(disch:=first|omega|simp only[vl];omega) only[AD];simp[EI,c,Q,g];have Q:AR (AB r 0+2) (n-1) (AB r 1)=false:=by rw[Bool.eq_false_iff];intro q;have:=A5.1 q;omega
 simp(disch:=first|omega|simp only[vl];omega) only[AD];simp[EI,Q]
theorem AXS[HA K]{n:Int}{d:List (List Int)}(h:Ck n d=true)(g:∀r∈d,FE r):K 602 [.n n,LL d] [.b true]:=by
 simp only[Ck,AV,Aa]at h;obtain⟨⟨o,J⟩,L⟩:=h;have W:=A5.1 o;have F:max 0 (n-3)=(d.length:Int):=J.symm;refine qb I602 ?_;simp(disch:=first|omega|simp only[vl];omega) only[AD];refine Eu (Bq (K:=K)) rfl ?_;rw[o];simp(disch:=first|omega|simp only[vl];omega) only[AD,F];refine AN (λi=>DF n (d.take i) (d.drop i)=true) (λi=>[.n n,LL d,.u,.u,.u,.u,.u,LL d,.n d.length,.n i,.u,.u,.u,.u,.u,.u,.u]) d.length (by simpa using L) rfl (λi hi P=>?_) (λ_=>?_);rw[AF8 hi]at P;simp only[AV,Bool.or_eq_true,Aa,Ao,Bool.not_eq_true']at P;obtain⟨⟨⟨O,Q⟩,R⟩,s⟩:=P;have j:FE (AF d i):=g _ (by simp[AF,hi]);have M:=j.1;simp(disch:=first|omega|simp only[vl];omega) only[AD];refine Eu (AVA (K:=K) (n:=n) (r:=AF d i) (by omega) j) rfl ?_;rw[O];have fin:∀k:Nat,k<i->Dj (AF d k) (AF d i)=false/\FE (AF d k):=λk H=>by
  have q:AF d k∈d.take i:=by rw[List.mem_iff_getElem];exact⟨k,by simp;omega,by simp[AF,show k<d.length by omega]⟩
  exact⟨R _ q,g _ (List.mem_of_mem_take q)⟩
 have es:sub d 0 (i:Int)=d.take i:=by simp[sub]
 have I:(d.take i).length=i:=by simp;omega
 have G:∀k:Nat,k<i->AF (d.take i) k=AF d k:=λk H=>by simp[AF,Ap,H]
 by_cases h0:i=0;subst h0;simp(disch:=first|omega|simp only[vl];omega) only[AD,es];refine AN (λ_=>True) (λk=>[.n n,LL d,.u,.u,LI (AF d 0),.u,.u,LL d,.n d.length,.n 0,.u,.u,LL (sub d 0 (0:Int)),.n 0,.n k,.u,.u]) 0 trivial rfl (λk H _=>by omega) (λ_=>?_);simp(disch:=first|omega|simp only[vl];omega) only[AD];exact s;have f:Bz (AF d ((i:Int)-1)) (AF d i)=true:=Q.resolve_left h0;have N:FE (AF d ((i:Int)-1)):=g _ (by
  have:((i:Int)-1).toNat=i-1:=by omega
  simp[AF,this,show i-1<d.length by omega])
 have a:decide (KK (AF d ((i:Int)-1)) (AF d i)>=0)=false:=by have:=ACA (x:=AF d ((i:Int)-1)) (y:=AF d i);rw[f]at this;simp only[Aa]at this;exact decide_eq_false (by omega)
 have l:=ACP (K:=K) (x:=AF d ((i:Int)-1)) (y:=AF d i) N.1 j.1;simp(disch:=first|omega|simp only[vl];omega) only[AD];refine Eu (l) rfl ?_;simp(disch:=first|omega|simp only[vl];omega) only[AD,a,AZR,es];refine AN (λ_=>True) (λk=>[.n n,LL d,.u,.u,LI (AF d i),.u,.u,LL d,.n d.length,.n i,.u,.u,LL (d.take i),.n i,.n k,.u,.u]) i trivial ?_ (λk H _=>?_) (λ_=>?_);rw[I]<;>rfl;obtain⟨c,c2⟩:=fin k H;have C:=c2.1;have B:=G k H;simp only[Dj,Bool.or_eq_false_iff,Bool.and_eq_false_iff,decide_eq_false_iff_not]at c;rw[<-B]at c c2 C;obtain⟨y,e⟩:∃y,AF (d.take i) (k:Int)=y:=⟨_,rfl⟩;rw[e]at c c2 C;by_cases T:AB y 0<AB (AF d i) 0;by_cases a2:AB (AF d i) 0<AB y 1;by_cases U:AB y 1<AB (AF d i) 1;omega;simp(disch:=first|omega|simp only[vl];omega) only[AD,e];simp(disch:=first|omega|simp only[vl];omega) only[AD,e];by_cases b1:AB (AF d i) 0<AB y 0;by_cases b2:AB y 0<AB (AF d i) 1;by_cases V:AB (AF d i) 1<AB y 1;omega;simp(disch:=first|omega|simp only[vl];omega) only[AD,e];simp(disch:=first|omega|simp only[vl];omega) only[AD,e];simp(disch:=first|omega|simp only[vl];omega) only[AD,e];simp(disch:=first|omega|simp only[vl];omega) only[AD];exact s;simp(disch:=first|omega|simp only[vl];omega) only[AD]
def KO(n k:Int)(r:List Int):List Int:=[min ((AB r 0+k)%n) ((AB r 1+k)%n),max ((AB r 0+k)%n) ((AB r 1+k)%n)]
def Jd(n k:Int)(d:List (List Int)):List (List Int):=Dt (d.map (KO n k))
theorem AXB{l:List (List Int)}{x:List Int}:Dt (l++[x])=(Bb x (Dt l).reverse).reverse:=by simp only[Dt,J3,List.foldl_append,List.foldl_cons,List.foldl_nil,List.reverse_reverse]
theorem ACJ{α:Type}{l:List (List Int)}{f:List Int->α}{i:Nat}(h:i<l.length):(l.take (i+1)).map f=(l.take i).map f++[f (AF l i)]:=by rw[AFT h,List.map_append]<;>rfl
theorem O4{n:Int}{d:List (List Int)}(h:Ck n d=true):d.length<=7/\2<=n/\n<=10:=by simp only[Ck,AV,Aa]at h;have:=A5.1 h.1.1;have:=h.1.2;omega
theorem AAI{n:Int}:∀{d o:List (List Int)},DF n o d=true->∀r∈d,EI n r=true
 |[],_,_,r,H=>by cases H
 |x::d,o,h,r,H=>by simp only[DF,AV]at h;rcases A7.1 H with rfl|H;exact h.1.1.1;exact AAI h.2 r H
theorem AN9{n:Int}{d:List (List Int)}(h:Ck n d=true){i:Nat}(hi:i<d.length):(0<=AB (AF d i) 0/\AB (AF d i) 0<=n-1)/\0<=AB (AF d i) 1/\AB (AF d i) 1<=n-1:=by simp only[Ck,AV]at h;have:=AAI h.2 (AF d i) (by simp[AF,hi]);simp only[EI,AV]at this;have a:=A5.1 this.1.1;have b:=A5.1 this.1.2;omega
theorem AUQ[HA K]{n k:Int}{d:List (List Int)}(h:Ck n d=true)(c:∀r∈d,FE r)(f:0<=k/\k<n):K 598 [.n n,LL d,.n k] [LL (Jd n k d),.b true]:=by
 obtain⟨g,j⟩:=O4 h;refine qw I598 ?_;refine cW (AXS h c) ?_;refine cB Bq ?_;rw[show AR 0 (n-1) k=true from A5.2 (by omega)];refine wW ?_;refine Aj (λi (o:List (List Int))=>o=(d.take i).map (KO n k)) (λi o=>[.n n,.u,.n k,.u,.u,LL o,.u,.u,.u,.u,LL d,.n d.length,.n i,.u]) d.length [] rfl rfl (λi o hi P=>?_) (λo P=>?_);have H:=c (AF d i) (by simp[AF,hi]);have l:=H.1;have R:=AN9 h hi;have q:o.length=i:=by rw[P];simp;omega
 have Q:=Jv (a:=AB (AF d i) 0+k) (n:=n) (by omega);have B:=Jv (a:=AB (AF d i) 1+k) (n:=n) (by omega);simp(disch:=try exact dV) only[AD,GB];have e:ED false (LL o) (LL [KO n k (AF d i)])=some (LL (o++[KO n k (AF d i)])):=KA ⟨by simp;omega,rfl⟩;simp only[KO]at e;simp(disch:=try exact dV) only[AD,e];refine⟨_,?_,rfl⟩;rw[P,ACJ hi]<;>rfl;rw[List.take_of_length_le (by omega)]at P;have s:=AF5 (K:=K) (d:=o) (by rw[P];simp;omega) (by intro x H;rw[P]at H;obtain⟨r,_,rfl⟩:=List.mem_map.1 H;rfl);refine wW ?_;refine cW s ?_;rw[P]<;>rfl
theorem AWF[HA K]{n k:Int}{d:List (List Int)}(h:Ck n d=true)(e:∀r∈d,FE r)(q:0<=k/\k<n):K 595 [.n n,LL d,.n k] [LL (Jd n k d),.b true]:=by
 obtain⟨s,B⟩:=O4 h;refine qw I595 ?_;refine cB (AI1 (by omega) (by omega) e) ?_;rw[h];refine wW ?_;refine cB Bt ?_;rw[show AR 0 (n-1) k=true from A5.2 (by omega)];refine wW ?_;refine Aj (λi (o:List (List Int))=>o=Dt ((d.take i).map (KO n k))) (λi o=>[.n n,LL d,.n k,.u,.u,LL o,.n i,.u,.u,.u,.u]) d.length [] rfl rfl (λi o hi P=>?_) (λo P=>?_);have g:=e (AF d i) (by simp[AF,hi]);have j:=g.1;have R:=AN9 h hi;have C:o.length=i:=by rw[P,APS];simp;omega
 have Q:=Jv (a:=AB (AF d i) 0+k) (n:=n) (by omega);have F:=Jv (a:=AB (AF d i) 1+k) (n:=n) (by omega);have c:∀z∈o,Ce z:=λz f=>by rw[P,Wg]at f;obtain⟨r,_,rfl⟩:=List.mem_map.1 f;rfl
 have H:=Z1 (K:=K) (l:=o) (x:=KO n k (AF d i)) (by omega) c rfl;simp only[KO]at H;refine wW ?_;refine cW H ?_;refine⟨_,?_,rfl⟩;rw[ACJ hi,AXB,<-P]<;>rfl;rw[List.take_of_length_le (by omega)]at P;refine wW ?_;rw[P]<;>rfl
end Go.Cat
namespace Go.Cat
variable{K:Nat->List D->List D->Prop}
def CA(s:List Nat):Nat:=(s.takeWhile λc=>decide (c≠58)).length
theorem ATH{s:List Nat}:CA s<=s.length:=by have:=(List.takeWhile_sublist (l:=s) (p:=λc=>decide (c≠58))).length_le;exact this
theorem AHI:∀{s:List Nat}{j:Nat},j<CA s->AH s j≠58
 |[],j,h=>by simp[CA]at h
 |c::t,j,h=>by
  by_cases H:c=58;simp[CA,H]at h
  cases j with
  |zero=>simpa[AH]using H
  |succ j=>
   have h:j<CA t:=by simp[CA,H]at h|-;exact h
   have:=AHI h
   simpa[AH]using this
theorem Zr:∀{s:List Nat},CA s<s.length->AH s (CA s)=58
 |[],h=>by simp at h
 |c::t,h=>by
  by_cases H:c=58;simp[CA,H,AH];have e:CA (c::t)=CA t+1:=by simp[CA,H]
  rw[e]at h|-;have:=Zr (s:=t) (by simpa using h);simpa[AH]using this
def Lj(r:List Nat)(k:Nat):List Int:=[(AH r (3*(k:Int)):Int)-48,(AH r (3*(k:Int)+1):Int)-48]
def GG(r:List Nat):List (List Int):=if r=[110,111,110,101]then []else(List.range ((r.length+1)/3)).map (Lj r)
def HH(s:List Nat):Option (List Nat):=
 if C5 (s.take (CA s))=true/\CA s+2<=s.length/\Ck (pR (s.take (CA s))) (GG (s.drop (CA s+2)))=true
 then some (Ij (pR (s.take (CA s))) (GG (s.drop (CA s+2)))).p else none
def HP(s:List Nat):Bool:=(HH s).isSome
def Ge(s:List Nat):List Nat:=(HH s).getD []
theorem AhM{r:List Nat}:(GG r).length<=r.length:=by unfold GG;split;simp;rw[List.length_map,List.length_range];omega
theorem QB{s:List Nat}(h:∀c∈s,c<256){i:Int}:AH s i<256:=by unfold AH;rcases BS i.toNat s.length with q|q;rw[Ap,FD q];exact h _ (List.getElem_mem q);rw[Ap,Df q];simp
theorem Ac1{r:List Nat}(h:∀c∈r,c<256):∀x∈GG r,FE x:=by
 intro x H;unfold GG at H;split at H
 cases H;obtain⟨k,_,rfl⟩:=List.mem_map.1 H;have h0:=QB h (i:=3*(k:Int));have a:=QB h (i:=3*(k:Int)+1);refine⟨rfl,?_,?_⟩;show -1000<=(AH r (3*(k:Int)):Int)-48/\(AH r (3*(k:Int)):Int)-48<=1000;omega;show -1000<=(AH r (3*(k:Int)+1):Int)-48/\(AH r (3*(k:Int)+1):Int)-48<=1000;omega
theorem AhL:Az []=false:=by cases h:Az [];rfl;obtain⟨x,H,_⟩:=FL h;have:=BT.tl x;rw[<-H]at this;simp at this
theorem AAV{s:List Nat}:-999999999<=pR s/\pR s<=999999999:=by unfold pR;split;rename_i h;simp only[C5,AV,Aa]at h;exact h.1;omega
theorem AdL:D.l []=LL []:=rfl
theorem AFO[HA K]{n:Int}{d:List (List Int)}:K 577 [.s (if Ck n d=true then(Ij n d).t else [])] [.s (if Ck n d=true then(Ij n d).p else []),.b (Ck n d)]:=by cases h:Ck n d;simpa using AFV (K:=K) AhL;simpa using Wt (K:=K) (Vw h)
theorem AfR[HA K]{s:List Nat}(h:s.length<=1000)(U:∀c∈s,c<256):K 582 [.s s] [.s (Ge s),.b (HP s)]:=by
 have P:=ATH (s:=s);have Q:=S1 (K:=K) (s:=s.take (CA s)) (by simp;omega);have g:sub s 0 (CA s:Int)=s.take (CA s):=by simp[sub]
 refine qw I582 ?_;refine AN (λ_=>True) (λi=>[.s s,.u,.u,.n i,.u,.u,.u,.u,.u,.u,.u,.u,.u,.u,.u,.u]) (CA s) trivial rfl (λi hi _=>?_) (λ_=>?_);have G:=AHI hi;simp(disch:=omega) only[AD,G];by_cases C:CA s<s.length
 .have x:=Zr C;simp(disch:=omega) only[AD,x];rw[g];refine cB Q ?_;by_cases H:C5 (s.take (CA s))=true
  .by_cases O:CA s+2<=s.length
   .have I:(s.drop (CA s+2)).length=s.length-(CA s+2):=by simp
    have M:sub s ((CA s:Int)+2) (s.length:Int)=s.drop (CA s+2):=by
     have e:((CA s:Int)+2).toNat=CA s+2:=by omega
     simp[sub,e]
    have f:∀c∈s.drop (CA s+2),c<256:=λc P=>U c (List.mem_of_mem_drop P);have F:=AAV (s:=s.take (CA s));generalize Y:pR (s.take (CA s))=n at F;generalize V:s.drop (CA s+2)=r at I M f;have W:=AhM (r:=r);have l:=Ac1 f;have L:=AOP (K:=K) (n:=n) (d:=GG r) (by omega) (by omega) l;have fin:∀b,Ck n (GG r)=b->HH s=if b=true then some (Ij n (GG r)).p else none:=by intro b j;simp only[HH,Y,V,H,O,j];simp
    simp(disch:=omega) only[AD,H,AdL];rw[M];by_cases o:r=[110,111,110,101];have q:GG r=[]:=if_pos o;have a:(r==[110,111,110,101])=true:=by simpa using o
    refine AN (λ_=>True) (λ_=>[.u,.u,.u,.u,.n n,.u,LL [],.s r,.n 0,.u,.u,.u,.u,.u,.u,.u]) 0 trivial rfl (λi hi _=>absurd hi (by omega)) (λ_=>?_);rw[q]at L fin;have Z:r.length=4:=by rw[o];rfl
    have J:=AFO (K:=K) (n:=n) (d:=[]);simp(disch:=omega) only[AD,a];refine cW L ?_;refine cB J ?_
    cases j:Ck n [];refine wW ?_;simp only[Ge,HP,fin false j];rfl;refine wW ?_;simp only[Ge,HP,fin true j];rfl;have q:GG r=(List.range ((r.length+1)/3)).map (Lj r):=if_neg o;have a:(r==[110,111,110,101])=false:=beq_eq_false_iff_ne.2 o;refine AN (λ_=>True) (λk=>[.u,.u,.u,.u,.n n,.u,LL ((List.range k).map (Lj r)),.s r,.n (3*(k:Int)),.u,.u,.u,.u,.u,.u,.u]) ((r.length+1)/3) trivial rfl (λk hk _=>?_) (λ_=>?_)
    .have B:((List.range k).map (Lj r)).length=k:=by simp
     have b0:=QB f (i:=3*(k:Int));have b1:=QB f (i:=3*(k:Int)+1);have R:3*((k+1:Nat):Int)=3*(k:Int)+3:=by omega
     rw[List.range_succ,List.map_append,R];have T:ED false (LL (List.map (Lj r) (List.range k))) (LL [[(AH r (3*(k:Int)):Int)-48,(AH r (3*(k:Int)+1):Int)-48]])=some (LL (List.map (Lj r) (List.range k)++[Lj r k])):=OV (by rw[B];simp;omega);simp(disch:=omega) only[AD,a,T];try rfl
    rw[<-q];by_cases hrr:3*(((r.length+1)/3:Nat):Int)+1<r.length;omega;have J:=AFO (K:=K) (n:=n) (d:=GG r);simp(disch:=omega) only[AD,a];refine cW L ?_;refine cB J ?_
    cases j:Ck n (GG r);refine wW ?_;simp only[Ge,HP,fin false j];rfl;refine wW ?_;simp only[Ge,HP,fin true j];rfl
   have N:HH s=none:=by simp[HH,O]
   simp(disch:=omega) only[AD,H];simp only[Ge,HP,N];rfl
  have N:HH s=none:=by simp[HH,H]
  simp(disch:=omega) only[AD,H];simp only[Ge,HP,N];rfl
 have N:HH s=none:=by
  have:¬CA s+2<=s.length:=by omega
  simp[HH,this]
 refine wW ?_;rw[g];refine cB Q ?_;by_cases H:C5 (s.take (CA s))=true;simp(disch:=omega) only[AD,H];simp only[Ge,HP,N];rfl;simp(disch:=omega) only[AD,H];simp only[Ge,HP,N];rfl
end Go.Cat
