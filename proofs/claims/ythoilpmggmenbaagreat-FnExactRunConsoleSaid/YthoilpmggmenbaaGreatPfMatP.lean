/-
 The partners of a path's letters, as both sides find them.
-/
import Derived.Test.YthoilpmggmenbaaGreatPfLFCl
set_option linter.unusedSimpArgs false
set_option linter.unusedVariables false
namespace Go.Cat
variable{K:Nat->List D->List D->Prop}
def cI(l:List Nat):List Int:=l.map λ(j:Nat)=>(j:Int)
theorem AJI{j:Nat}{l:List Nat}:(cI (j::l)).reverse=(cI l).reverse++[(j:Int)]:=by simp[cI]
theorem AOO{l:List Nat}:((cI l).reverse).length=l.length:=by simp[cI]
theorem ABI{l:List Nat}:(cI l).length=l.length:=by simp[cI]
theorem OI{w:List Nat}{i:Nat}:Hh w i<=i:=by have:=PD (w:=w.take i) (c:=117);simp only[Hh];simp only[List.length_take]at this;omega
def PS(w:List Nat)(i:Nat)(out:List Int)(st:List Nat):Prop:=
 SO w st i/\out.length=w.length/\∀a:Nat,a<i->a∉st->∃b:Nat,AB out a=b/\(PR w a b\/PR w b a)
theorem ABN{w:List Nat}{i:Nat}{out:List Int}{st:List Nat}(h:PS w i out st)(hi:i<w.length)(g:AH w i=117):PS w (i+1) out (i::st):=by obtain⟨b,c,f⟩:=h;refine⟨ARR b hi g,c,λa j H=>?_⟩;have e:a≠i:=λe=>H (by rw[e];exact List.mem_cons_self ..);exact f a (by omega) λq=>H (BN _ q)
theorem AEZ{w:List Nat}{i j:Nat}{out:List Int}{st:List Nat}(h:PS w i out (j::st))(hi:i<w.length)(hd:AH w i=100):PS w (i+1) (BH (BH out i j) j i) st:=by obtain⟨H,c,f⟩:=h;obtain⟨Q,k⟩:=AKE H hi hd;have o:=Q.1;refine⟨k,by rw[DO,DO,c],λa l g=>?_⟩;rw[H6 (by rw[DO];omega),H6 (by omega)];by_cases e:j=a;subst e;rw[if_pos rfl];exact⟨i,rfl,.inl Q⟩;rw[if_neg e];by_cases b:i=a;subst b;rw[if_pos rfl];exact⟨j,rfl,.inr Q⟩;rw[if_neg b];exact f a (by omega) λq=>by rcases A7.1 q with q|q;exact e q.symm;exact g q
theorem Q3[HA K]{w:List Nat}(M:AK w=true):∃rs,(∃m,rs=[LI m]/\PP w m)/\K 373 [.s w] rs:=by
 have hd:=Af M;have Q:=hd.l;refine qx ABW ?_;refine wW ?_;refine Aj (λi (x:List Int×List Nat)=>PS w i x.1 x.2) (λi x=>[.s w,.u,LI x.1,LI (cI x.2).reverse,.n i,.u,.u,.u]) w.length (rep w.length 0,[]) ⟨by simp[SO,FW],by simp[rep],by simp⟩ rfl (λi x hi h=>?_) (λx h=>?_);obtain⟨out,st⟩:=x;simp only at h;have k:=LR h.1;have f:=AOO (l:=st);have c:=ABI (l:=st);have L:=OI (w:=w) (i:=i);have g:=h.2.1;rcases hd.ud i hi with b|b;simp(disch:=try exact dV) only[AD,b];exact⟨(out,i::st),ABN h hi b,by rw[AJI]⟩;have e:=FO hi b;have N:=hd.h0 (i+1) (by omega)
 cases st with
 |nil=>simp only[A6]at k;omega
 |cons j t=>
  have P:=h.1.1
  have H:((cI t).reverse).length=t.length:=AOO
  have o:AB ((cI t).reverse++[(j:Int)]) t.length=j:=by rw[<-H];exact Kr
  have B:sub ((cI t).reverse++[(j:Int)]) 0 t.length=(cI t).reverse:=by rw[<-H];exact L7
  have C:((((cI t).reverse++[(j:Int)]).length:Nat):Int)=(t.length:Int)+1:=by simp[H]
  have J:=ABI (l:=t)
  simp only[AO]at k
  simp only[AJI]
  simp(disch:=try exact dV) only[AD,b,C,o,B,Bm]
  exact⟨(BH (BH out i j) j i,t),AEZ h hi b,rfl⟩
 obtain⟨out,st⟩:=x;simp only at h;refine wW ?_;refine⟨_,rfl,h.2.1,λa I=>?_⟩;obtain⟨F,O,G⟩:=h;refine G a I λq=>?_;have:=LR F;rw[hd.he]at this;have:st=[]:=Dz (by omega);subst this
 cases q
theorem l4u[HA K]{w:List Nat}{i k:Nat}(hd:DY w)(h:PR w i k):K 370 [.s w,.n i] [.n k]:=by
 have f:=hd.l;have hi:i<w.length:=by have:=h.1;have:=h.2.1;omega
 have a:AH w i=117:=by
  rcases hd.ud i hi with q|q;exact q;have:=FO hi q;have:=h.2.2.2 (i+1) (by omega) (by have:=h.1;omega)
  omega
 refine qb AHP ?_;simp(disch:=omega) only[AD,a];refine Bj (λ(x:Nat)=>i<=x/\x<=k) (λx=>[.s w,.n i,.u,.n (Hh w x-Hh w i),.n x,.u,.u,.u,.u,.u,.u,.u,.u]) (λx=>k-x) i ⟨by omega,by have:=h.1;omega⟩ (by simp) ?_;intro x g;have c:=h.2.1;have b:=hd.h0 x (by omega);have b1:=hd.h0 i (by omega);have b2:Hh w x<=x/\Hh w i<=i:=⟨OI,OI⟩;have key:Hh w (x+1)-Hh w i=0↔x=k:=by constructor;intro q;by_cases e:x=k;exact e;have:=h.2.2.2 (x+1) (by omega) (by omega);omega;rintro rfl;have:=h.2.2.1;omega
 rcases hd.ud x (by omega)with q|q
 have e:=GN (i:=x) (by omega) q;by_cases H:x=k;have:=key.2 H;subst H;simp(disch:=omega) only[AD,q];have:¬(Hh w x-Hh w i+1=0):=λz=>H (key.1 (by omega));simp(disch:=omega) only[AD,q];exact⟨x+1,by omega,by omega,by simp;omega⟩;have e:=FO (i:=x) (by omega) q;by_cases H:x=k;have:=key.2 H;subst H;simp(disch:=omega) only[AD,q];have:¬(Hh w x-Hh w i-1=0):=λz=>H (key.1 (by omega));simp(disch:=omega) only[AD,q];exact⟨x+1,by omega,by omega,by simp;omega⟩
theorem l4d[HA K]{w:List Nat}{i k:Nat}(hd:DY w)(h:PR w k i):K 370 [.s w,.n i] [.n k]:=by
 have c:=hd.l;have hi:i<w.length:=h.2.1;have a:=h.1;have b:AH w i=100:=by
  rcases hd.ud i hi with q|q;have:=GN hi q;have:=h.2.2.2 i (by omega) (by omega)
  have:=h.2.2.1;omega;exact q
 refine qb AHP ?_;simp(disch:=omega) only[AD,b];refine Bj (λ(x:Nat)=>k<=x/\x<=i) (λx=>[.s w,.u,.u,.n (Hh w (x+1)-Hh w k),.u,.n x,.u,.u,.u,.u,.u,.u,.u]) (λx=>x) i ⟨by omega,by omega⟩ (by rw[h.2.2.1];simp) ?_;intro x f;have B:=hd.h0 (x+1) (by omega);have b1:=hd.h0 k (by omega);have b2:Hh w (x+1)<=((x+1:Nat):Int)/\Hh w k<=k:=⟨OI,OI⟩;have key:Hh w x-Hh w k=0↔x=k:=by constructor;intro q;by_cases e:x=k;exact e;have:=h.2.2.2 x (by omega) (by omega);omega;rintro rfl;omega
 rcases hd.ud x (by omega)with q|q
 have e:=GN (i:=x) (by omega) q;by_cases H:x=k;have:=key.2 H;subst H;simp(disch:=omega) only[AD,q];have:¬(Hh w (x+1)-Hh w k-1=0):=λz=>H (key.1 (by omega));simp(disch:=omega) only[AD,q];refine⟨x-1,by omega,by omega,?_⟩;rw[show x-1+1=x by omega,show((x-1:Nat):Int)=(x:Int)-1 by omega,show Hh w (x+1)-Hh w k-1=Hh w x-Hh w k by omega];have e:=FO (i:=x) (by omega) q;by_cases H:x=k;have:=key.2 H;subst H;simp(disch:=omega) only[AD,q];have:¬(Hh w (x+1)-Hh w k+1=0):=λz=>H (key.1 (by omega));simp(disch:=omega) only[AD,q];refine⟨x-1,by omega,by omega,?_⟩;rw[show x-1+1=x by omega,show((x-1:Nat):Int)=(x:Int)-1 by omega,show Hh w (x+1)-Hh w k+1=Hh w x-Hh w k by omega]
theorem AXY[HA K]{w:List Nat}{m:List Int}{i:Nat}(hd:DY w)(h:PP w m)(hi:i<w.length):K 370 [.s w,.n i] [.n (AB m i)]:=by obtain⟨b,e,q⟩:=h.2 i hi;rw[e];rcases q with q|q;exact l4u (K:=K) hd q;exact l4d (K:=K) hd q
theorem AW2:D.l []=LI []:=rfl
theorem AeX{m:List Int}{i:Nat}(h:i<m.length):m.take (i+1)=m.take i++[AB m i]:=by rw[CP h];simp[AB,h]
theorem Ws[HA K]{w:List Nat}{m:List Int}(H:AK w=true)(h:PP w m):K 356 [.s w] [LI m,.b true]:=by
 have hd:=Af H;have a:=hd.l;have c:=h.1;refine qw I356 ?_;rw[AW2];refine AN (λ_=>True) (λi=>[.s w,.u,.u,LI (m.take i),.n i,.u]) w.length trivial (by simp) (λi hi _=>?_) (λ_=>?_)
 .have e:(m.take i).length=i:=by simp;omega
  refine wW ?_;repeat(refine cB (Br (by omega)) ?_;try simp(disch:=try exact dV) only[AD,H])
  refine cW (AXY hd h hi) ?_;rw[AeX (by omega)]
 refine wW ?_;repeat(refine cB (Br (by omega)) ?_;try simp(disch:=try exact dV) only[AD,H])
 rw[List.take_of_length_le (by omega)]
def Dk(s:List Bool):Nat:=s.countP λb=>!b
theorem R2{s:List Bool}{i:Nat}{b:Bool}:Cb s i b=s.set i b:=by simp[Cb]
theorem TA:∀{s:List Bool}{i:Nat},i<s.length->s.getD i false=false->Dk (s.set i true)+1=Dk s
 |[],i,h,_=>by simp at h
 |b::s,0,_,h=>by simp only[List.getD_cons_zero]at h;subst h;simp[Dk]
 |b::s,i+1,h,H=>by have:=TA (s:=s) (i:=i) (by simpa using h) (by simpa using H);simp only[Dk,List.set_cons_succ,List.countP_cons]at this|-;omega
theorem Z6:∀{s:List Bool}{i:Nat},Dk (s.set i true)<=Dk s
 |[],i=>by simp[Dk]
 |b::s,0=>by simp[Dk,List.countP_cons]
 |b::s,i+1=>by have:=Z6 (s:=s) (i:=i);simp only[Dk,List.set_cons_succ,List.countP_cons]at this|-;omega
def Fk(a b:List Int):Nat->List Bool->Int->List Bool
 |0,s,_=>s
 |f+1,s,c=>if CQ s c=true then s else Fk a b f (Cb (Cb s c true) (AB a c) true) (AB b (AB a c))
theorem APQ{a b:List Int}:∀{f:Nat}{s:List Bool}{x:Int},(Fk a b f s x).length=s.length
 |0,_,_=>rfl
 |f+1,s,x=>by unfold Fk;split;rfl;rw[APQ,G1,G1]
def DJ(a b:List Int):Nat->List Bool×Nat
 |0=>(rep a.length false,0)
 |i+1=>if CQ (DJ a b i).1 i=true then DJ a b i else(Fk a b (a.length+1) (DJ a b i).1 i,(DJ a b i).2+1)
theorem Sl{a b:List Int}:∀i,(DJ a b i).1.length=a.length/\(DJ a b i).2<=i
 |0=>by simp[DJ,rep]
 |i+1=>by have:=Sl (a:=a) (b:=b) i;unfold DJ;split;omega;simp only[APQ];omega
def HK(a b:List Int):Nat:=(DJ a b a.length).2
def KV(m:List Int):Prop:=∀j:Nat,j<m.length->0<=AB m j/\AB m j<m.length
theorem NL{m:List Int}(h:C1 m=true):KV m:=λj H=>by
 have:=A5.1 ((HZ h).2 j H).1
 omega
theorem Pd{m:List Int}(h:KV m){x:Int}(H:0<=x/\x<m.length):0<=AB m x/\AB m x<m.length:=by obtain⟨n,rfl⟩:=CE H.1;exact h n (by omega)
theorem KZ{s:List Bool}{n:Nat}:CQ s (n:Int)=s.getD n false:=by simp[CQ]
theorem ADU{a:List Int}{f:Nat}{s:List Bool}{x:Int}(o:s.length=a.length)(e:0<=x/\x<a.length)(b:KV a)(l:Dk s<f+1)(h:CQ s x=false):
  Dk (Cb (Cb s x true) (AB a x) true)<f:=by obtain⟨n,rfl⟩:=CE e.1;have H:=b n (by omega);obtain⟨k,c⟩:=CE H.1;rw[c,R2,R2];rw[KZ]at h;have g:=TA (s:=s) (i:=n) (by omega) h;have j:=Z6 (s:=s.set n true) (i:=k);omega
theorem AXU[HA K]{a b:List Int}(M:a.length<=16)(j:b.length=a.length)(F:KV a)(I:KV b):K 360 [LI a,LI b] [.n (HK a b)]:=by
 refine qw I360 ?_;refine AN (λ_=>True) (λi=>[LI a,LI b,.u,LT (DJ a b i).1,.n (DJ a b i).2,.u,.u,.n a.length,.n i,.u,.u,.u]) a.length trivial rfl (λi hi _=>?_) (λ_=>?_);have h:=Sl (a:=a) (b:=b) i;obtain⟨s,q⟩:∃s,s=(DJ a b i).1:=⟨_,rfl⟩;obtain⟨c,k⟩:∃c,c=(DJ a b i).2:=⟨_,rfl⟩;rw[<-q,<-k]at h;have he:DJ a b (i+1)=if CQ s i=true then(s,c)else(Fk a b (a.length+1) s i,c+1):=by rw[q,k]<;>rfl
 rw[he,<-q,<-k];obtain⟨o,L⟩:=h;obtain⟨R,C⟩:∃R,R=Fk a b (a.length+1) s i:=⟨_,rfl⟩;rw[<-C]
 cases ht:CQ s i;simp only[I1,if_false];simp(disch:=try exact dV) only[AD,ht];refine Bj (λ(x:Nat×List Bool×Int)=>x.2.1.length=a.length/\(0<=x.2.2/\x.2.2<a.length)/\Dk x.2.1<x.1/\Fk a b x.1 x.2.1 x.2.2=R) (λx=>[LI a,LI b,.u,LT x.2.1,.n ((c:Int)+1),.u,.n x.2.2,.n a.length,.n i,.u,.u,.u]) (λx=>x.1) (a.length+1,s,i) ⟨o,by simp;omega,by have:=List.countP_le_length (p:=λb=>!b) (l:=s);simp only[Dk];omega,C.symm⟩ rfl ?_;rintro⟨f,t,x⟩ ⟨G,e,B,g⟩;simp only at G e B g|-;have J:=Pd F e;have H:=Pd I (x:=AB a x) (by omega)
 cases f with
 |zero=>omega
 |succ f=>
  simp only[Fk]at g
  cases hx:CQ t x
  .rw[hx]at g
   simp only[I1,if_false]at g
   simp(disch:=try exact dV) only[AD,hx]
   exact⟨(f,Cb (Cb t x true) (AB a x) true,AB b (AB a x)),by show f<f+1;omega,⟨by rw[G1,G1,G],by rw[<-j];exact H,ADU G e F B hx,g⟩,rfl⟩
  .rw[hx]at g
   simp only[if_true]at g
   simp(disch:=try exact dV) only[AD,hx]
   rw[<-g]
 simp only[if_true];simp(disch:=try exact dV) only[AD,ht];exact wZ
theorem AaD[HA K]{a b:List Int}(o:EG a=true)(B:EG b=true)(q:b.length=a.length):K 371 [LI a,LI b] [.n (HK a b)]:=by
 have H:C1 a=true:=by simp[EG]at o;exact o.1
 have C:C1 b=true:=by simp[EG]at B;exact B.1
 have Q:=(HZ H).1;have e:=NL H;have I:=NL C;refine qw I371 ?_;repeat(refine cB (by first|exact Vt (by omega)|exact Vt (by omega)|fail) ?_;try simp(disch:=try exact dV) only[AD,o,B])
 refine AN (λ_=>True) (λi=>[LI a,LI b,.u,LT (DJ a b i).1,.n (DJ a b i).2,.n i,.u,.u,.u,.u,.u]) a.length trivial rfl (λi hi _=>?_) (λ_=>?_);have h:=Sl (a:=a) (b:=b) i;obtain⟨s,L⟩:∃s,s=(DJ a b i).1:=⟨_,rfl⟩;obtain⟨c,F⟩:∃c,c=(DJ a b i).2:=⟨_,rfl⟩;rw[<-L,<-F]at h;have he:DJ a b (i+1)=if CQ s i=true then(s,c)else(Fk a b (a.length+1) s i,c+1):=by rw[L,F]<;>rfl
 rw[he,<-L,<-F];obtain⟨J,P⟩:=h;obtain⟨R,N⟩:∃R,R=Fk a b (a.length+1) s i:=⟨_,rfl⟩;rw[<-N]
 cases ht:CQ s i;simp only[I1,if_false];simp(disch:=try exact dV) only[AD,ht];refine Bj (λ(x:Nat×List Bool×Int)=>x.2.1.length=a.length/\(0<=x.2.2/\x.2.2<a.length)/\Dk x.2.1<x.1/\Fk a b x.1 x.2.1 x.2.2=R) (λx=>[LI a,LI b,.u,LT x.2.1,.n ((c:Int)+1),.n i,.n x.2.2,.u,.u,.u,.u]) (λx=>x.1) (a.length+1,s,i) ⟨J,by simp;omega,by have:=List.countP_le_length (p:=λb=>!b) (l:=s);simp only[Dk];omega,N.symm⟩ rfl ?_;rintro⟨f,t,x⟩ ⟨G,k,M,g⟩;simp only at G k M g|-;have O:=Pd e k;have j:=Pd I (x:=AB a x) (by omega)
 cases f with
 |zero=>omega
 |succ f=>
  simp only[Fk]at g
  cases hx:CQ t x
  .rw[hx]at g
   simp only[I1,if_false]at g
   simp(disch:=try exact dV) only[AD,hx]
   exact⟨(f,Cb (Cb t x true) (AB a x) true,AB b (AB a x)),by show f<f+1;omega,⟨by rw[G1,G1,G],by rw[<-q];exact j,ADU G k e M hx,g⟩,rfl⟩
  .rw[hx]at g
   simp only[if_true]at g
   simp(disch:=try exact dV) only[AD,hx]
   rw[<-g]
 simp only[if_true];simp(disch:=try exact dV) only[AD,ht];exact wZ
inductive Ir:List (List Nat)->List (List Int)->Prop
 |nil:Ir [] []
 |snoc{ws ms w m}:Ir ws ms->PP w m->Ir (ws++[w]) (ms++[m])
theorem TO{ws ms} (h:Ir ws ms):ms.length=ws.length:=by
 induction h with
 |nil=>rfl
 |snoc _ _ i=>simp[i]
theorem AkT{ws ms} (h:Ir ws ms):∀i:Nat,i<ws.length->PP (AG ws i) (AF ms i):=by
 induction h with
 |nil=>intro i hi;simp at hi
 | @snoc ws ms w m h H I=>
  intro i hi
  have l:=TO h
  rcases BS i ws.length with q|q
  .have:=I i q
   simpa[AG,AF,Ap,DW q,DW (show i<ms.length by omega)]using this
  .have e:i=ws.length:=by simp at hi;omega
   subst e
   have a:AG (ws++[w]) ws.length=w:=by simp[AG,Ap]
   have b:AF (ms++[m]) ws.length=m:=by rw[<-l];simp[AF,Ap]
   rw[a,b]
   exact H
theorem AST:D.l []=LL []:=rfl
theorem AEE{ws:List (List Nat)}{i:Nat}(h:i<ws.length):AG ws i∈ws:=by simp[AG,h]
theorem YX{ws:List (List Nat)}{i:Nat}(h:i<ws.length):ws.take (i+1)=ws.take i++[AG ws i]:=by rw[CP h];simp[AG,h]
theorem OV{a b:List (List Int)}(h:a.length+b.length<=1099511627776):ED false (LL a) (LL b)=some (LL (a++b)):=KA ⟨h,rfl⟩
theorem AeZ[HA K]{n:Nat}(h:n<7):∃rs,(∃ms,rs=[LL ms]/\Ir (AI n) ms)/\K 359 [.n n] rs:=by
 have a:=apl h;refine qx I359 ?_;refine wW ?_;refine cW (AHB h) ?_;rw[AST];refine Aj (λi (ms:List (List Int))=>Ir ((AI n).take i) ms) (λi ms=>[.u,.u,LL ms,.u,LS (AI n),.n (AI n).length,.n i,.u]) (AI n).length [] (by simpa using Ir.nil) rfl (λi ms hi P=>?_) (λms P=>?_);have b:=TO P;have c:((AI n).take i).length=i:=by simp;omega
 obtain⟨_,⟨m,rfl,H⟩,k⟩:=Q3 (K:=K) (w:=AG (AI n) i) (apd h (AEE hi)).1;refine wW ?_;refine cB k ?_;simp(disch:=try exact dV) only[AD,OV];refine⟨ms++[m],?_,rfl⟩;rw[YX hi];exact Ir.snoc P H;rw[List.take_length]at P;refine wW ?_;exact⟨ms,rfl,P⟩
end Go.Cat
