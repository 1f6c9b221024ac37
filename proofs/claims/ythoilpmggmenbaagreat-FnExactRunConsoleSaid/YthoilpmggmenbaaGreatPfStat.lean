/-
 Numbers of paths: heights, returns, area, peaks, places of valleys, runs, depth.
-/
import Derived.Test.YthoilpmggmenbaaGreatPfTree
set_option linter.unusedSimpArgs false
set_option linter.unusedVariables false
namespace Go.Cat
variable{K:Nat->List D->List D->Prop}
theorem QD:D.l []=LI []:=rfl
theorem Wv{m:List Int}{i:Nat}(h:i<m.length):m.take (i+1)=m.take i++[AB m i]:=by rw[CP h];simp[AB,h]
theorem HE{w:List Nat}{i:Nat}:Hh w i<=i/\-(i:Int)<=Hh w i:=by have h:=PD (w:=w.take i) (c:=117);have H:=PD (w:=w.take i) (c:=100);simp only[Hh];simp only[List.length_take]at h H;omega
def hL(w:List Nat):List Int:=(List.range (w.length+1)).map λi=>Hh w i
theorem JR{w:List Nat}:(hL w).length=w.length+1:=by simp[hL]
theorem Io{w:List Nat}{i:Nat}(h:i<w.length+1):AB (hL w) i=Hh w i:=by simp[hL,AB,h]
theorem Uj:∀(w:List Nat)(h:Int),(FY w h).length=w.length
 |[],_=>rfl
 |c::w,h=>by unfold FY;split<;>simp[Uj w]
theorem WU:∀(w:List Nat)(h:Int)(i:Nat),Ht w=true->i<=w.length->AB (h::FY w h) i=h+Hh w i
 |w,h,0,_,_=>by simp[AB,FW]
 |[],h,i+1,_,hi=>by simp at hi
 |c::w,h,i+1,a,hi=>by
  rw[Pv,AV,Aa]at a;have e:∀(l:List Int),AB (h::l) ((i+1:Nat):Int)=AB l i:=λl=>by simp[AB]
  rw[e,Kv];simp only[FY];simp only[AO]at hi;rcases a.1 with H|H;rw[if_pos H,WU w (h+1) i a.2 (by omega),H];simp;omega;rw[if_neg (by omega),WU w (h-1) i a.2 (by omega),H];simp;omega
theorem PU{w:List Nat}(hd:AK w=true):Ht w=true:=by have:=AeS.1 hd;exact this.2.1
theorem AbN{w:List Nat}(hd:AK w=true):Mr w=hL w/\L5 w=true:=by
 have H:Bl w 0=some 0:=by simp only[AK,AV,Aa]at hd;exact hd.1
 refine⟨?_,by simp[L5,H]⟩;simp only[Mr,H];refine HW (by rw[JR,AO,Uj]) λj h=>?_;rw[AO,Uj]at h;rw[WU w 0 j (PU hd) (by omega),Io h];omega
theorem Qm[HA K]{w:List Nat}(hd:AK w=true):K 501 [.s w] [LI (hL w)]:=by
 have h:=(Af hd).l;obtain⟨e,a⟩:=AbN hd;have k:=AO6 (K:=K) (w:=w) (by omega);rw[e,a]at k;refine qw I501 ?_;repeat(refine cB (Bv (by omega)) ?_;try simp(disch:=omega) only[AD,hd])
 exact cZ k
theorem Ym[HA K]{w:List Nat}(hd:AK w=true):K 319 [.s w] [LI (hL w)]:=by
 have H:=Af hd;have f:=H.l;have a:=JR (w:=w);refine qw I319 ?_;repeat(refine cB (Br (by omega)) ?_;try simp(disch:=try exact dV) only[AD,hd])
 rw[QD];refine AN (λ_=>True) (λi=>[.s w,.u,LI ((hL w).take i),.n (Hh w i),.n i,.u,.u,.u]) w.length trivial (by simp[FW]) (λi hi _=>?_) (λ_=>?_);have c:=HE (w:=w) (i:=i);have b:((hL w).take i).length=i:=by simp;omega
 have e:=Wv (m:=hL w) (i:=i) (by omega);rw[Io (by omega)]at e;rw[e];rcases H.ud i hi with h|h;rw[GN hi h];simp(disch:=try exact dV) only[AD,h];rw[FO hi h];simp(disch:=try exact dV) only[AD,h];have b:((hL w).take w.length).length=w.length:=by simp;omega
 have e:=Wv (m:=hL w) (i:=w.length) (by omega);rw[Io (by omega),List.take_of_length_le (by omega)]at e;refine wW ?_;rw[<-e]
def JD(w:List Nat)(i:Nat):Nat:=CX (λj=>if Hh w (j+1)=0 then 1 else 0) i
theorem AGI{w:List Nat}{i:Nat}:JD w i<=i:=by have:=Kl (g:=λj=>if Hh w (j+1)=0 then 1 else 0) (b:=1) (λj=>by split<;>omega) i;unfold JD;omega
theorem AkQ{l:List Int}{i:Nat}(h:i+1<l.length):AB (sub l 1 l.length) i=AB l ((i+1:Nat):Int):=by simp[AB,sub,Ap,Nat.add_comm]
theorem AWH[HA K]{w:List Nat}(hd:AK w=true):K 507 [.s w] [.n (JD w w.length)]:=by
 have c:=(Af hd).l;have H:=JR (w:=w);have h:(sub (hL w) 1 (hL w).length).length=w.length:=by rw[K9];omega
 refine qw I507 ?_;repeat(refine cB (Bv (by omega)) ?_;try simp(disch:=omega) only[AD,hd])
 refine cB (Qm hd) ?_;simp(disch:=omega) only[AD,h];refine AN (λ_=>True) (λi=>[.u,.u,.n (JD w i),.u,.u,LI (sub (hL w) 1 (hL w).length),.n w.length,.n i,.u,.u]) w.length trivial rfl (λi hi _=>?_) (λ_=>?_)
 .have b:=AGI (w:=w) (i:=i);have e:=AkQ (l:=hL w) (i:=i) (by omega);rw[Io (by omega)]at e;have a:JD w (i+1)=JD w i+(if Hh w (i+1)=0 then 1 else 0):=rfl;by_cases h0:Hh w (i+1)=0
  .rw[a,if_pos h0];simp(disch:=omega) only[AD,h,e];all_goals simp
  rw[a,if_neg h0];simp(disch:=omega) only[AD,h,e];simp
 exact wZ
theorem AGT{f:Nat->Nat}:∀n,CX f (n+1)=f 0+CX (λj=>f (j+1)) n
 |0=>by simp[CX]
 |n+1=>by rw[CX,AGT n];simp only[CX];omega
theorem AaT[HA K]{w:List Nat}(hd:AK w=true):K 294 [.s w] [.n (JD w w.length)]:=by have c:=(Af hd).l;have h:=JR (w:=w);refine qw I294 ?_;refine cB (Ym hd) ?_;simp(disch:=omega) only[AD,h];refine AN (λ_=>True) (λi=>[.u,.u,LI (hL w),.n ((CX (λj=>if Hh w j=0 then 1 else 0) i:Int)-1),.n i,.u,.u]) (w.length+1) trivial rfl (λi hi _=>?_) (λ_=>?_);have H:=Kl (g:=λj=>if Hh w j=0 then 1 else 0) (b:=1) (λj=>by split<;>omega) i;have e:=Io (w:=w) (i:=i) (by omega);have a:CX (λj=>if Hh w j=0 then 1 else 0) (i+1)=CX (λj=>if Hh w j=0 then 1 else 0) i+(if Hh w i=0 then 1 else 0):=rfl;by_cases h0:Hh w i=0;rw[a,if_pos h0];simp(disch:=omega) only[AD,h,e];simp;rw[a,if_neg h0];simp(disch:=omega) only[AD,h,e];simp;have e:=AGT (f:=λj=>if Hh w j=0 then 1 else 0) w.length;simp only[FW,if_true]at e;simp(disch:=omega) only[AD,h];rw[e];exact Dn (by simp only[JD];omega)
def GX(w:List Nat):Nat->Int
 |0=>0
 |i+1=>GX w i+(if AH w i=117 then Hh w i else 0)
theorem Rr{w:List Nat}(l:w.length<=16):∀{i:Nat},i<=w.length->-(i*16:Int)<=GX w i/\GX w i<=i*16
 |0,_=>by simp[GX]
 |i+1,h=>by have:=Rr l (i:=i) (by omega);have:=HE (w:=w) (i:=i);simp only[GX];split<;>omega
theorem ATP[HA K]{w:List Nat}(hd:AK w=true):K 465 [.s w] [.n (GX w w.length)]:=by
 have b:=(Af hd).l;have H:=JR (w:=w);refine qw I465 ?_;repeat(refine cB (Bv (by omega)) ?_;try simp(disch:=omega) only[AD,hd])
 refine cW (Qm hd) ?_;refine AN (λ_=>True) (λi=>[.s w,.u,.n (GX w i),LI (hL w),.n i,.u,.u,.u]) w.length trivial rfl (λi hi _=>?_) (λ_=>?_);have c:=Rr b (i:=i) (by omega);have a:=HE (w:=w) (i:=i);have e:=Io (w:=w) (i:=i) (by omega);by_cases h:AH w i=117;simp only[GX,if_pos h];simp(disch:=omega) only[AD,h,e];simp only[GX,if_neg h];refine wW ?_;simp;exact wZ
theorem AU7[HA K]{w:List Nat}(hd:AK w=true):K 296 [.s w] [.n (GX w w.length)]:=by have b:=(Af hd).l;have h:=JR (w:=w);refine qw I296 ?_;refine cW (Ym hd) ?_;refine AN (λ_=>True) (λi=>[.s w,.u,LI (hL w),.n (GX w i),.n i,.u,.u,.u]) w.length trivial rfl (λi hi _=>?_) (λ_=>?_);have c:=Rr b (i:=i) (by omega);have a:=HE (w:=w) (i:=i);have e:=Io (w:=w) (i:=i) (by omega);by_cases H:AH w i=117;simp only[GX,if_pos H];simp(disch:=omega) only[AD,H,e,h];simp only[GX,if_neg H];simp(disch:=omega) only[AD,h];simp;simp(disch:=omega) only[AD,h]
def DI(a b:Nat)(g:Nat->Nat)(w:List Nat)(i:Nat):Nat:=CX (λj=>if AH w j=a/\AH w ((j:Int)+1)=b then g j else 0) i
theorem Ln{a b:Nat}{g:Nat->Nat}{w:List Nat}(H:∀j,j<16->g j<=16):∀{i:Nat},i<=16->DI a b g w i<=i*16
 |0,_=>by simp[DI,CX]
 |i+1,h=>by have c:=Ln (a:=a) (b:=b) (w:=w) H (i:=i) (by omega);have e:=H i (by omega);simp only[DI,CX]at c|-;split<;>omega
theorem AWG[HA K]{w:List Nat}(hd:AK w=true):K 280 [.s w] [.n (DI 117 100 (λ_=>1) w (w.length-1))]:=by
 have f:=(Af hd).l;refine qw I280 ?_;repeat(refine cB (Bv (by omega)) ?_;try simp(disch:=omega) only[AD,hd])
 refine AN (λ_=>True) (λi=>[.s w,.u,.n (DI 117 100 (λ_=>1) w i),.n ((i:Int)+1),.u,.u,.u]) (w.length-1) trivial rfl (λi hi _=>?_) (λ_=>?_)
 .have c:=Ln (a:=117) (b:=100) (g:=λ_=>1) (w:=w) (λ_ _=>by omega) (i:=i) (by omega);have e:DI 117 100 (λ_=>1) w (i+1)=DI 117 100 (λ_=>1) w i+(if AH w i=117/\AH w ((i:Int)+1)=100 then 1 else 0):=rfl;by_cases h:AH w i=117
  .by_cases H:AH w ((i:Int)+1)=100
   .rw[e,if_pos ⟨h,H⟩];simp(disch:=omega) only[AD,h,H,Bm];all_goals simp
   rw[e,if_neg λq=>H q.2];simp(disch:=omega) only[AD,h,Bm];simp
  rw[e,if_neg λq=>h q.1];simp(disch:=omega) only[AD,Bm];simp
 exact wZ
theorem AfP{w:List Nat}{i:Nat}(h:i+1<w.length):sub w i ((i:Int)+1+1)=[AH w i,AH w ((i:Int)+1)]:=by
 have e:((i:Int)+1+1).toNat=i+2:=by omega
 have H:(w.take i).length=i:=by simp;omega
 simp only[sub,e,BM];rw[show i+2=(i+1)+1 by omega,CP (by omega),CP (by omega),CO,List.drop_append_of_le_length (by omega),List.drop_of_length_le (by omega)];have a:((i:Int)+1)=((i+1:Nat):Int):=by omega
 rw[a];simp only[AH,BM,Ap,FD h,FD (show i<w.length by omega)];rfl
theorem AY2[HA K]{w:List Nat}(hd:AK w=true):K 293 [.s w] [.n (DI 117 100 (λ_=>1) w (w.length-1))]:=by
 have j:=(Af hd).l;refine qw I293 ?_;repeat(refine cB (Br (by omega)) ?_;try simp(disch:=omega) only[AD,hd])
 refine AN (λ_=>True) (λi=>[.s w,.u,.n (DI 117 100 (λ_=>1) w i),.n ((i:Int)+1),.u,.u,.u]) (w.length-1) trivial rfl (λi hi _=>?_) (λ_=>?_)
 .have H:=Ln (a:=117) (b:=100) (g:=λ_=>1) (w:=w) (λ_ _=>by omega) (i:=i) (by omega);have c:DI 117 100 (λ_=>1) w (i+1)=DI 117 100 (λ_=>1) w i+(if AH w i=117/\AH w ((i:Int)+1)=100 then 1 else 0):=rfl;have f:=AfP (w:=w) (i:=i) (by omega);by_cases h:AH w i=117/\AH w ((i:Int)+1)=100
  .have e:([AH w i,AH w ((i:Int)+1)]==[117,100])=true:=by rw[h.1,h.2];rfl
   rw[c,if_pos h];simp(disch:=omega) only[AD,Bm,f,e];all_goals simp
  have e:([AH w i,AH w ((i:Int)+1)]==[117,100])=false:=by refine beq_eq_false_iff_ne.2 λq=>h ?_;simp at q;exact q
  rw[c,if_neg h];simp(disch:=omega) only[AD,Bm,f,e];simp
 exact wZ
theorem AfF[HA K]{w:List Nat}(hd:AK w=true):K 512 [.s w] [.n (DI 100 117 (λj=>j+1) w (w.length-1))]:=by
 have f:=(Af hd).l;refine qw I512 ?_;repeat(refine cB (Bv (by omega)) ?_;try simp(disch:=omega) only[AD,hd])
 refine AN (λ_=>True) (λi=>[.s w,.u,.n (DI 100 117 (λj=>j+1) w i),.n ((i:Int)+1),.u,.u,.u]) (w.length-1) trivial rfl (λi hi _=>?_) (λ_=>?_);have c:=Ln (a:=100) (b:=117) (g:=λj=>j+1) (w:=w) (λ_ _=>by omega) (i:=i) (by omega);have e:DI 100 117 (λj=>j+1) w (i+1)=DI 100 117 (λj=>j+1) w i+(if AH w i=100/\AH w ((i:Int)+1)=117 then i+1 else 0):=rfl;by_cases h:AH w i=100;by_cases H:AH w ((i:Int)+1)=117;rw[e,if_pos ⟨h,H⟩];simp(disch:=omega) only[AD,h,H,Bm];simp;rw[e,if_neg λq=>H q.2];simp(disch:=omega) only[AD,h,Bm];simp;rw[e,if_neg λq=>h q.1];simp(disch:=omega) only[AD,Bm];simp;exact wZ
theorem AjD[HA K]{w:List Nat}(hd:AK w=true):K 303 [.s w] [.n (DI 100 117 (λj=>j+1) w (w.length-1))]:=by
 have f:=(Af hd).l;refine qw I303 ?_;repeat(refine cB (Br (by omega)) ?_;try simp(disch:=omega) only[AD,hd])
 refine AN (λ_=>True) (λi=>[.s w,.u,.n (DI 100 117 (λj=>j+1) w i),.n ((i:Int)+1),.u,.u,.u]) (w.length-1) trivial rfl (λi hi _=>?_) (λ_=>?_);have c:=Ln (a:=100) (b:=117) (g:=λj=>j+1) (w:=w) (λ_ _=>by omega) (i:=i) (by omega);have e:DI 100 117 (λj=>j+1) w (i+1)=DI 100 117 (λj=>j+1) w i+(if AH w i=100/\AH w ((i:Int)+1)=117 then i+1 else 0):=rfl;by_cases h:AH w i=100;by_cases H:AH w ((i:Int)+1)=117;rw[e,if_pos ⟨h,H⟩];simp(disch:=omega) only[AD,h,H,Bm];simp;rw[e,if_neg λq=>H q.2];simp(disch:=omega) only[AD,h,Bm];simp;rw[e,if_neg λq=>h q.1];simp(disch:=omega) only[AD,Bm];simp;exact wZ
end Go.Cat
namespace Go.Cat
variable{K:Nat->List D->List D->Prop}
def BT.p:BT->List Nat
 |.lf=>[]
 |.nd l r=>117::(l.p++100::r.p)
theorem BT.pl:∀x:BT,x.p.length=2*x.n
 |.lf=>rfl
 |.nd l r=>by have:=BT.pl l;have:=BT.pl r;simp only[BT.p,BT.n,AO,A4];omega
theorem Ut:∀(x:BT)(r:List Nat)(h:Int),0<=h->Bl (x.p++r) h=Bl r h
 |.lf,r,h,_=>rfl
 |.nd a b,r,h,h0=>by simp only[BT.p,List.cons_append,CO];rw[Bl,if_pos rfl,Ut a _ _ (by omega),Bl,if_neg (by omega),if_pos rfl,if_neg (by omega),Ut b _ _ (by omega)];congr 1;omega
theorem Ty(x:BT):Bl x.p 0=some 0:=by have:=Ut x [] 0 (by omega);rw[List.append_nil]at this;rw[this]<;>rfl
theorem ACF{x:BT}(h:x.n<=8):AK x.p=true:=by have:=BT.pl x;simp only[AK,Ty,AV,Aa];exact⟨trivial,by omega⟩
theorem YQ:∀(n:Nat)(w:List Nat)(k:Int),w.length<=n->0<=k->Bl w (k+1)=some 0->∃(x:BT)(b:List Nat),w=x.p++100::b/\Bl b k=some 0
 |_,[],k,_,f,h=>by simp[Bl]at h;omega
 |0,c::w,k,H,_,_=>by simp at H
 |n+1,c::w,k,H,f,h=>by
  simp only[AO]at H
  simp only[Bl]at h
  by_cases a:c=117
  rw[if_pos a]at h
  obtain⟨l,b1,e,i⟩:=YQ n w (k+1) (by omega) (by omega) h
  have o:b1.length<=n:=by
   have:=congrArg List.length e
   simp only[A4,AO]at this
   omega
  obtain⟨r,b2,g,j⟩:=YQ n b1 k o f i
  refine⟨.nd l r,b2,?_,j⟩
  rw[a,e,g]
  simp[BT.p]
  rw[if_neg a]at h
  by_cases hd:c=100
  rw[if_pos hd,if_neg (by omega)]at h
  refine⟨.lf,w,by simp[BT.p,hd],?_⟩
  rw[<-h];congr 1;omega
  rw[if_neg hd]at h;cases h
theorem AJW:∀(n:Nat)(w:List Nat),w.length<=n->Bl w 0=some 0->∃x:BT,w=x.p
 |_,[],_,_=>⟨.lf,rfl⟩
 |0,c::w,H,_=>by simp at H
 |n+1,c::w,H,h=>by
  simp only[AO]at H
  simp only[Bl]at h
  by_cases a:c=117
  rw[if_pos a]at h
  obtain⟨l,b,e,g⟩:=YQ n w 0 (by omega) (by omega) h
  have i:b.length<=n:=by
   have:=congrArg List.length e
   simp only[A4,AO]at this
   omega
  obtain⟨r,f⟩:=AJW n b i g
  exact⟨.nd l r,by rw[a,e,f];rfl⟩
  rw[if_neg a]at h
  by_cases hd:c=100
  rw[if_pos hd,if_pos (by omega)]at h;cases h
  rw[if_neg hd]at h;cases h
theorem Jp{w:List Nat}(hd:AK w=true):∃x:BT,w=x.p/\x.n<=8:=by simp only[AK,AV,Aa]at hd;obtain⟨x,e⟩:=AJW w.length w (Nat.le_refl _) hd.1;have:=BT.pl x;exact⟨x,e,by rw[<-e]at this;omega⟩
theorem BT.WQ:∀{x y:BT}{a b:List Nat},x.p++100::a=y.p++100::b->x=y/\a=b
 |.lf,.lf,a,b,h=>by simpa[BT.p]using h
 |.lf,.nd _ _,a,b,h=>by simp[BT.p]at h
 |.nd _ _,.lf,a,b,h=>by simp[BT.p]at h
 |.nd l r,.nd L R,a,b,h=>by simp only[BT.p,List.cons_append,CO,List.cons.injEq,true_and]at h;obtain⟨H,c⟩:=BT.WQ h;obtain⟨e,f⟩:=BT.WQ c;subst H;subst e;exact⟨rfl,f⟩
theorem BT.AQS{x y:BT}(h:x.p=y.p):x=y:=(BT.WQ (a:=[]) (b:=[]) (by rw[h])).1
open Classical in
noncomputable def Ie(w:List Nat):BT:=if h:∃x:BT,w=x.p then h.choose else .lf
theorem IM{x:BT}:Ie x.p=x:=by have h:∃y:BT,x.p=y.p:=⟨x,rfl⟩;simp only[Ie,dif_pos h];exact(BT.AQS h.choose_spec).symm
theorem hp_0{x:BT}{i:Nat}(h:i<=2*x.n):0<=Hh x.p i:=by have H:=(NW x.p 0 0 (Int.le_refl _)).1 (Ty x);have:=H.2.1 i (by rw[BT.pl];exact h);omega
theorem hp_l{x:BT}:Hh x.p (2*x.n)=0:=by have h:=(NW x.p 0 0 (Int.le_refl _)).1 (Ty x);have:=h.2.2;rw[BT.pl]at this;omega
theorem AgJ{l r:BT}{i:Nat}(h:i<=2*l.n):Hh (BT.nd l r).p (i+1)=1+Hh l.p i:=by simp only[BT.p];rw[Kv,AdI (by rw[BT.pl];exact h)];simp
theorem AQO{l r:BT}:Hh (BT.nd l r).p (2*l.n+2)=0:=by simp only[BT.p];rw[Kv,show 2*l.n+1=l.p.length+1 by rw[BT.pl],AVI,BT.pl,hp_l,Kv,FW];simp
theorem AHF{l r:BT}{i:Nat}(h0:1<=i)(h:i<=2*l.n+1):0<Hh (BT.nd l r).p i:=by obtain⟨j,rfl⟩:∃j,i=j+1:=⟨i-1,by omega⟩;rw[AgJ (by omega)];have:=hp_0 (x:=l) (i:=j) (by omega);omega
theorem Yw{l r:BT}:sub (BT.nd l r).p 1 ((2*l.n+2:Nat)-1:Int)=l.p:=by
 have e:(((2*l.n+2:Nat):Int)-1).toNat=l.p.length+1:=by rw[BT.pl];omega
 show(List.take (((2*l.n+2:Nat):Int)-1).toNat (BT.nd l r).p).drop (1:Int).toNat=_;rw[e];simp[BT.p]
theorem AO1{l r:BT}{j:Int}(h:j=2*(l.n+r.n+1)):sub (BT.nd l r).p ((2*l.n+2:Nat):Int) j=r.p:=by
 have e:(2*l.n+2)=l.p.length+1+1:=by rw[BT.pl]
 have a:(BT.nd l r).p=(117::l.p++[100])++r.p:=by simp[BT.p]
 have b:(117::l.p++[100]).length=2*l.n+2:=by simp[BT.pl]
 have c:j.toNat=(BT.nd l r).p.length:=by rw[BT.pl,BT.n];omega
 simp only[sub,c,List.take_length,BM];rw[a,<-b,List.drop_left]
theorem fr_i[HA K]{l r:BT}(h:(BT.nd l r).n<=8):K 519 [.s (BT.nd l r).p] [.s l.p,.s r.p,.b true]:=by
 have hd:=ACF h;have k:=BT.pl (.nd l r);simp only[BT.n]at h k;have H:=JR (w:=(BT.nd l r).p);have a:((BT.nd l r).p==[])=false:=by simp[BT.p]
 have f:=Yw (l:=l) (r:=r);have g:=AO1 (l:=l) (r:=r) (j:=((BT.nd l r).p.length:Nat)) (by omega);generalize o:(BT.nd l r).p=w at hd k H a f g|-;refine qw ANH ?_;repeat(refine cB (Bv (by omega)) ?_;try simp(disch:=omega) only[AD,hd,a])
 refine cW (Qm hd) ?_;refine Bj (λ(i:Nat)=>1<=i/\i<=2*l.n+2) (λi=>[.s w,.u,.u,.u,LI (hL w),.n i,.u,.u]) (λi=>2*l.n+2-i) 1 (by omega) rfl ?_;intro i hi;have e:=Io (w:=w) (i:=i) (by omega);by_cases q:i=2*l.n+2;have c:Hh w i=0:=by rw[<-o,q];exact AQO
 rw[c]at e;simp(disch:=omega) only[AD,e];subst q;rw[f,g];have c:0<Hh w i:=by rw[<-o];exact AHF hi.1 (by omega)
 simp(disch:=omega) only[AD,e];exact⟨i+1,by omega,by omega,by simp⟩
theorem AbK[HA K]:K 519 [.s []] [.s [],.s [],.b false]:=by refine qw ANH ?_;repeat(first|(refine Eu (Bv (K:=K) (w:=[]) (by simp)) rfl ?_;try simp(disch:=omega) only[AD,show AK []=true from rfl]))
theorem Oo[HA K]:∀{x:BT},x.n<=8->K 514 [.s x.p] [x.d]
 |.lf,_=>by refine qb AOA ?_;simp only[BT.p];refine wW ?_;exact cZ AbK
 |.nd l r,h=>by have H:=h;simp only[BT.n]at H;have k:=Oo (x:=l) (by omega);have a:=Oo (x:=r) (by omega);refine qw AOA ?_;refine cW (fr_i h) ?_;refine cW k ?_;refine cB a ?_;simp(disch:=omega) only[AD,BT.SN];rfl
theorem K4[HA K]:∀{x:BT},x.n<=100000->K 196 [x.d] [.s x.t]
 |.lf,_=>by refine qb AME ?_;simp only[BT.d,BT.t];exact wZ
 |.nd l r,h=>by have H:=h;simp only[BT.n]at H;have k:=K4 (x:=l) (by omega);have a:=K4 (x:=r) (by omega);have T:=BT.tl l;have b:=BT.tl r;refine qb AME ?_;simp only[BT.d,BT.t];simp(disch:=try exact dV) only[AD,BT.Dc,KD];refine cB k ?_;simp(disch:=try exact dV) only[AD,BT.Dc];refine cW a ?_;simp
theorem AZ7[HA K]{l r:BT}(h:(BT.nd l r).n<=8):K 518 [.s (BT.nd l r).p] [.n (2*l.n+1:Nat)]:=by
 have hd:=ACF h;have g:=Af hd;have o:=BT.pl (.nd l r);simp only[BT.n]at h o;have e:∀i:Nat,1<=i->i<=2*l.n+1->0<Hh (BT.nd l r).p i:=λi x B=>AHF x B;have b:=AQO (l:=l) (r:=r);generalize F:(BT.nd l r).p=w at hd g o e b|-;have b:Hh w (2*l.n+1+1)=0:=b;have j:2*l.n+1<w.length:=by omega
 generalize 2*l.n+1=c at e b j|-;refine qw I518 ?_;refine Bj (λ(i:Nat)=>i<=c) (λi=>[.s w,.u,.n (Hh w i),.n i,.u,.u,.u]) (λi=>c+1-i) 0 (by omega) (by simp[FW]) ?_;intro i hi;have C:=HE (w:=w) (i:=i);have a:i<w.length:=by omega
 by_cases q:i=c;subst q;rcases g.ud _ a with H|H;rw[GN a H]at b;have:=e i;by_cases Q:i=0;subst Q;rw[FW]at b;omega;have:=e i (by omega) (by omega);omega;rw[FO a H]at b;simp(disch:=omega) only[AD,H];have k:=e (i+1) (by omega) (by omega);rcases g.ud _ a with H|H;rw[GN a H]at k;have f:=GN a H;simp(disch:=omega) only[AD,H];exact⟨i+1,by omega,by omega,by rw[f];simp⟩;rw[FO a H]at k;have f:=FO a H;simp(disch:=omega) only[AD,H];exact⟨i+1,by omega,by omega,by rw[f];simp⟩
theorem Oy[HA K]:∀{x:BT},x.n<=8->K 513 [.s x.p] [.s x.t]
 |.lf,_=>by refine qb ZB ?_;simp only[BT.p,BT.t];exact wZ
 |.nd l r,h=>by
  have B:=h;simp only[BT.n]at B;have C:=Oy (x:=l) (by omega);have F:=Oy (x:=r) (by omega);have T:=BT.tl l;have I:=BT.tl r;have i:=BT.pl (.nd l r);simp only[BT.n]at i;have k:=AZ7 (K:=K) h;have f:((BT.nd l r).p==[])=false:=by simp[BT.p]
  have o:=Yw (l:=l) (r:=r);have e:sub (BT.nd l r).p 1 ((2*l.n+1:Nat):Int)=l.p:=by rw[<-o];congr 1;omega
  have q:=AO1 (l:=l) (r:=r) (j:=((BT.nd l r).p.length:Nat)) (by omega);have a:sub (BT.nd l r).p (((2*l.n+1:Nat):Int)+1) ((BT.nd l r).p.length:Nat)=r.p:=by rw[<-q];congr 1
  generalize G:(BT.nd l r).p=w at k i f e a|-;have b:2*l.n+1<w.length:=by omega
  have g:w.length<=16:=by omega
  have H:1<=2*l.n+1:=by omega
  generalize 2*l.n+1=c at k e a b H;refine qb ZB ?_;simp(disch:=try exact dV) only[AD,f];refine cW k ?_;rw[e];refine cW C ?_;rw[a];refine cW F ?_;simp[BT.t]
end Go.Cat
namespace Go.Cat
variable{K:Nat->List D->List D->Prop}
set_option maxRecDepth 100000
def AK0(f:Nat->Nat)(u:Nat):Nat->Nat
 |0=>0
 |d+1=>if d<u then 0 else f (d+1)+AK0 f u d
def bw:Nat->Nat->Nat
 |0=>λ_=>1
 |u+1=>AK0 (bw u) u
abbrev ACQ:List (Nat×IF):=[(27,I27.v),(23,L8.v)]
noncomputable def blT(u d:Nat):Bool:=Gy (E2 (EU ACQ) 60 8 27 [.n u,.n d]) (bw u d)
theorem bl8:BR 9 (λd=>BR (d+1) λu=>blT u d)=true:=by kernel_rfl
theorem Zz[HA K]{u d:Nat}(h:u<=d)(hd:d<9):K 27 [.n u,.n d] [.n (bw u d)]:=
 run ACQ 60 8 27 (IP (BY (BY bl8 d hd) u (by omega)))
end Go.Cat
namespace Go.Cat
variable{K:Nat->List D->List D->Prop}
set_option maxRecDepth 100000
abbrev ACK:List (Nat×IF):=[(84,I84.v)]
noncomputable def blU(u d:Nat):Bool:=Gy (E2 (EU ACK) 60 8 84 [.n u,.n d]) (bw u d)
theorem bs8:BR 9 (λd=>BR (d+1) λu=>blU u d)=true:=by kernel_rfl
theorem ADP[HA K]{u d:Nat}(h:u<=d)(hd:d<9):K 84 [.n u,.n d] [.n (bw u d)]:=
 run ACK 60 8 84 (IP (BY (BY bs8 d hd) u (by omega)))
end Go.Cat
namespace Go.Cat
variable{K:Nat->List D->List D->Prop}
set_option maxRecDepth 100000
def JH:List Int:=[1,1,2,5,14,42,132,429,1430,4862,16796,58786,208012,742900,2674440,9694845]
abbrev tcs:List (Nat×IF):=[(79,I79.v),(84,I84.v),(22,Lq.v)]
abbrev ALI:List (Nat×IF):=[(28,I28.v),(27,I27.v),(23,L8.v)]
theorem AaK:BR 16 (λn=>Gy (E2 (EU tcs) 60 8 79 [.n n]) (JH.getD n 0))=true:=by kernel_rfl
theorem ATB:BR 16 (λn=>Gy (E2 (EU ALI) 60 8 28 [.n n]) (JH.getD n 0))=true:=by kernel_rfl
theorem ABF[HA K]{n:Nat}(h:n<16):K 79 [.n n] [.n (JH.getD n 0)]:=run tcs 60 8 79 (IP (BY AaK n h))
theorem AGY[HA K]{n:Nat}(h:n<16):K 28 [.n n] [.n (JH.getD n 0)]:=run ALI 60 8 28 (IP (BY ATB n h))
end Go.Cat
