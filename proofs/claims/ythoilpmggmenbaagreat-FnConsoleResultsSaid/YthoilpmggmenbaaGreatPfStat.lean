/-
 Numbers of paths: heights, returns, area, peaks, places of valleys, runs, depth.
-/
import Derived.Test.YthoilpmggmenbaaGreatPfRefl
set_option linter.unusedSimpArgs false
set_option linter.unusedVariables false
namespace Go.Cat
variable{K:Nat->List D->List D->Prop}
theorem N8:D.l []=LI []:=rfl
theorem Vt{m:List Int}{i:Nat}(h:i<m.length):m.take (i+1)=m.take i++[AB m i]:=by rw[CO h];simp[AB,h]
theorem Fx{w:List Nat}{i:Nat}:Hh w i<=i/\-(i:Int)<=Hh w i:=by have h:=Nt (w:=w.take i) (c:=117);have H:=Nt (w:=w.take i) (c:=100);simp only[Hh];simp only[List.length_take]at h H;omega
def hL(w:List Nat):List Int:=(List.range (w.length+1)).map λi=>Hh w i
theorem Ht{w:List Nat}:(hL w).length=w.length+1:=by simp[hL]
theorem HV{w:List Nat}{i:Nat}(h:i<w.length+1):AB (hL w) i=Hh w i:=by simp[hL,AB,h]
theorem Vj:∀(w:List Nat)(h:Int),(Em w h).length=w.length
 |[],_=>rfl
 |c::w,h=>by unfold Em;split<;>simp[Vj w]
theorem TF:∀(w:List Nat)(h:Int)(i:Nat),HE w=true->i<=w.length->AB (h::Em w h) i=h+Hh w i
 |w,h,0,_,_=>by simp[AB,Ef]
 |[],h,i+1,_,hi=>by simp at hi
 |c::w,h,i+1,a,hi=>by
  rw[NV,AU,Ad]at a;have e:∀(l:List Int),AB (h::l) ((i+1:Nat):Int)=AB l i:=λl=>by simp[AB]
  rw[e,KV];simp only[Em];simp only[AO]at hi;rcases a.1 with H|H;rw[if_pos H,TF w (h+1) i a.2 (by omega),H];simp;omega;rw[if_neg (by omega),TF w (h-1) i a.2 (by omega),H];simp;omega
theorem Mn{w:List Nat}(hd:AK w=true):HE w=true:=by have:=ARB.1 hd;exact this.2.1
theorem AcY{w:List Nat}(hd:AK w=true):Ky w=hL w/\J2 w=true:=by
 have H:Bb w 0=some 0:=by simp only[AK,AU,Ad]at hd;exact hd.1
 refine⟨?_,by simp[J2,H]⟩;simp only[Ky,H];refine Lm (by rw[Ht,AO,Vj]) λj h=>?_;rw[AO,Vj]at h;rw[TF w 0 j (Mn hd) (by omega),HV h];omega
theorem Qs[HA K]{w:List Nat}(hd:AK w=true):K 501 [.s w] [LI (hL w)]:=by
 have h:=(A8 hd).l;obtain⟨e,a⟩:=AcY hd;have k:=ABM (K:=K) (w:=w) (by omega);rw[e,a]at k;refine qw I501 ?_;repeat(refine cB (Bf (by omega)) ?_;try simp(disch:=omega) only[AD,hd])
 exact cZ k
theorem Tj[HA K]{w:List Nat}(hd:AK w=true):K 319 [.s w] [LI (hL w)]:=by
 have H:=A8 hd;have f:=H.l;have a:=Ht (w:=w);refine qw I319 ?_;repeat(refine cB (By (by omega)) ?_;try simp(disch:=try exact dV) only[AD,hd])
 rw[N8];refine AR (λ_=>True) (λi=>[.s w,.u,LI ((hL w).take i),.n (Hh w i),.n i,.u,.u,.u]) w.length trivial (by simp[Ef]) (λi hi _=>?_) (λ_=>?_);have c:=Fx (w:=w) (i:=i);have b:((hL w).take i).length=i:=by simp;omega
 have e:=Vt (m:=hL w) (i:=i) (by omega);rw[HV (by omega)]at e;rw[e];rcases H.ud i hi with h|h;rw[F6 hi h];simp(disch:=try exact dV) only[AD,h];rw[Ej hi h];simp(disch:=try exact dV) only[AD,h];have b:((hL w).take w.length).length=w.length:=by simp;omega
 have e:=Vt (m:=hL w) (i:=w.length) (by omega);rw[HV (by omega),List.take_of_length_le (by omega)]at e;refine wW ?_;rw[<-e]
def Hv(w:List Nat)(i:Nat):Nat:=CG (λj=>if Hh w (j+1)=0 then 1 else 0) i
theorem AA0{w:List Nat}{i:Nat}:Hv w i<=i:=by have:=KQ (g:=λj=>if Hh w (j+1)=0 then 1 else 0) (b:=1) (λj=>by split<;>omega) i;unfold Hv;omega
theorem AO8{l:List Int}{i:Nat}(h:i+1<l.length):AB (sub l 1 l.length) i=AB l ((i+1:Nat):Int):=by simp[AB,sub,Ap,Nat.add_comm]
theorem AWJ[HA K]{w:List Nat}(hd:AK w=true):K 507 [.s w] [.n (Hv w w.length)]:=by
 have c:=(A8 hd).l;have H:=Ht (w:=w);have h:(sub (hL w) 1 (hL w).length).length=w.length:=by rw[LO];omega
 refine qw I507 ?_;repeat(refine cB (Bf (by omega)) ?_;try simp(disch:=omega) only[AD,hd])
 refine cB (Qs hd) ?_;simp(disch:=omega) only[AD,h];refine AR (λ_=>True) (λi=>[.u,.u,.n (Hv w i),.u,.u,LI (sub (hL w) 1 (hL w).length),.n w.length,.n i,.u,.u]) w.length trivial rfl (λi hi _=>?_) (λ_=>?_)
 .have b:=AA0 (w:=w) (i:=i);have e:=AO8 (l:=hL w) (i:=i) (by omega);rw[HV (by omega)]at e;have a:Hv w (i+1)=Hv w i+(if Hh w (i+1)=0 then 1 else 0):=rfl;by_cases h0:Hh w (i+1)=0
  .rw[a,if_pos h0];simp(disch:=omega) only[AD,h,e];all_goals simp
  rw[a,if_neg h0];simp(disch:=omega) only[AD,h,e];simp
 exact wZ
theorem Yn{f:Nat->Nat}:∀n,CG f (n+1)=f 0+CG (λj=>f (j+1)) n
 |0=>by simp[CG]
 |n+1=>by rw[CG,Yn n];simp only[CG];omega
theorem AZJ[HA K]{w:List Nat}(hd:AK w=true):K 294 [.s w] [.n (Hv w w.length)]:=by have c:=(A8 hd).l;have h:=Ht (w:=w);refine qw I294 ?_;refine cB (Tj hd) ?_;simp(disch:=omega) only[AD,h];refine AR (λ_=>True) (λi=>[.u,.u,LI (hL w),.n ((CG (λj=>if Hh w j=0 then 1 else 0) i:Int)-1),.n i,.u,.u]) (w.length+1) trivial rfl (λi hi _=>?_) (λ_=>?_);have H:=KQ (g:=λj=>if Hh w j=0 then 1 else 0) (b:=1) (λj=>by split<;>omega) i;have e:=HV (w:=w) (i:=i) (by omega);have a:CG (λj=>if Hh w j=0 then 1 else 0) (i+1)=CG (λj=>if Hh w j=0 then 1 else 0) i+(if Hh w i=0 then 1 else 0):=rfl;by_cases h0:Hh w i=0;rw[a,if_pos h0];simp(disch:=omega) only[AD,h,e];simp;rw[a,if_neg h0];simp(disch:=omega) only[AD,h,e];simp;have e:=Yn (f:=λj=>if Hh w j=0 then 1 else 0) w.length;simp only[Ef,if_true]at e;simp(disch:=omega) only[AD,h];rw[e];exact Dn (by simp only[Hv];omega)
def Fq(w:List Nat):Nat->Int
 |0=>0
 |i+1=>Fq w i+(if AI w i=117 then Hh w i else 0)
theorem R7{w:List Nat}(l:w.length<=16):∀{i:Nat},i<=w.length->-(i*16:Int)<=Fq w i/\Fq w i<=i*16
 |0,_=>by simp[Fq]
 |i+1,h=>by have:=R7 l (i:=i) (by omega);have:=Fx (w:=w) (i:=i);simp only[Fq];split<;>omega
theorem ATU[HA K]{w:List Nat}(hd:AK w=true):K 465 [.s w] [.n (Fq w w.length)]:=by
 have b:=(A8 hd).l;have H:=Ht (w:=w);refine qw I465 ?_;repeat(refine cB (Bf (by omega)) ?_;try simp(disch:=omega) only[AD,hd])
 refine cW (Qs hd) ?_;refine AR (λ_=>True) (λi=>[.s w,.u,.n (Fq w i),LI (hL w),.n i,.u,.u,.u]) w.length trivial rfl (λi hi _=>?_) (λ_=>?_);have c:=R7 b (i:=i) (by omega);have a:=Fx (w:=w) (i:=i);have e:=HV (w:=w) (i:=i) (by omega);by_cases h:AI w i=117;simp only[Fq,if_pos h];simp(disch:=omega) only[AD,h,e];simp only[Fq,if_neg h];refine wW ?_;simp;exact wZ
theorem ATA[HA K]{w:List Nat}(hd:AK w=true):K 296 [.s w] [.n (Fq w w.length)]:=by have b:=(A8 hd).l;have h:=Ht (w:=w);refine qw I296 ?_;refine cW (Tj hd) ?_;refine AR (λ_=>True) (λi=>[.s w,.u,LI (hL w),.n (Fq w i),.n i,.u,.u,.u]) w.length trivial rfl (λi hi _=>?_) (λ_=>?_);have c:=R7 b (i:=i) (by omega);have a:=Fx (w:=w) (i:=i);have e:=HV (w:=w) (i:=i) (by omega);by_cases H:AI w i=117;simp only[Fq,if_pos H];simp(disch:=omega) only[AD,H,e,h];simp only[Fq,if_neg H];simp(disch:=omega) only[AD,h];simp;simp(disch:=omega) only[AD,h]
def Cz(a b:Nat)(g:Nat->Nat)(w:List Nat)(i:Nat):Nat:=CG (λj=>if AI w j=a/\AI w ((j:Int)+1)=b then g j else 0) i
theorem Jw{a b:Nat}{g:Nat->Nat}{w:List Nat}(H:∀j,j<16->g j<=16):∀{i:Nat},i<=16->Cz a b g w i<=i*16
 |0,_=>by simp[Cz,CG]
 |i+1,h=>by have c:=Jw (a:=a) (b:=b) (w:=w) H (i:=i) (by omega);have e:=H i (by omega);simp only[Cz,CG]at c|-;split<;>omega
theorem AZB[HA K]{w:List Nat}(hd:AK w=true):K 280 [.s w] [.n (Cz 117 100 (λ_=>1) w (w.length-1))]:=by
 have f:=(A8 hd).l;refine qw I280 ?_;repeat(refine cB (Bf (by omega)) ?_;try simp(disch:=omega) only[AD,hd])
 refine AR (λ_=>True) (λi=>[.s w,.u,.n (Cz 117 100 (λ_=>1) w i),.n ((i:Int)+1),.u,.u,.u]) (w.length-1) trivial rfl (λi hi _=>?_) (λ_=>?_)
 .have c:=Jw (a:=117) (b:=100) (g:=λ_=>1) (w:=w) (λ_ _=>by omega) (i:=i) (by omega);have e:Cz 117 100 (λ_=>1) w (i+1)=Cz 117 100 (λ_=>1) w i+(if AI w i=117/\AI w ((i:Int)+1)=100 then 1 else 0):=rfl;by_cases h:AI w i=117
  .by_cases H:AI w ((i:Int)+1)=100
   .rw[e,if_pos ⟨h,H⟩];simp(disch:=omega) only[AD,h,H,Bl];all_goals simp
   rw[e,if_neg λq=>H q.2];simp(disch:=omega) only[AD,h,Bl];simp
  rw[e,if_neg λq=>h q.1];simp(disch:=omega) only[AD,Bl];simp
 exact wZ
theorem AVR{w:List Nat}{i:Nat}(h:i+1<w.length):sub w i ((i:Int)+1+1)=[AI w i,AI w ((i:Int)+1)]:=by
 have e:((i:Int)+1+1).toNat=i+2:=by omega
 have H:(w.take i).length=i:=by simp;omega
 simp only[sub,e,BM];rw[show i+2=(i+1)+1 by omega,CO (by omega),CO (by omega),CE,List.drop_append_of_le_length (by omega),List.drop_of_length_le (by omega)];have a:((i:Int)+1)=((i+1:Nat):Int):=by omega
 rw[a];simp only[AI,BM,Ap,GB h,GB (show i<w.length by omega)];rfl
theorem AXQ[HA K]{w:List Nat}(hd:AK w=true):K 293 [.s w] [.n (Cz 117 100 (λ_=>1) w (w.length-1))]:=by
 have j:=(A8 hd).l;refine qw I293 ?_;repeat(refine cB (By (by omega)) ?_;try simp(disch:=omega) only[AD,hd])
 refine AR (λ_=>True) (λi=>[.s w,.u,.n (Cz 117 100 (λ_=>1) w i),.n ((i:Int)+1),.u,.u,.u]) (w.length-1) trivial rfl (λi hi _=>?_) (λ_=>?_)
 .have H:=Jw (a:=117) (b:=100) (g:=λ_=>1) (w:=w) (λ_ _=>by omega) (i:=i) (by omega);have c:Cz 117 100 (λ_=>1) w (i+1)=Cz 117 100 (λ_=>1) w i+(if AI w i=117/\AI w ((i:Int)+1)=100 then 1 else 0):=rfl;have f:=AVR (w:=w) (i:=i) (by omega);by_cases h:AI w i=117/\AI w ((i:Int)+1)=100
  .have e:([AI w i,AI w ((i:Int)+1)]==[117,100])=true:=by rw[h.1,h.2];rfl
   rw[c,if_pos h];simp(disch:=omega) only[AD,Bl,f,e];all_goals simp
  have e:([AI w i,AI w ((i:Int)+1)]==[117,100])=false:=by refine beq_eq_false_iff_ne.2 λq=>h ?_;simp at q;exact q
  rw[c,if_neg h];simp(disch:=omega) only[AD,Bl,f,e];simp
 exact wZ
theorem AcM[HA K]{w:List Nat}(hd:AK w=true):K 512 [.s w] [.n (Cz 100 117 (λj=>j+1) w (w.length-1))]:=by
 have f:=(A8 hd).l;refine qw I512 ?_;repeat(refine cB (Bf (by omega)) ?_;try simp(disch:=omega) only[AD,hd])
 refine AR (λ_=>True) (λi=>[.s w,.u,.n (Cz 100 117 (λj=>j+1) w i),.n ((i:Int)+1),.u,.u,.u]) (w.length-1) trivial rfl (λi hi _=>?_) (λ_=>?_);have c:=Jw (a:=100) (b:=117) (g:=λj=>j+1) (w:=w) (λ_ _=>by omega) (i:=i) (by omega);have e:Cz 100 117 (λj=>j+1) w (i+1)=Cz 100 117 (λj=>j+1) w i+(if AI w i=100/\AI w ((i:Int)+1)=117 then i+1 else 0):=rfl;by_cases h:AI w i=100;by_cases H:AI w ((i:Int)+1)=117;rw[e,if_pos ⟨h,H⟩];simp(disch:=omega) only[AD,h,H,Bl];simp;rw[e,if_neg λq=>H q.2];simp(disch:=omega) only[AD,h,Bl];simp;rw[e,if_neg λq=>h q.1];simp(disch:=omega) only[AD,Bl];simp;exact wZ
theorem ARG[HA K]{w:List Nat}(hd:AK w=true):K 303 [.s w] [.n (Cz 100 117 (λj=>j+1) w (w.length-1))]:=by
 have f:=(A8 hd).l;refine qw I303 ?_;repeat(refine cB (By (by omega)) ?_;try simp(disch:=omega) only[AD,hd])
 refine AR (λ_=>True) (λi=>[.s w,.u,.n (Cz 100 117 (λj=>j+1) w i),.n ((i:Int)+1),.u,.u,.u]) (w.length-1) trivial rfl (λi hi _=>?_) (λ_=>?_);have c:=Jw (a:=100) (b:=117) (g:=λj=>j+1) (w:=w) (λ_ _=>by omega) (i:=i) (by omega);have e:Cz 100 117 (λj=>j+1) w (i+1)=Cz 100 117 (λj=>j+1) w i+(if AI w i=100/\AI w ((i:Int)+1)=117 then i+1 else 0):=rfl;by_cases h:AI w i=100;by_cases H:AI w ((i:Int)+1)=117;rw[e,if_pos ⟨h,H⟩];simp(disch:=omega) only[AD,h,H,Bl];simp;rw[e,if_neg λq=>H q.2];simp(disch:=omega) only[AD,h,Bl];simp;rw[e,if_neg λq=>h q.1];simp(disch:=omega) only[AD,Bl];simp;exact wZ
end Go.Cat
