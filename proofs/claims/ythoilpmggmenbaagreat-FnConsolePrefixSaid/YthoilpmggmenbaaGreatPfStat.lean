/-
 Numbers of paths: heights, returns, area, peaks, places of valleys, runs, depth.
-/
import Derived.Test.YthoilpmggmenbaaGreatPfTree
set_option linter.unusedSimpArgs false
set_option linter.unusedVariables false
namespace Go.Cat
variable{K:Nat->List D->List D->Prop}
theorem Q0:D.l []=LI []:=rfl
theorem U0{m:List Int}{i:Nat}(h:i<m.length):m.take (i+1)=m.take i++[AB m i]:=by rw[CQ h];simp[AB,h]
theorem Gx{w:List Nat}{i:Nat}:Hh w i<=i/\-(i:Int)<=Hh w i:=by have h:=Od (w:=w.take i) (c:=117);have H:=Od (w:=w.take i) (c:=100);simp only[Hh];simp only[List.length_take]at h H;omega
def hL(w:List Nat):List Int:=(List.range (w.length+1)).map λi=>Hh w i
theorem JF{w:List Nat}:(hL w).length=w.length+1:=by simp[hL]
theorem I4{w:List Nat}{i:Nat}(h:i<w.length+1):AB (hL w) i=Hh w i:=by simp[hL,AB,h]
theorem XZ:∀(w:List Nat)(h:Int),(FN w h).length=w.length
 |[],_=>rfl
 |c::w,h=>by unfold FN;split<;>simp[XZ w]
theorem Y6:∀(w:List Nat)(h:Int)(i:Nat),IC w=true->i<=w.length->AB (h::FN w h) i=h+Hh w i
 |w,h,0,_,_=>by simp[AB,FI]
 |[],h,i+1,_,hi=>by simp at hi
 |c::w,h,i+1,a,hi=>by
  rw[Pn,AV,Ac]at a;have e:∀(l:List Int),AB (h::l) ((i+1:Nat):Int)=AB l i:=λl=>by simp[AB]
  rw[e,Lt];simp only[FN];simp only[AP]at hi;rcases a.1 with H|H;rw[if_pos H,Y6 w (h+1) i a.2 (by omega),H];simp;omega;rw[if_neg (by omega),Y6 w (h-1) i a.2 (by omega),H];simp;omega
theorem Pj{w:List Nat}(hd:AK w=true):IC w=true:=by have:=Ai3.1 hd;exact this.2.1
theorem AXR{w:List Nat}(hd:AK w=true):Mb w=hL w/\Lk w=true:=by
 have H:Bm w 0=some 0:=by simp only[AK,AV,Ac]at hd;exact hd.1
 refine⟨?_,by simp[Lk,H]⟩;simp only[Mb,H];refine HV (by rw[JF,AP,XZ]) λj h=>?_;rw[AP,XZ]at h;rw[Y6 w 0 j (Pj hd) (by omega),I4 h];omega
theorem RV[HA K]{w:List Nat}(hd:AK w=true):K 501 [.s w] [LI (hL w)]:=by
 have h:=(Af hd).l;obtain⟨e,a⟩:=AXR hd;have k:=ASV (K:=K) (w:=w) (by omega);rw[e,a]at k;refine qw I501 ?_;repeat(refine cB (Bz (by omega)) ?_;try simp(disch:=omega) only[AD,hd])
 exact cZ k
theorem Yc[HA K]{w:List Nat}(hd:AK w=true):K 319 [.s w] [LI (hL w)]:=by
 have H:=Af hd;have f:=H.l;have a:=JF (w:=w);refine qw I319 ?_;repeat(refine cB (Bu (by omega)) ?_;try simp(disch:=try exact dV) only[AD,hd])
 rw[Q0];refine AN (λ_=>True) (λi=>[.s w,.u,LI ((hL w).take i),.n (Hh w i),.n i,.u,.u,.u]) w.length trivial (by simp[FI]) (λi hi _=>?_) (λ_=>?_);have c:=Gx (w:=w) (i:=i);have b:((hL w).take i).length=i:=by simp;omega
 have e:=U0 (m:=hL w) (i:=i) (by omega);rw[I4 (by omega)]at e;rw[e];rcases H.ud i hi with h|h;rw[GS hi h];simp(disch:=try exact dV) only[AD,h];rw[F0 hi h];simp(disch:=try exact dV) only[AD,h];have b:((hL w).take w.length).length=w.length:=by simp;omega
 have e:=U0 (m:=hL w) (i:=w.length) (by omega);rw[I4 (by omega),List.take_of_length_le (by omega)]at e;refine wW ?_;rw[<-e]
def JK(w:List Nat)(i:Nat):Nat:=CY (λj=>if Hh w (j+1)=0 then 1 else 0) i
theorem Zb{w:List Nat}{i:Nat}:JK w i<=i:=by have:=LX (g:=λj=>if Hh w (j+1)=0 then 1 else 0) (b:=1) (λj=>by split<;>omega) i;unfold JK;omega
theorem AiW{l:List Int}{i:Nat}(h:i+1<l.length):AB (sub l 1 l.length) i=AB l ((i+1:Nat):Int):=by simp[AB,sub,Ap,Nat.add_comm]
theorem AaZ[HA K]{w:List Nat}(hd:AK w=true):K 507 [.s w] [.n (JK w w.length)]:=by
 have c:=(Af hd).l;have H:=JF (w:=w);have h:(sub (hL w) 1 (hL w).length).length=w.length:=by rw[J6];omega
 refine qw I507 ?_;repeat(refine cB (Bz (by omega)) ?_;try simp(disch:=omega) only[AD,hd])
 refine cB (RV hd) ?_;simp(disch:=omega) only[AD,h];refine AN (λ_=>True) (λi=>[.u,.u,.n (JK w i),.u,.u,LI (sub (hL w) 1 (hL w).length),.n w.length,.n i,.u,.u]) w.length trivial rfl (λi hi _=>?_) (λ_=>?_)
 .have b:=Zb (w:=w) (i:=i);have e:=AiW (l:=hL w) (i:=i) (by omega);rw[I4 (by omega)]at e;have a:JK w (i+1)=JK w i+(if Hh w (i+1)=0 then 1 else 0):=rfl;by_cases h0:Hh w (i+1)=0
  .rw[a,if_pos h0];simp(disch:=omega) only[AD,h,e];all_goals simp
  rw[a,if_neg h0];simp(disch:=omega) only[AD,h,e];simp
 exact wZ
theorem AM2{f:Nat->Nat}:∀n,CY f (n+1)=f 0+CY (λj=>f (j+1)) n
 |0=>by simp[CY]
 |n+1=>by rw[CY,AM2 n];simp only[CY];omega
theorem Ad2[HA K]{w:List Nat}(hd:AK w=true):K 294 [.s w] [.n (JK w w.length)]:=by have c:=(Af hd).l;have h:=JF (w:=w);refine qw I294 ?_;refine cB (Yc hd) ?_;simp(disch:=omega) only[AD,h];refine AN (λ_=>True) (λi=>[.u,.u,LI (hL w),.n ((CY (λj=>if Hh w j=0 then 1 else 0) i:Int)-1),.n i,.u,.u]) (w.length+1) trivial rfl (λi hi _=>?_) (λ_=>?_);have H:=LX (g:=λj=>if Hh w j=0 then 1 else 0) (b:=1) (λj=>by split<;>omega) i;have e:=I4 (w:=w) (i:=i) (by omega);have a:CY (λj=>if Hh w j=0 then 1 else 0) (i+1)=CY (λj=>if Hh w j=0 then 1 else 0) i+(if Hh w i=0 then 1 else 0):=rfl;by_cases h0:Hh w i=0;rw[a,if_pos h0];simp(disch:=omega) only[AD,h,e];simp;rw[a,if_neg h0];simp(disch:=omega) only[AD,h,e];simp;have e:=AM2 (f:=λj=>if Hh w j=0 then 1 else 0) w.length;simp only[FI,if_true]at e;simp(disch:=omega) only[AD,h];rw[e];exact Dn (by simp only[JK];omega)
def GV(w:List Nat):Nat->Int
 |0=>0
 |i+1=>GV w i+(if AH w i=117 then Hh w i else 0)
theorem S2{w:List Nat}(l:w.length<=16):∀{i:Nat},i<=w.length->-(i*16:Int)<=GV w i/\GV w i<=i*16
 |0,_=>by simp[GV]
 |i+1,h=>by have:=S2 l (i:=i) (by omega);have:=Gx (w:=w) (i:=i);simp only[GV];split<;>omega
theorem AgY[HA K]{w:List Nat}(hd:AK w=true):K 465 [.s w] [.n (GV w w.length)]:=by
 have b:=(Af hd).l;have H:=JF (w:=w);refine qw I465 ?_;repeat(refine cB (Bz (by omega)) ?_;try simp(disch:=omega) only[AD,hd])
 refine cW (RV hd) ?_;refine AN (λ_=>True) (λi=>[.s w,.u,.n (GV w i),LI (hL w),.n i,.u,.u,.u]) w.length trivial rfl (λi hi _=>?_) (λ_=>?_);have c:=S2 b (i:=i) (by omega);have a:=Gx (w:=w) (i:=i);have e:=I4 (w:=w) (i:=i) (by omega);by_cases h:AH w i=117;simp only[GV,if_pos h];simp(disch:=omega) only[AD,h,e];simp only[GV,if_neg h];refine wW ?_;simp;exact wZ
theorem AWB[HA K]{w:List Nat}(hd:AK w=true):K 296 [.s w] [.n (GV w w.length)]:=by have b:=(Af hd).l;have h:=JF (w:=w);refine qw I296 ?_;refine cW (Yc hd) ?_;refine AN (λ_=>True) (λi=>[.s w,.u,LI (hL w),.n (GV w i),.n i,.u,.u,.u]) w.length trivial rfl (λi hi _=>?_) (λ_=>?_);have c:=S2 b (i:=i) (by omega);have a:=Gx (w:=w) (i:=i);have e:=I4 (w:=w) (i:=i) (by omega);by_cases H:AH w i=117;simp only[GV,if_pos H];simp(disch:=omega) only[AD,H,e,h];simp only[GV,if_neg H];simp(disch:=omega) only[AD,h];simp;simp(disch:=omega) only[AD,h]
def DP(a b:Nat)(g:Nat->Nat)(w:List Nat)(i:Nat):Nat:=CY (λj=>if AH w j=a/\AH w ((j:Int)+1)=b then g j else 0) i
theorem Ly{a b:Nat}{g:Nat->Nat}{w:List Nat}(H:∀j,j<16->g j<=16):∀{i:Nat},i<=16->DP a b g w i<=i*16
 |0,_=>by simp[DP,CY]
 |i+1,h=>by have c:=Ly (a:=a) (b:=b) (w:=w) H (i:=i) (by omega);have e:=H i (by omega);simp only[DP,CY]at c|-;split<;>omega
theorem Al5[HA K]{w:List Nat}(hd:AK w=true):K 280 [.s w] [.n (DP 117 100 (λ_=>1) w (w.length-1))]:=by
 have f:=(Af hd).l;refine qw I280 ?_;repeat(refine cB (Bz (by omega)) ?_;try simp(disch:=omega) only[AD,hd])
 refine AN (λ_=>True) (λi=>[.s w,.u,.n (DP 117 100 (λ_=>1) w i),.n ((i:Int)+1),.u,.u,.u]) (w.length-1) trivial rfl (λi hi _=>?_) (λ_=>?_)
 .have c:=Ly (a:=117) (b:=100) (g:=λ_=>1) (w:=w) (λ_ _=>by omega) (i:=i) (by omega);have e:DP 117 100 (λ_=>1) w (i+1)=DP 117 100 (λ_=>1) w i+(if AH w i=117/\AH w ((i:Int)+1)=100 then 1 else 0):=rfl;by_cases h:AH w i=117
  .by_cases H:AH w ((i:Int)+1)=100
   .rw[e,if_pos ⟨h,H⟩];simp(disch:=omega) only[AD,h,H,Bq];all_goals simp
   rw[e,if_neg λq=>H q.2];simp(disch:=omega) only[AD,h,Bq];simp
  rw[e,if_neg λq=>h q.1];simp(disch:=omega) only[AD,Bq];simp
 exact wZ
theorem AXS{w:List Nat}{i:Nat}(h:i+1<w.length):sub w i ((i:Int)+1+1)=[AH w i,AH w ((i:Int)+1)]:=by
 have e:((i:Int)+1+1).toNat=i+2:=by omega
 have H:(w.take i).length=i:=by simp;omega
 simp only[sub,e,BM];rw[show i+2=(i+1)+1 by omega,CQ (by omega),CQ (by omega),CT,List.drop_append_of_le_length (by omega),List.drop_of_length_le (by omega)];have a:((i:Int)+1)=((i+1:Nat):Int):=by omega
 rw[a];simp only[AH,BM,Ap,Eg h,Eg (show i<w.length by omega)];rfl
theorem AUW[HA K]{w:List Nat}(hd:AK w=true):K 293 [.s w] [.n (DP 117 100 (λ_=>1) w (w.length-1))]:=by
 have j:=(Af hd).l;refine qw I293 ?_;repeat(refine cB (Bu (by omega)) ?_;try simp(disch:=omega) only[AD,hd])
 refine AN (λ_=>True) (λi=>[.s w,.u,.n (DP 117 100 (λ_=>1) w i),.n ((i:Int)+1),.u,.u,.u]) (w.length-1) trivial rfl (λi hi _=>?_) (λ_=>?_)
 .have H:=Ly (a:=117) (b:=100) (g:=λ_=>1) (w:=w) (λ_ _=>by omega) (i:=i) (by omega);have c:DP 117 100 (λ_=>1) w (i+1)=DP 117 100 (λ_=>1) w i+(if AH w i=117/\AH w ((i:Int)+1)=100 then 1 else 0):=rfl;have f:=AXS (w:=w) (i:=i) (by omega);by_cases h:AH w i=117/\AH w ((i:Int)+1)=100
  .have e:([AH w i,AH w ((i:Int)+1)]==[117,100])=true:=by rw[h.1,h.2];rfl
   rw[c,if_pos h];simp(disch:=omega) only[AD,Bq,f,e];all_goals simp
  have e:([AH w i,AH w ((i:Int)+1)]==[117,100])=false:=by refine beq_eq_false_iff_ne.2 λq=>h ?_;simp at q;exact q
  rw[c,if_neg h];simp(disch:=omega) only[AD,Bq,f,e];simp
 exact wZ
theorem AUS[HA K]{w:List Nat}(hd:AK w=true):K 512 [.s w] [.n (DP 100 117 (λj=>j+1) w (w.length-1))]:=by
 have f:=(Af hd).l;refine qw I512 ?_;repeat(refine cB (Bz (by omega)) ?_;try simp(disch:=omega) only[AD,hd])
 refine AN (λ_=>True) (λi=>[.s w,.u,.n (DP 100 117 (λj=>j+1) w i),.n ((i:Int)+1),.u,.u,.u]) (w.length-1) trivial rfl (λi hi _=>?_) (λ_=>?_);have c:=Ly (a:=100) (b:=117) (g:=λj=>j+1) (w:=w) (λ_ _=>by omega) (i:=i) (by omega);have e:DP 100 117 (λj=>j+1) w (i+1)=DP 100 117 (λj=>j+1) w i+(if AH w i=100/\AH w ((i:Int)+1)=117 then i+1 else 0):=rfl;by_cases h:AH w i=100;by_cases H:AH w ((i:Int)+1)=117;rw[e,if_pos ⟨h,H⟩];simp(disch:=omega) only[AD,h,H,Bq];simp;rw[e,if_neg λq=>H q.2];simp(disch:=omega) only[AD,h,Bq];simp;rw[e,if_neg λq=>h q.1];simp(disch:=omega) only[AD,Bq];simp;exact wZ
theorem Ac0[HA K]{w:List Nat}(hd:AK w=true):K 303 [.s w] [.n (DP 100 117 (λj=>j+1) w (w.length-1))]:=by
 have f:=(Af hd).l;refine qw I303 ?_;repeat(refine cB (Bu (by omega)) ?_;try simp(disch:=omega) only[AD,hd])
 refine AN (λ_=>True) (λi=>[.s w,.u,.n (DP 100 117 (λj=>j+1) w i),.n ((i:Int)+1),.u,.u,.u]) (w.length-1) trivial rfl (λi hi _=>?_) (λ_=>?_);have c:=Ly (a:=100) (b:=117) (g:=λj=>j+1) (w:=w) (λ_ _=>by omega) (i:=i) (by omega);have e:DP 100 117 (λj=>j+1) w (i+1)=DP 100 117 (λj=>j+1) w i+(if AH w i=100/\AH w ((i:Int)+1)=117 then i+1 else 0):=rfl;by_cases h:AH w i=100;by_cases H:AH w ((i:Int)+1)=117;rw[e,if_pos ⟨h,H⟩];simp(disch:=omega) only[AD,h,H,Bq];simp;rw[e,if_neg λq=>H q.2];simp(disch:=omega) only[AD,h,Bq];simp;rw[e,if_neg λq=>h q.1];simp(disch:=omega) only[AD,Bq];simp;exact wZ
end Go.Cat
