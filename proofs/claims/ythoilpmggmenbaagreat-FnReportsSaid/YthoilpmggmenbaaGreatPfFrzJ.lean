/-
 Friezes: what the program reckons.
-/
import Derived.Test.YthoilpmggmenbaaGreatQd0LawReports
import Derived.Test.YthoilpmggmenbaaGreatQd1LawReports
import Derived.Test.YthoilpmggmenbaaGreatQd2LawReports
import Derived.Test.YthoilpmggmenbaaGreatQd3LawReports
import Derived.Test.YthoilpmggmenbaaGreatPfSerA
import Derived.Test.YthoilpmggmenbaaGreatPfRotC
import Derived.Test.YthoilpmggmenbaaGreatPfPLine
import Derived.Test.YthoilpmggmenbaaGreatPfSch
import Derived.Test.YthoilpmggmenbaaGreatPfWrite
import Derived.Test.YthoilpmggmenbaaGreatPfFmt
import Derived.Test.YthoilpmggmenbaaGreatPfIn
import Derived.Test.YthoilpmggmenbaaGreatPfPlane
import Derived.Test.YthoilpmggmenbaaGreatPfAp2
set_option linter.unusedSimpArgs false
set_option linter.unusedVariables false
namespace Go.Cat
variable{K:Nat→List D→List D→Prop}
theorem pow7:∀f:Nat,f≤7→(2:Int)^f≤100000:=by decide
theorem AbG{q:List Int}(h:Cu q=true):HD (E3 q)=true↔Et q:=by
 obtain⟨h1,h2,h3⟩:=GD.1 h;have e:HD (E3 q)=G3 (q.length-3) q:=by rw[E3,if_pos h,AEC]
 have hf:=VJ (q.length-3) q (by omega) (by omega);rw[e,Zz (by omega)];constructor
 ·intro hc;have:=(YR (by omega)).2 (hf.1 hc);intro i;obtain⟨f1,f2,f3⟩:=this i;refine⟨fun m m1 m2=>?_,f2,f3⟩;have:=f1 m m1 m2;have:=pow7 (q.length-3) (by omega);omega
 ·intro hc;exact hf.2 100000 (by decide) ((YR (by omega)).1 hc)
theorem qd_f{q:List Int}(h:Cu q=false):HD (E3 q)=false:=by rw[E3,if_neg (by simp[h])];rfl
open Classical in
theorem ASN{q:List Int}:HD (E3 q)=Eh q:=by
 cases h:Cu q
 ·rw[qd_f h];simp[Eh,h]
 ·have:=AbG h;unfold Eh;by_cases hf:Et q
  ·rw[this.2 hf];simp[h,hf]
  ·have hn:HD (E3 q)=false:=by
    rw[Bool.eq_false_iff];exact fun e=>hf (this.1 e)
   rw[hn];simp[hf]
theorem AVB[HA K][IJ K]{q:List Int}(h:q.length≤1048576):K 183 [LI q] [.b (Eh q)]:=by refine qb ACE rfl ?_;simp only[ACE];simp(disch:=first|omega|simp only[vl];omega) only[AA];refine AD (AcR (K:=K) h) rfl ?_;simp(disch:=first|omega|simp only[vl];omega) only[AA];rw[ASN]
open Classical in
theorem Oi{q:List Int}:Eh q=true↔Cu q=true∧Et q:=by unfold Eh;exact decide_eq_true_iff
theorem ff_i[HA K][IJ K]{q:List Int}(h:q.length≤1048576):K 140 [LI q] [LL (F0 q),.b (Eh q)]:=by
 refine qb Z2 rfl ?_;simp only[Z2];simp(disch:=first|omega|simp only[vl];omega) only[AA];refine AD (AVB (K:=K) h) rfl ?_
 cases hq:Eh q
 ·have e:F0 q=[]:=by
   unfold F0
   rw[if_neg fun q'=>by rw[Oi.2 q']at hq;cases hq]
  simp(disch:=first|omega|simp only[vl];omega) only[AA]
  simp[e,LL]
 obtain⟨hz,hf⟩:=Oi.1 hq;obtain⟨h1,h2,h3⟩:=GD.1 hz;have ho:=JN hz hf;have hgd:=Ki hz ho;have e:F0 q=Bb q (q.length+1):=by unfold F0;rw[if_pos ⟨hz,hf⟩]
 simp(disch:=first|omega|simp only[vl];omega) only[AA];refine Au (fun i (r:List Int)=>r.length=q.length∧∀j:Nat,j<i→AE r j=1) (fun i r=>[LI q,.u,.u,.n q.length,LI r,.u,.u,.u,.u,.u,.u,.n q.length,.n i,.u,.u,.u,.u,.u]) q.length (rep q.length 0) ⟨by simp[rep],by omega⟩ (by simp[rep]) (fun i r hi hP=>?_) (fun r hP=>?_)
 ·obtain⟨p1,p2⟩:=hP;simp(disch:=first|omega|simp only[vl];omega) only[AA];refine⟨_,⟨by rw[Mb];exact p1,fun j hj=>?_⟩,rfl⟩;rw[Ma (by omega)];split
  ·rfl
  ·exact p2 j (by omega)
 ·have e1:r=List.replicate q.length 1:=Fw (by simp[hP.1]) fun j hj=>by
   rw[hP.1]at hj
   rw[hP.2 j hj];simp[AE,hj]
  have e3:[rep (q.length:Int) 0,r,q]=Bb q 3:=by rw[AC3,e1];rfl
  simp(disch:=first|omega|simp only[vl];omega) only[AA]
  refine AD (Rw (K:=K) (p:=q) (by omega)) rfl ?_
  simp(disch:=first|omega|simp only[vl];omega) only[AA,AMI,e3]
  refine Au (fun k (R:List (List Int))=>R=Bb q (k+3)) (fun k R=>[.u,.u,.u,.n q.length,.u,.u,LL R,.n ((k:Int)+2),.u,.u,.u,.u,.u,.u,.u,.u,.u,.u]) (q.length-2) (Bb q 3) rfl rfl (fun k R hk hR=>?_) (fun R hR=>?_)
  ·have hRl:R.length=k+3:=by rw[hR,Hk]
   have ea:AG R ((k:Int)+2)=Ay q (k+2):=by rw[hR];exact Io (r:=k+2) (by omega)
   have eb:AG R ((k:Int)+2-1)=Ay q (k+1):=by rw[show(k:Int)+2-1=((k+1:Nat):Int) by omega,hR];exact Io (by omega)
   have la:(Ay q (k+2)).length=q.length:=Dh
   have lb:(Ay q (k+1)).length=q.length:=Dh
   simp(disch:=first|omega|simp only[vl];omega) only[AA]
   refine Au (fun i (r:List Int)=>r.length=q.length∧∀j:Nat,j<i→AE r j=Ag q (k+3) j) (fun i r=>[.u,.u,.u,.n q.length,.u,.u,LL R,.n ((k:Int)+2),LI r,.u,.u,.u,.u,.u,.u,.n q.length,.n i,.u]) q.length (rep q.length 0) ⟨by simp[rep],by omega⟩ (by simp[rep]) (fun i r hi hP=>?_) (fun r hP=>?_)
   ·obtain⟨p1,p2⟩:=hP
    have em:((i:Int)+1)%(q.length:Int)=((i+1)%q.length:Nat):=by simp[Int.natCast_emod]
    have hm:(i+1)%q.length<q.length:=Nat.mod_lt _ (by omega)
    have g1:=hgd (k+2) (by omega) i
    have g2:=hgd (k+2) (by omega) (i+1)
    have g3:=(ho k (by omega) i hi)
    have g4:=LA g1 g2
    have ru:=P2 (q:=q) (r:=k+1) (i:=i) (by omega)
    have c1:AE (Ay q (k+2)) (i:Int)=Ag q (k+2) i:=Ds hi
    have c2:AE (Ay q (k+2)) ((i+1)%q.length:Nat)=Ag q (k+2) (i+1):=by rw[Ds hm,G2]
    have c3:AE (Ay q (k+1)) ((i+1)%q.length:Nat)=Ag q (k+1) (i+1):=by rw[Ds hm,G2]
    generalize Ag q (k+2) i=x1 at*
    generalize Ag q (k+2) (i+1)=x2 at*
    have e0:x1*x2-1=Ag q (k+1) (i+1)*Ag q (k+3) i:=by
     have:Ag q (k+1+2) i=Ag q (k+3) i:=rfl
     rw[this]at ru
     omega
    have e2:(x1*x2-1).tdiv (Ag q (k+1) (i+1))=Ag q (k+3) i:=by rw[e0];exact Int.mul_tdiv_cancel_left _ (by omega)
    simp(disch:=first|omega|simp only[vl];omega) only[AA,ea,eb,em,c1,c2,c3,e2]
    refine⟨_,⟨by rw[Mb];exact p1,fun j hj=>?_⟩,rfl⟩
    rw[Ma (by omega)]
    split
    ·rename_i e;rw[e]
    ·exact p2 j (by omega)
   ·have e4:r=Ay q (k+3):=Fw (by rw[hP.1,Dh]) fun j hj=>by
     rw[hP.1]at hj
     rw[hP.2 j hj,Ds hj]
    simp(disch:=first|omega|simp only[vl];omega) only[AA,Fm,T9]
    refine⟨_,?_,rfl⟩
    rw[e4,hR];exact AHC.symm
  ·have e4:q.length-2+3=q.length+1:=by omega
   have hRl:R.length=q.length+1:=by rw[hR,Hk,e4]
   simp(disch:=first|omega|simp only[vl];omega) only[AA]
   rw[e,hR,e4]
theorem AWU[HA K]{q:List Int}(hz:Cu q=true)(hf:Et q):K 185 [LL (Bb q (q.length+1))] [.b true]:=by
 obtain⟨h1,h2,h3⟩:=GD.1 hz;have ho:=JN hz hf;have hgd:=Ki hz ho;have hRl:(Bb q (q.length+1)).length=q.length+1:=Hk;have hat:∀r:Nat,r<q.length+1→AG (Bb q (q.length+1)) r=Ay q r:=fun r hr=>Io hr;generalize Bb q (q.length+1)=R at*;refine qb WJ rfl ?_;simp only[WJ];simp(disch:=first|omega|simp only[vl];omega) only[AA];refine AD (CK (K:=K)) rfl ?_;have hin:AV 3 10 ((R.length:Int)-1)=true:=A8.2 (by omega);have hn1:(R.length:Int)-1=q.length:=by omega
 simp(disch:=first|omega|simp only[vl];omega) only[AA,hin,hn1];rw[hn1]at hin;simp(disch:=first|omega|simp only[vl];omega) only[AA,hin];refine AL (fun _=>True) (fun r=>[LL R,.u,.n q.length,.u,.u,.u,.u,.u,.u,.u,LL R,.n R.length,.n r,.u,.u,.u,.u,.u,.u,.u,.u,.u,.u,.u,.u,.u,.u,.u,.u]) R.length trivial rfl (fun r hr _=>?_) (fun _=>?_)
 ·have hr1:=hat r (by omega);have hl1:(Ay q r).length=q.length:=Dh;simp(disch:=first|omega|simp only[vl];omega) only[AA,hr1];refine AL (fun _=>True) (fun i=>[LL R,.u,.n q.length,.n r,.u,.u,.u,.u,.u,.u,LL R,.n R.length,.n r,.u,.u,LI (Ay q r),.n q.length,.n i,.u,.u,.u,.u,.u,.u,.u,.u,.u,.u,.u]) q.length trivial (by rw[hl1];rfl) (fun i hi _=>?_) (fun _=>?_)
  ·have c1:AE (Ay q r) i=Ag q r i:=Ds hi;obtain⟨q1,q2,q3⟩:=hf r (by omega) i hi;have q4:=CK (K:=K) (x:=Ag q r i) (a:=1) (b:=100000);rcases(show r=0∨r=q.length∨r=1∨r+1=q.length∧1<r∨1<r∧r+1<q.length by omega)with e|e|e|e|e
   ·have hx:Ag q r i=0:=by rw[e];rfl
    simp(disch:=first|omega|simp only[vl];omega) only[AA,hr1,c1,hx]
   ·have hx:=q1 e;simp(disch:=first|omega|simp only[vl];omega) only[AA,hr1,c1,hx]
   ·have hx:Ag q r i=1:=by rw[e];rfl
    simp(disch:=first|omega|simp only[vl];omega) only[AA,hr1,c1,hx]
   ·have hx:=q3 e.1;simp(disch:=first|omega|simp only[vl];omega) only[AA,hr1,c1,hx]
   ·have hx:=A8.2 (q2 (by omega) (by omega));rw[hx]at q4;simp(disch:=first|omega|simp only[vl];omega) only[AA,hr1,c1];refine AD (q4) rfl ?_;simp(disch:=first|omega|simp only[vl];omega) only[AA]
  ·simp(disch:=first|omega|simp only[vl];omega) only[AA]
 ·simp(disch:=first|omega|simp only[vl];omega) only[AA];refine AL (fun _=>True) (fun r=>[LL R,.u,.n q.length,.u,.u,.u,.n ((r:Int)+1),.u,.u,.u,.u,.u,.u,.u,.u,.u,.u,.u,.u,.u,.u,.u,.u,.u,.u,.u,.u,.u,.u]) (q.length-1) trivial rfl (fun r hr _=>?_) (fun _=>?_)
  ·simp(disch:=first|omega|simp only[vl];omega) only[AA];refine AL (fun _=>True) (fun i=>[LL R,.u,.n q.length,.u,.u,.u,.n ((r:Int)+1),.u,.u,.u,.u,.u,.u,.u,.u,.u,.u,.u,.u,.u,.u,.u,.u,.u,.u,.n q.length,.n i,.u,.u]) q.length trivial rfl (fun i hi _=>?_) (fun _=>?_)
   ·have r1:AG R ((r:Int)+1)=Ay q (r+1):=hat (r+1) (by omega);have r0:AG R ((r:Int)+1-1)=Ay q r:=by rw[show(r:Int)+1-1=r by omega];exact hat r (by omega)
    have r2:AG R ((r:Int)+1+1)=Ay q (r+2):=hat (r+2) (by omega);have l0:(Ay q r).length=q.length:=Dh;have l1:(Ay q (r+1)).length=q.length:=Dh;have l2:(Ay q (r+2)).length=q.length:=Dh;have em:((i:Int)+1)%(q.length:Int)=((i+1)%q.length:Nat):=by simp[Int.natCast_emod]
    have hm:(i+1)%q.length<q.length:=Nat.mod_lt _ (by omega);have c1:AE (Ay q (r+1)) i=Ag q (r+1) i:=Ds hi;have c2:AE (Ay q (r+1)) ((i+1)%q.length:Nat)=Ag q (r+1) (i+1):=by rw[Ds hm,G2]
    have c3:AE (Ay q r) ((i+1)%q.length:Nat)=Ag q r (i+1):=by rw[Ds hm,G2]
    have c4:AE (Ay q (r+2)) i=Ag q (r+2) i:=Ds hi;have ru:=P2 (q:=q) (r:=r) (i:=i) (by omega);have m1:=LA (hgd (r+1) (by omega) i) (hgd (r+1) (by omega) (i+1));have m2:=LA (hgd r (by omega) (i+1)) (hgd (r+2) (by omega) i);simp(disch:=first|omega|simp only[vl];omega) only[AA,r1,r0,r2,em,c1,c2,c3,c4]
   ·simp(disch:=first|omega|simp only[vl];omega) only[AA]
  ·simp(disch:=first|omega|simp only[vl];omega) only[AA]
theorem AcT[HA K]{R:List (List Int)}(h:NC R)(hf:K 185 [LL R] [.b true]):K 144 [LL R] [.n (EE R)]:=by
 have hl:=h.1;refine qb AKO rfl ?_;simp only[AKO];simp(disch:=first|omega|simp only[vl];omega) only[AA];refine AD (hf) rfl ?_;simp(disch:=first|omega|simp only[vl];omega) only[AA];refine Au (fun r (x:Int)=>x=EE (R.take r)) (fun r x=>[.u,.u,.n x,.u,.u,.u,LL R,.n R.length,.n r,.u,.u,.u,.u,.u]) R.length 0 rfl rfl (fun r x hr hP=>?_) (fun x hP=>?_)
 ·have hm:=h.2 _ (Wz hr);have hs:=ZU hr;have b0:=VO h r;simp(disch:=first|omega|simp only[vl];omega) only[AA];refine Au (fun i (y:Int)=>y=x+((AG R r).take i).sum) (fun i y=>[.u,.u,.n y,.u,.u,.u,LL R,.n R.length,.n r,.u,LI (AG R r),.n (AG R r).length,.n i,.u]) (AG R r).length x (by simp) rfl (fun i y hi hQ=>?_) (fun y hQ=>?_)
  ·have ht:=AQJ hi;have b1:=TV (r:=(AG R r).take i) ⟨by simp;omega,fun x hx=>hm.2 x (List.mem_of_mem_take hx)⟩;have b2:=hm.2 _ (No hi);simp(disch:=first|omega|simp only[vl];omega) only[AA];refine⟨_,?_,rfl⟩;rw[ht,hQ];omega
  ·rw[List.take_of_length_le (by omega)]at hQ;simp(disch:=first|omega|simp only[vl];omega) only[AA];refine⟨_,?_,rfl⟩;rw[hs,hQ,hP]
 ·simp(disch:=first|omega|simp only[vl];omega) only[AA];rw[hP,List.take_of_length_le (by omega)]
theorem Wu{q:List Int}(hz:Cu q=true)(hf:Et q):NC (Bb q (q.length+1)):=by obtain⟨h1,h2,h3⟩:=GD.1 hz;have hgd:=Ki hz (JN hz hf);refine⟨by rw[Hk];omega,fun r hr=>?_⟩;simp only[Bb,List.mem_map,List.mem_range]at hr;obtain⟨k,hk,rfl⟩:=hr;refine⟨by rw[Dh];omega,fun x hx=>?_⟩;simp only[Ay,List.mem_map,List.mem_range]at hx;obtain⟨i,hi,rfl⟩:=hx;exact hgd k hk i
end Go.Cat
namespace Go.Cat
variable{K:Nat→List D→List D→Prop}
def HW(q:List Int):Nat→List Nat
 |0=>[102,114,105,101,122,101]
 |k+1=>HW q k++[32]++EI (Ay q (k+1))
open Classical in
noncomputable def JW(q:List Int):List Nat:=if Eh q=true then HW q (q.length-1)++[32,115,117,109,32]++Ai (EE (Bb q (q.length+1)))else []
theorem VS{q:List Int}{r:Nat}(h:Kt q (q.length+1))(hr:r<q.length+1):Gl (Ay q r):=by intro x hx;simp only[Ay,List.mem_map,List.mem_range]at hx;obtain⟨i,hi,rfl⟩:=hx;have:=h r hr i;omega
theorem M0{q:List Int}(h:Kt q (q.length+1))(hq:q.length≤10):∀k,k<q.length+1→(HW q k).length≤6+k*215
 |0,_=>by simp[HW]
 |k+1,hk=>by
  have:=M0 h hq k (by omega)
  have h2:=Il (VS h hk)
  rw[Dh]at h2
  simp only[HW,A7,AY,Ap]
  omega
theorem ADZ{R:List (List Int)}(h:NC R):0≤EE R∧EE R≤11000000:=by have:=VO h R.length;rwa [List.take_length]at this
open Classical in
theorem AVW[HA K]{q:List Int}(hz:Cu q=true)(hf:Et q):K 182 [LL (Bb q (q.length+1))] [.b true]:=by have hif:=AKQ (K:=K) hz (JN hz hf);rwa [decide_eq_true hf]at hif
theorem AWM[HA K]{q:List Int}(h:q.length≤1048576):K 113 [LI q] [.s (JW q)]:=by
 refine qb AG5 rfl ?_;simp only[AG5];simp(disch:=first|omega|simp only[vl];omega) only[AA];refine AD (ff_s (K:=K) h) rfl ?_
 cases hq:Eh q
 ·simp(disch:=first|omega|simp only[vl];omega) only[AA];simp[JW,hq]
 obtain⟨hz,hf⟩:=Oi.1 hq;obtain⟨h1,h2,h3⟩:=GD.1 hz;have hgd:=Ki hz (JN hz hf);have e:F0 q=Bb q (q.length+1):=by unfold F0;rw[if_pos ⟨hz,hf⟩]
 have hRl:(Bb q (q.length+1)).length=q.length+1:=Hk;rw[e];simp(disch:=first|omega|simp only[vl];omega) only[AA];refine Au (fun k (s:List Nat)=>s=HW q k) (fun k s=>[.u,.u,LL (Bb q (q.length+1)),.u,.s s,.n ((k:Int)+1),.u,.u]) (q.length-1) _ rfl rfl (fun k s hk hP=>?_) (fun s hP=>?_)
 ·have hr:AG (Bb q (q.length+1)) ((k:Int)+1)=Ay q (k+1):=Io (r:=k+1) (by omega);have hb:=VS (r:=k+1) hgd (by omega);have hl:(Ay q (k+1)).length=q.length:=Dh;have hn:=Il hb;have hs:=M0 hgd h3 k (by omega);rw[←hP]at hs;simp(disch:=first|omega|simp only[vl];omega) only[AA,hr];refine AD (MU (K:=K) (l:=Ay q (k+1)) (by omega) hb) rfl ?_;simp(disch:=first|omega|simp only[vl];omega) only[AA];refine⟨_,?_,rfl⟩;rw[hP,HW]
 ·have hs:=M0 hgd h3 (q.length-1) (by omega);rw[←hP]at hs;have hsm:=Wu hz hf;have hsb:=ADZ hsm;have hif:=AVW (K:=K) hz hf;have hfl:=BB (n:=EE (Bb q (q.length+1))) (by omega);simp(disch:=first|omega|simp only[vl];omega) only[AA];refine AD (AXC (K:=K) hsm hif) rfl ?_;simp(disch:=first|omega|simp only[vl];omega) only[AA];refine AD (Bp (K:=K) (n:=EE (Bb q (q.length+1))) (by omega)) rfl ?_;simp(disch:=first|omega|simp only[vl];omega) only[AA];rw[JW,if_pos hq,hP]
theorem AdM{q:List Int}(h:3≤q.length):(sub (Bb q (q.length+1)) 1 (q.length:Int)).length=q.length-1∧∀k:Nat,k<q.length-1→AG (sub (Bb q (q.length+1)) 1 (q.length:Int)) k=Ay q (k+1):=by refine⟨by rw[KH,Hk];omega,fun k hk=>?_⟩;have:AG (Bb q (q.length+1)) ((k+1:Nat):Int)=Ay q (k+1):=Io (by omega);rw[←this];simp only[AG,sub,BH,Al,List.getElem?_drop,List.getElem?_take];rw[show Int.toNat 1+k=k+1 by simp;omega,if_pos (by omega)]
theorem AZG{s a b:List Nat}:glue s [a,b]=a++s++b:=by simp[glue,BN,AO]
theorem AcQ{a b:List Nat}:C2 [.s a,.s b]=some (LS [a,b]):=rfl
theorem AW3[HA K][IJ K]{q:List Int}(h:q.length≤1048576):K 114 [LI q] [.s (JW q)]:=by
 refine qb ALX rfl ?_;simp only[ALX];simp(disch:=first|omega|simp only[vl];omega) only[AA];refine AD (ff_i (K:=K) h) rfl ?_
 cases hq:Eh q
 ·simp(disch:=first|omega|simp only[vl];omega) only[AA];simp[JW,hq]
 obtain⟨hz,hf⟩:=Oi.1 hq;obtain⟨h1,h2,h3⟩:=GD.1 hz;have hgd:=Ki hz (JN hz hf);have e:F0 q=Bb q (q.length+1):=by unfold F0;rw[if_pos ⟨hz,hf⟩]
 have hRl:(Bb q (q.length+1)).length=q.length+1:=Hk;obtain⟨sl,sa⟩:=AdM h2;rw[e];have el:((Bb q (q.length+1)).length:Int)-1=q.length:=by omega
 simp(disch:=first|omega|simp only[vl];omega) only[AA,el];refine Au (fun k (s:List Nat)=>s=HW q k) (fun k s=>[.u,.u,LL (Bb q (q.length+1)),.u,.s s,.u,.u,LL (sub (Bb q (q.length+1)) 1 (q.length:Int)),.n (q.length-1:Nat),.n k,.u]) (q.length-1) (HW q 0) rfl (by rw[show(min ((q.length:Int)).toNat (Bb q (q.length+1)).length-Int.toNat 1)=q.length-1 by rw[←KH,sl]];rfl) (fun k s hk hP=>?_) (fun s hP=>?_)
 ·have hr:=sa k hk;have hb:=VS (r:=k+1) hgd (by omega);have hl:(Ay q (k+1)).length=q.length:=Dh;have hn:=Il hb;have hs:=M0 hgd h3 k (by omega);rw[←hP]at hs;simp(disch:=first|omega|simp only[vl];omega) only[AA,hr];refine AD (Ml (K:=K) (l:=Ay q (k+1)) (by omega) hb) rfl ?_;simp(disch:=first|omega|simp only[vl];omega) only[AA,AcQ];have hln:=Gb (K:=K) (ws:=[s,EI (Ay q (k+1))]) (by simp) (by simp;omega);refine AD (hln) rfl ?_;simp(disch:=first|omega|simp only[vl];omega) only[AA];refine⟨_,?_,rfl⟩;rw[AZG,hP,HW]
 ·have hs:=M0 hgd h3 (q.length-1) (by omega);rw[←hP]at hs;have hsm:=Wu hz hf;have hsb:=ADZ hsm;have hif:=AWU (K:=K) hz hf;have hfl:=BB (n:=EE (Bb q (q.length+1))) (by omega);simp(disch:=first|omega|simp only[vl];omega) only[AA];refine AD (AcT (K:=K) hsm hif) rfl ?_;simp(disch:=first|omega|simp only[vl];omega) only[AA];refine AD (CZ (K:=K) (n:=EE (Bb q (q.length+1))) (by omega)) rfl ?_;simp(disch:=first|omega|simp only[vl];omega) only[AA,UP];have hln:=Gb (K:=K) (ws:=[s,[115,117,109],Ai (EE (Bb q (q.length+1)))]) (by simp) (by simp;omega);refine AD (hln) rfl ?_;simp(disch:=first|omega|simp only[vl];omega) only[AA];rw[JW,if_pos hq,hP,Ve];simp
end Go.Cat
namespace Go.Cat
variable{K:Nat→List D→List D→Prop}
theorem V9[HA K]:∀{x:BT},x.n≤100000→K 592 [.s x.t] [.s x.p]
 |.lf,_=>by
  refine qb Q5 rfl ?_;simp only[Q5]
  simp only[BT.t,BT.p]
  simp(disch:=first|omega|simp only[vl];omega) only[AA]
 |.nd a b,h=>by
  have h':=h
  simp only[BT.n]at h'
  have k1:=V9 (x:=a) (by omega)
  have k2:=V9 (x:=b) (by omega)
  have ta:=BT.tl a
  have tb:=BT.tl b
  have pa:=BT.pl a
  have pb:=BT.pl b
  have hl:=GM (a:=a) (b:=b)
  have ea:=Hd (a:=a) (b:=b)
  have ke:=HQ (K:=K) (a:=a) (b:=b) (by omega)
  have e0:=J6 (a:=a) (b:=b)
  have eb:=HZ (a:=a) (b:=b) (j:=(BT.nd a b).t.length-1) rfl
  simp only[BT.p]
  generalize hw:(BT.nd a b).t=w at hl ea eb ke e0
  refine qb Q5 rfl ?_;simp only[Q5]
  simp(disch:=first|omega|simp only[vl];omega) only[AA,e0]
  refine AD (ke) rfl ?_
  simp(disch:=first|omega|simp only[vl];omega) only[AA,ea]
  refine AD (k1) rfl ?_
  simp(disch:=first|omega|simp only[vl];omega) only[AA,eb]
  refine AD (k2) rfl ?_
  simp(disch:=first|omega|simp only[vl];omega) only[AA]
  simp
theorem AUY[HA K]{x:BT}(h:x.n≤8):K 577 [.s x.t] [.s x.p,.b true]:=by refine qb Yy rfl ?_;simp only[Yy];simp(disch:=omega) only[AA];refine AD (F8 (K:=K) (s:=x.t)) rfl ?_;simp(disch:=omega) only[AA,F7 h];refine AD (V9 (K:=K) (x:=x) (by omega)) rfl ?_;simp(disch:=omega) only[AA]
end Go.Cat
namespace Go.Cat
variable{K:Nat→List D→List D→Prop}
def sep(b:Nat):List (List Nat)→List Nat
 |[]=>[]
 |[p]=>p
 |p::q::t=>p++b::sep b (q::t)
end Go.Cat
namespace Go.Cat
variable{K:Nat→List D→List D→Prop}
end Go.Cat
