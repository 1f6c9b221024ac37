/-
 Numbers of paths: heights, returns, area, peaks, places of valleys, runs, depth.
-/
import Derived.Test.YthoilpmggmenbaaGreatPfRefl
import Derived.Test.YthoilpmggmenbaaGreatQd0LawReports
import Derived.Test.YthoilpmggmenbaaGreatQd1LawReports
import Derived.Test.YthoilpmggmenbaaGreatQd2LawReports
import Derived.Test.YthoilpmggmenbaaGreatQd3LawReports
import Derived.Test.YthoilpmggmenbaaGreatPfIn
set_option linter.unusedSimpArgs false
set_option linter.unusedVariables false
namespace Go.Cat
variable{K:Nat→List D→List D→Prop}
theorem Lq:D.l []=LI []:=rfl
theorem SB{m:List Int}{i:Nat}(h:i<m.length):m.take (i+1)=m.take i++[AE m i]:=by rw[CU h];simp[AE,h]
theorem F3{w:List Nat}{i:Nat}:Hh w i≤i∧-(i:Int)≤Hh w i:=by have h1:=PM (w:=w.take i) (c:=117);have h2:=PM (w:=w.take i) (c:=100);simp only[Hh];simp only[List.length_take]at h1 h2;omega
def hL(w:List Nat):List Int:=(List.range (w.length+1)).map fun i=>Hh w i
theorem HY{w:List Nat}:(hL w).length=w.length+1:=by simp[hL]
theorem HI{w:List Nat}{i:Nat}(h:i<w.length+1):AE (hL w) i=Hh w i:=by simp[hL,AE,h]
theorem TG:∀(w:List Nat)(h:Int),(E9 w h).length=w.length
 |[],_=>rfl
 |c::w,h=>by unfold E9;split<;>simp[TG w]
theorem VC:∀(w:List Nat)(h:Int)(i:Nat),GR w=true→i≤w.length→AE (h::E9 w h) i=h+Hh w i
 |w,h,0,_,_=>by simp[AE,E0]
 |[],h,i+1,_,hi=>by simp at hi
 |c::w,h,i+1,ha,hi=>by
  rw[MK,AX,Aj]at ha
  have e:∀(l:List Int),AE (h::l) ((i+1:Nat):Int)=AE l i:=fun l=>by simp[AE]
  rw[e,Jn]
  simp only[E9]
  simp only[AY]at hi
  rcases ha.1 with hc|hc
  ·rw[if_pos hc,VC w (h+1) i ha.2 (by omega),hc];simp;omega
  ·rw[if_neg (by omega),VC w (h-1) i ha.2 (by omega),hc];simp;omega
theorem P0{w:List Nat}(hd:AM w=true):GR w=true:=by have:=AdU.1 hd;exact this.2.1
theorem ATB{w:List Nat}(hd:AM w=true):KN w=hL w∧Ji w=true:=by
 have hw:BZ w 0=some 0:=by simp only[AM,AX,Aj]at hd;exact hd.1
 refine⟨?_,by simp[Ji,hw]⟩;simp only[KN,hw];refine Fw (by rw[HY,AY,TG]) fun j hj=>?_;rw[AY,TG]at hj;rw[VC w 0 j (P0 hd) (by omega),HI hj];omega
theorem RJ[HA K]{w:List Nat}(hd:AM w=true):K 501 [.s w] [LI (hL w)]:=by
 have hl:=(Ah hd).l;obtain⟨e1,e2⟩:=ATB hd;have k1:=AH3 (K:=K) (w:=w) (by omega);rw[e1,e2]at k1;refine qb XK rfl ?_;simp only[XK];simp(disch:=omega) only[AA];repeat(first|(refine AD (Bv (K:=K) (w:=w) (by omega)) rfl ?_;try simp(disch:=omega) only[AA,hd]))
 refine AD (k1) rfl ?_;simp(disch:=omega) only[AA]
theorem VG[HA K]{w:List Nat}(hd:AM w=true):K 319 [.s w] [LI (hL w)]:=by
 have hD:=Ah hd;have hl:=hD.l;have hlen:=HY (w:=w);refine qb ANP rfl ?_;simp only[ANP];simp(disch:=first|omega|simp only[vl];omega) only[AA];repeat(first|(refine AD (Bt (K:=K) (w:=w) (by omega)) rfl ?_;try simp(disch:=first|omega|simp only[vl];omega) only[AA,hd]))
 rw[Lq];refine AL (fun _=>True) (fun i=>[.s w,.u,LI ((hL w).take i),.n (Hh w i),.n i,.u,.u,.u]) w.length trivial (by simp[E0]) (fun i hi _=>?_) (fun _=>?_)
 ·have hb:=F3 (w:=w) (i:=i);have ht:((hL w).take i).length=i:=by simp;omega
  have e:=SB (m:=hL w) (i:=i) (by omega);rw[HI (by omega)]at e;rw[e];rcases hD.ud i hi with hu|hu
  ·rw[FM hi hu];simp(disch:=first|omega|simp only[vl];omega) only[AA,hu]
  ·rw[E7 hi hu];simp(disch:=first|omega|simp only[vl];omega) only[AA,hu]
 ·have ht:((hL w).take w.length).length=w.length:=by simp;omega
  have e:=SB (m:=hL w) (i:=w.length) (by omega);rw[HI (by omega),List.take_of_length_le (by omega)]at e;simp(disch:=first|omega|simp only[vl];omega) only[AA];rw[←e]
def Hi(w:List Nat)(i:Nat):Nat:=CG (fun j=>if Hh w (j+1)=0 then 1 else 0) i
theorem AGR{w:List Nat}{i:Nat}:Hi w i≤i:=by have:=JC (g:=fun j=>if Hh w (j+1)=0 then 1 else 0) (b:=1) (fun j=>by split<;>omega) i;unfold Hi;omega
theorem AXS{l:List Int}{i:Nat}(h:i+1<l.length):AE (sub l 1 l.length) i=AE l ((i+1:Nat):Int):=by simp[AE,sub,Al,Nat.add_comm]
theorem ASB[HA K]{w:List Nat}(hd:AM w=true):K 507 [.s w] [.n (Hi w w.length)]:=by
 have hl:=(Ah hd).l;have hlen:=HY (w:=w);have hsl:(sub (hL w) 1 (hL w).length).length=w.length:=by rw[KH];omega
 refine qb ALB rfl ?_;simp only[ALB];simp(disch:=omega) only[AA];repeat(first|(refine AD (Bv (K:=K) (w:=w) (by omega)) rfl ?_;try simp(disch:=omega) only[AA,hd]))
 refine AD (RJ (K:=K) hd) rfl ?_;simp(disch:=omega) only[AA,hsl];refine AL (fun _=>True) (fun i=>[.u,.u,.n (Hi w i),.u,.u,LI (sub (hL w) 1 (hL w).length),.n w.length,.n i,.u,.u]) w.length trivial rfl (fun i hi _=>?_) (fun _=>?_)
 ·have hb:=AGR (w:=w) (i:=i);have e:=AXS (l:=hL w) (i:=i) (by omega);rw[HI (by omega)]at e;have e2:Hi w (i+1)=Hi w i+(if Hh w (i+1)=0 then 1 else 0):=rfl;by_cases h0:Hh w (i+1)=0
  ·rw[e2,if_pos h0];simp(disch:=omega) only[AA,hsl,e];all_goals simp
  ·rw[e2,if_neg h0];simp(disch:=omega) only[AA,hsl,e];simp
 ·simp(disch:=omega) only[AA]
theorem AKH{f:Nat→Nat}:∀n,CG f (n+1)=f 0+CG (fun j=>f (j+1)) n
 |0=>by simp[CG]
 |n+1=>by
  rw[CG,AKH n]
  simp only[CG];omega
theorem AbI[HA K]{w:List Nat}(hd:AM w=true):K 294 [.s w] [.n (Hi w w.length)]:=by
 have hl:=(Ah hd).l;have hlen:=HY (w:=w);refine qb Xc rfl ?_;simp only[Xc];simp(disch:=omega) only[AA];refine AD (VG (K:=K) hd) rfl ?_;simp(disch:=omega) only[AA,hlen];refine AL (fun _=>True) (fun i=>[.u,.u,LI (hL w),.n ((CG (fun j=>if Hh w j=0 then 1 else 0) i:Int)-1),.n i,.u,.u]) (w.length+1) trivial rfl (fun i hi _=>?_) (fun _=>?_)
 ·have hb:=JC (g:=fun j=>if Hh w j=0 then 1 else 0) (b:=1) (fun j=>by split<;>omega) i;have e:=HI (w:=w) (i:=i) (by omega);have e2:CG (fun j=>if Hh w j=0 then 1 else 0) (i+1)=CG (fun j=>if Hh w j=0 then 1 else 0) i+(if Hh w i=0 then 1 else 0):=rfl;by_cases h0:Hh w i=0
  ·rw[e2,if_pos h0];simp(disch:=omega) only[AA,hlen,e];simp
  ·rw[e2,if_neg h0];simp(disch:=omega) only[AA,hlen,e];simp
 ·have e:=AKH (f:=fun j=>if Hh w j=0 then 1 else 0) w.length;simp only[E0,if_true]at e;simp(disch:=omega) only[AA,hlen];rw[e];exact Dn (by simp only[Hi];omega)
def FI(w:List Nat):Nat→Int
 |0=>0
 |i+1=>FI w i+(if AK w i=117 then Hh w i else 0)
theorem Q2{w:List Nat}(hl:w.length≤16):∀{i:Nat},i≤w.length→-(i*16:Int)≤FI w i∧FI w i≤i*16
 |0,_=>by simp[FI]
 |i+1,h=>by
  have:=Q2 hl (i:=i) (by omega)
  have:=F3 (w:=w) (i:=i)
  simp only[FI]
  split<;>omega
theorem AVT[HA K]{w:List Nat}(hd:AM w=true):K 465 [.s w] [.n (FI w w.length)]:=by
 have hl:=(Ah hd).l;have hlen:=HY (w:=w);refine qb YB rfl ?_;simp only[YB];simp(disch:=omega) only[AA];repeat(first|(refine AD (Bv (K:=K) (w:=w) (by omega)) rfl ?_;try simp(disch:=omega) only[AA,hd]))
 refine AD (RJ (K:=K) hd) rfl ?_;simp(disch:=omega) only[AA];refine AL (fun _=>True) (fun i=>[.s w,.u,.n (FI w i),LI (hL w),.n i,.u,.u,.u]) w.length trivial rfl (fun i hi _=>?_) (fun _=>?_)
 ·have hb:=Q2 hl (i:=i) (by omega);have hb2:=F3 (w:=w) (i:=i);have e:=HI (w:=w) (i:=i) (by omega);by_cases hu:AK w i=117
  ·simp only[FI,if_pos hu];simp(disch:=omega) only[AA,hu,e]
  ·simp only[FI,if_neg hu];simp(disch:=omega) only[AA];simp
 ·simp(disch:=omega) only[AA]
theorem AaD[HA K]{w:List Nat}(hd:AM w=true):K 296 [.s w] [.n (FI w w.length)]:=by
 have hl:=(Ah hd).l;have hlen:=HY (w:=w);refine qb WT rfl ?_;simp only[WT];simp(disch:=omega) only[AA];refine AD (VG (K:=K) hd) rfl ?_;simp(disch:=omega) only[AA];refine AL (fun _=>True) (fun i=>[.s w,.u,LI (hL w),.n (FI w i),.n i,.u,.u,.u]) w.length trivial rfl (fun i hi _=>?_) (fun _=>?_)
 ·have hb:=Q2 hl (i:=i) (by omega);have hb2:=F3 (w:=w) (i:=i);have e:=HI (w:=w) (i:=i) (by omega);by_cases hu:AK w i=117
  ·simp only[FI,if_pos hu];simp(disch:=omega) only[AA,hu,e,hlen]
  ·simp only[FI,if_neg hu];simp(disch:=omega) only[AA,hlen];simp
 ·simp(disch:=omega) only[AA,hlen]
def Co(a b:Nat)(g:Nat→Nat)(w:List Nat)(i:Nat):Nat:=CG (fun j=>if AK w j=a∧AK w ((j:Int)+1)=b then g j else 0) i
theorem Jb{a b:Nat}{g:Nat→Nat}{w:List Nat}(hg:∀j,j<16→g j≤16):∀{i:Nat},i≤16→Co a b g w i≤i*16
 |0,_=>by simp[Co,CG]
 |i+1,h=>by
  have h1:=Jb (a:=a) (b:=b) (w:=w) hg (i:=i) (by omega)
  have h2:=hg i (by omega)
  simp only[Co,CG]at h1⊢
  split<;>omega
theorem AT7[HA K]{w:List Nat}(hd:AM w=true):K 280 [.s w] [.n (Co 117 100 (fun _=>1) w (w.length-1))]:=by
 have hl:=(Ah hd).l;refine qb Vz rfl ?_;simp only[Vz];simp(disch:=omega) only[AA];repeat(first|(refine AD (Bv (K:=K) (w:=w) (by omega)) rfl ?_;try simp(disch:=omega) only[AA,hd]))
 refine AL (fun _=>True) (fun i=>[.s w,.u,.n (Co 117 100 (fun _=>1) w i),.n ((i:Int)+1),.u,.u,.u]) (w.length-1) trivial rfl (fun i hi _=>?_) (fun _=>?_)
 ·have hb:=Jb (a:=117) (b:=100) (g:=fun _=>1) (w:=w) (fun _ _=>by omega) (i:=i) (by omega);have e2:Co 117 100 (fun _=>1) w (i+1)=Co 117 100 (fun _=>1) w i+(if AK w i=117∧AK w ((i:Int)+1)=100 then 1 else 0):=rfl;by_cases h1:AK w i=117
  ·by_cases h2:AK w ((i:Int)+1)=100
   ·rw[e2,if_pos ⟨h1,h2⟩];simp(disch:=omega) only[AA,h1,h2,CA];all_goals simp
   ·rw[e2,if_neg fun q=>h2 q.2];simp(disch:=omega) only[AA,h1,CA];simp
  ·rw[e2,if_neg fun q=>h1 q.1];simp(disch:=omega) only[AA,CA];simp
 ·simp(disch:=omega) only[AA]
theorem AZ8{w:List Nat}{i:Nat}(h:i+1<w.length):sub w i ((i:Int)+1+1)=[AK w i,AK w ((i:Int)+1)]:=by
 have e:((i:Int)+1+1).toNat=i+2:=by omega
 have h2:(w.take i).length=i:=by simp;omega
 simp only[sub,e,BH];rw[show i+2=(i+1)+1 by omega,CU (by omega),CU (by omega),CI,List.drop_append_of_le_length (by omega),List.drop_of_length_le (by omega)];have e1:((i:Int)+1)=((i+1:Nat):Int):=by omega
 rw[e1];simp only[AK,BH,Al,En h,En (show i<w.length by omega)];rfl
theorem AbM[HA K]{w:List Nat}(hd:AM w=true):K 293 [.s w] [.n (Co 117 100 (fun _=>1) w (w.length-1))]:=by
 have hl:=(Ah hd).l;refine qb Y7 rfl ?_;simp only[Y7];simp(disch:=omega) only[AA];repeat(first|(refine AD (Bt (K:=K) (w:=w) (by omega)) rfl ?_;try simp(disch:=omega) only[AA,hd]))
 refine AL (fun _=>True) (fun i=>[.s w,.u,.n (Co 117 100 (fun _=>1) w i),.n ((i:Int)+1),.u,.u,.u]) (w.length-1) trivial rfl (fun i hi _=>?_) (fun _=>?_)
 ·have hb:=Jb (a:=117) (b:=100) (g:=fun _=>1) (w:=w) (fun _ _=>by omega) (i:=i) (by omega);have e2:Co 117 100 (fun _=>1) w (i+1)=Co 117 100 (fun _=>1) w i+(if AK w i=117∧AK w ((i:Int)+1)=100 then 1 else 0):=rfl;have e3:=AZ8 (w:=w) (i:=i) (by omega);by_cases h12:AK w i=117∧AK w ((i:Int)+1)=100
  ·have e4:([AK w i,AK w ((i:Int)+1)]==[117,100])=true:=by rw[h12.1,h12.2];rfl
   rw[e2,if_pos h12];simp(disch:=omega) only[AA,CA,e3,e4];all_goals simp
  ·have e4:([AK w i,AK w ((i:Int)+1)]==[117,100])=false:=by
    refine beq_eq_false_iff_ne.2 fun q=>h12 ?_
    simp at q;exact q
   rw[e2,if_neg h12]
   simp(disch:=omega) only[AA,CA,e3,e4]
   simp
 ·simp(disch:=omega) only[AA]
theorem AcE[HA K]{w:List Nat}(hd:AM w=true):K 512 [.s w] [.n (Co 100 117 (fun j=>j+1) w (w.length-1))]:=by
 have hl:=(Ah hd).l;refine qb ADY rfl ?_;simp only[ADY];simp(disch:=omega) only[AA];repeat(first|(refine AD (Bv (K:=K) (w:=w) (by omega)) rfl ?_;try simp(disch:=omega) only[AA,hd]))
 refine AL (fun _=>True) (fun i=>[.s w,.u,.n (Co 100 117 (fun j=>j+1) w i),.n ((i:Int)+1),.u,.u,.u]) (w.length-1) trivial rfl (fun i hi _=>?_) (fun _=>?_)
 ·have hb:=Jb (a:=100) (b:=117) (g:=fun j=>j+1) (w:=w) (fun _ _=>by omega) (i:=i) (by omega);have e2:Co 100 117 (fun j=>j+1) w (i+1)=Co 100 117 (fun j=>j+1) w i+(if AK w i=100∧AK w ((i:Int)+1)=117 then i+1 else 0):=rfl;by_cases h1:AK w i=100
  ·by_cases h2:AK w ((i:Int)+1)=117
   ·rw[e2,if_pos ⟨h1,h2⟩];simp(disch:=omega) only[AA,h1,h2,CA];simp
   ·rw[e2,if_neg fun q=>h2 q.2];simp(disch:=omega) only[AA,h1,CA];simp
  ·rw[e2,if_neg fun q=>h1 q.1];simp(disch:=omega) only[AA,CA];simp
 ·simp(disch:=omega) only[AA]
theorem ATT[HA K]{w:List Nat}(hd:AM w=true):K 303 [.s w] [.n (Co 100 117 (fun j=>j+1) w (w.length-1))]:=by
 have hl:=(Ah hd).l;refine qb XC rfl ?_;simp only[XC];simp(disch:=omega) only[AA];repeat(first|(refine AD (Bt (K:=K) (w:=w) (by omega)) rfl ?_;try simp(disch:=omega) only[AA,hd]))
 refine AL (fun _=>True) (fun i=>[.s w,.u,.n (Co 100 117 (fun j=>j+1) w i),.n ((i:Int)+1),.u,.u,.u]) (w.length-1) trivial rfl (fun i hi _=>?_) (fun _=>?_)
 ·have hb:=Jb (a:=100) (b:=117) (g:=fun j=>j+1) (w:=w) (fun _ _=>by omega) (i:=i) (by omega);have e2:Co 100 117 (fun j=>j+1) w (i+1)=Co 100 117 (fun j=>j+1) w i+(if AK w i=100∧AK w ((i:Int)+1)=117 then i+1 else 0):=rfl;by_cases h1:AK w i=100
  ·by_cases h2:AK w ((i:Int)+1)=117
   ·rw[e2,if_pos ⟨h1,h2⟩];simp(disch:=omega) only[AA,h1,h2,CA];simp
   ·rw[e2,if_neg fun q=>h2 q.2];simp(disch:=omega) only[AA,h1,CA];simp
  ·rw[e2,if_neg fun q=>h1 q.1];simp(disch:=omega) only[AA,CA];simp
 ·simp(disch:=omega) only[AA]
end Go.Cat
namespace Go.Cat
variable{K:Nat→List D→List D→Prop}
def BT.p:BT→List Nat
 |.lf=>[]
 |.nd l r=>117::(l.p++100::r.p)
theorem BT.pl:∀x:BT,x.p.length=2*x.n
 |.lf=>rfl
 |.nd l r=>by
  have:=BT.pl l
  have:=BT.pl r
  simp only[BT.p,BT.n,AY,A7];omega
theorem US:∀(x:BT)(r:List Nat)(h:Int),0≤h→BZ (x.p++r) h=BZ r h
 |.lf,r,h,_=>rfl
 |.nd a b,r,h,h0=>by
  simp only[BT.p,List.cons_append,CI]
  rw[BZ,if_pos rfl,US a _ _ (by omega),BZ,if_neg (by omega),if_pos rfl,if_neg (by omega),US b _ _ (by omega)]
  congr 1;omega
theorem VH(x:BT):BZ x.p 0=some 0:=by have:=US x [] 0 (by omega);rw[List.append_nil]at this;rw[this];rfl
theorem AG0{x:BT}(h:x.n≤8):AM x.p=true:=by have:=BT.pl x;simp only[AM,VH,AX,Aj];exact⟨trivial,by omega⟩
theorem V6:∀(n:Nat)(w:List Nat)(k:Int),w.length≤n→0≤k→BZ w (k+1)=some 0→∃(x:BT)(b:List Nat),w=x.p++100::b∧BZ b k=some 0
 |_,[],k,_,hk,h=>by simp[BZ]at h;omega
 |0,c::w,k,hl,_,_=>by simp at hl
 |n+1,c::w,k,hl,hk,h=>by
  simp only[AY]at hl
  simp only[BZ]at h
  by_cases hu:c=117
  ·rw[if_pos hu]at h
   obtain⟨l,b1,e1,h1⟩:=V6 n w (k+1) (by omega) (by omega) h
   have hb:b1.length≤n:=by
    have:=congrArg List.length e1
    simp only[A7,AY]at this
    omega
   obtain⟨r,b2,e2,h2⟩:=V6 n b1 k hb hk h1
   refine⟨.nd l r,b2,?_,h2⟩
   rw[hu,e1,e2]
   simp[BT.p]
  ·rw[if_neg hu]at h
   by_cases hd:c=100
   ·rw[if_pos hd,if_neg (by omega)]at h
    refine⟨.lf,w,by simp[BT.p,hd],?_⟩
    rw[←h];congr 1;omega
   ·rw[if_neg hd]at h;cases h
theorem AA9:∀(n:Nat)(w:List Nat),w.length≤n→BZ w 0=some 0→∃x:BT,w=x.p
 |_,[],_,_=>⟨.lf,rfl⟩
 |0,c::w,hl,_=>by simp at hl
 |n+1,c::w,hl,h=>by
  simp only[AY]at hl
  simp only[BZ]at h
  by_cases hu:c=117
  ·rw[if_pos hu]at h
   obtain⟨l,b,e1,h1⟩:=V6 n w 0 (by omega) (by omega) h
   have hb:b.length≤n:=by
    have:=congrArg List.length e1
    simp only[A7,AY]at this
    omega
   obtain⟨r,e2⟩:=AA9 n b hb h1
   exact⟨.nd l r,by rw[hu,e1,e2];rfl⟩
  ·rw[if_neg hu]at h
   by_cases hd:c=100
   ·rw[if_pos hd,if_pos (by omega)]at h;cases h
   ·rw[if_neg hd]at h;cases h
theorem IY{w:List Nat}(hd:AM w=true):∃x:BT,w=x.p∧x.n≤8:=by simp only[AM,AX,Aj]at hd;obtain⟨x,e⟩:=AA9 w.length w (Nat.le_refl _) hd.1;have:=BT.pl x;exact⟨x,e,by rw[←e]at this;omega⟩
theorem BT.T7:∀{x y:BT}{a b:List Nat},x.p++100::a=y.p++100::b→x=y∧a=b
 |.lf,.lf,a,b,h=>by simpa[BT.p]using h
 |.lf,.nd _ _,a,b,h=>by simp[BT.p]at h
 |.nd _ _,.lf,a,b,h=>by simp[BT.p]at h
 |.nd l r,.nd l' r',a,b,h=>by
  simp only[BT.p,List.cons_append,CI,List.cons.injEq,true_and]at h
  obtain⟨h1,h2⟩:=BT.T7 h
  obtain⟨h3,h4⟩:=BT.T7 h2
  subst h1;subst h3
  exact⟨rfl,h4⟩
theorem BT.APP{x y:BT}(h:x.p=y.p):x=y:=(BT.T7 (a:=[]) (b:=[]) (by rw[h])).1
open Classical in
noncomputable def H4(w:List Nat):BT:=if h:∃x:BT,w=x.p then h.choose else .lf
theorem KG{x:BT}:H4 x.p=x:=by have h:∃y:BT,x.p=y.p:=⟨x,rfl⟩;simp only[H4,dif_pos h];exact(BT.APP h.choose_spec).symm
theorem hp_0{x:BT}{i:Nat}(h:i≤2*x.n):0≤Hh x.p i:=by have h1:=(Kc x.p 0 0 (Int.le_refl _)).1 (VH x);have:=h1.2.1 i (by rw[BT.pl];exact h);omega
theorem hp_l{x:BT}:Hh x.p (2*x.n)=0:=by have h1:=(Kc x.p 0 0 (Int.le_refl _)).1 (VH x);have:=h1.2.2;rw[BT.pl]at this;omega
theorem AYA{l r:BT}{i:Nat}(h:i≤2*l.n):Hh (BT.nd l r).p (i+1)=1+Hh l.p i:=by simp only[BT.p];rw[Jn,AY8 (by rw[BT.pl];exact h)];simp
theorem AIP{l r:BT}:Hh (BT.nd l r).p (2*l.n+2)=0:=by simp only[BT.p];rw[Jn,show 2*l.n+1=l.p.length+1 by rw[BT.pl],AWK,BT.pl,hp_l,Jn,E0];simp
theorem AOD{l r:BT}{i:Nat}(h0:1≤i)(h:i≤2*l.n+1):0<Hh (BT.nd l r).p i:=by obtain⟨j,rfl⟩:∃j,i=j+1:=⟨i-1,by omega⟩;rw[AYA (by omega)];have:=hp_0 (x:=l) (i:=j) (by omega);omega
theorem Z7{l r:BT}:sub (BT.nd l r).p 1 ((2*l.n+2:Nat)-1:Int)=l.p:=by
 have e:(((2*l.n+2:Nat):Int)-1).toNat=l.p.length+1:=by rw[BT.pl];omega
 show(List.take (((2*l.n+2:Nat):Int)-1).toNat (BT.nd l r).p).drop (1:Int).toNat=_;rw[e];simp[BT.p]
theorem Yq{l r:BT}{j:Int}(hj:j=2*(l.n+r.n+1)):sub (BT.nd l r).p ((2*l.n+2:Nat):Int) j=r.p:=by
 have e:(2*l.n+2)=l.p.length+1+1:=by rw[BT.pl]
 have e1:(BT.nd l r).p=(117::l.p++[100])++r.p:=by simp[BT.p]
 have e2:(117::l.p++[100]).length=2*l.n+2:=by simp[BT.pl]
 have e3:j.toNat=(BT.nd l r).p.length:=by rw[BT.pl,BT.n];omega
 simp only[sub,e3,List.take_length,BH];rw[e1,←e2,List.drop_left]
theorem fr_i[HA K]{l r:BT}(h:(BT.nd l r).n≤8):K 519 [.s (BT.nd l r).p] [.s l.p,.s r.p,.b true]:=by
 have hd:=AG0 h;have hl:=BT.pl (.nd l r);simp only[BT.n]at h hl;have hlen:=HY (w:=(BT.nd l r).p);have e0:((BT.nd l r).p==[])=false:=by simp[BT.p]
 have ea:=Z7 (l:=l) (r:=r);have eb:=Yq (l:=l) (r:=r) (j:=((BT.nd l r).p.length:Nat)) (by omega);generalize hw:(BT.nd l r).p=w at hd hl hlen e0 ea eb⊢;refine qb Pb rfl ?_;simp only[Pb];simp(disch:=omega) only[AA];repeat(first|(refine AD (Bv (K:=K) (w:=w) (by omega)) rfl ?_;try simp(disch:=omega) only[AA,hd,e0]))
 refine AD (RJ (K:=K) hd) rfl ?_;simp(disch:=omega) only[AA];refine Be (fun(i:Nat)=>1≤i∧i≤2*l.n+2) (fun i=>[.s w,.u,.u,.u,LI (hL w),.n i,.u,.u]) (fun i=>2*l.n+2-i) 1 (by omega) rfl ?_;intro i hi;have e:=HI (w:=w) (i:=i) (by omega);by_cases q:i=2*l.n+2
 ·have e1:Hh w i=0:=by rw[←hw,q];exact AIP
  rw[e1]at e;simp(disch:=omega) only[AA,e];subst q;rw[ea,eb]
 ·have e1:0<Hh w i:=by rw[←hw];exact AOD hi.1 (by omega)
  simp(disch:=omega) only[AA,e];exact⟨i+1,by omega,by omega,by simp⟩
theorem AT9[HA K]:K 519 [.s []] [.s [],.s [],.b false]:=by refine qb Pb rfl ?_;simp only[Pb];simp(disch:=omega) only[AA];repeat(first|(refine AD (Bv (K:=K) (w:=[]) (by simp)) rfl ?_;try simp(disch:=omega) only[AA,show AM []=true from rfl]))
theorem Ls[HA K]:∀{x:BT},x.n≤8→K 514 [.s x.p] [x.d]
 |.lf,_=>by
  refine qb RC rfl ?_;simp only[RC]
  simp only[BT.p]
  simp(disch:=omega) only[AA]
  refine AD (AT9 (K:=K)) rfl ?_
  simp(disch:=omega) only[AA]
  rfl
 |.nd l r,h=>by
  have h':=h
  simp only[BT.n]at h'
  have k1:=Ls (x:=l) (by omega)
  have k2:=Ls (x:=r) (by omega)
  refine qb RC rfl ?_;simp only[RC]
  simp(disch:=omega) only[AA]
  refine AD (fr_i (K:=K) h) rfl ?_
  simp(disch:=omega) only[AA]
  refine AD (k1) rfl ?_
  simp(disch:=omega) only[AA]
  refine AD (k2) rfl ?_
  simp(disch:=omega) only[AA,BT.Q4]
  rfl
theorem IQ[HA K]:∀{x:BT},x.n≤100000→K 196 [x.d] [.s x.t]
 |.lf,_=>by
  refine qb Ou rfl ?_;simp only[Ou]
  simp only[BT.d,BT.t]
  simp(disch:=first|omega|simp only[vl];omega) only[AA]
 |.nd l r,h=>by
  have h':=h
  simp only[BT.n]at h'
  have k1:=IQ (x:=l) (by omega)
  have k2:=IQ (x:=r) (by omega)
  have t1:=BT.tl l
  have t2:=BT.tl r
  refine qb Ou rfl ?_;simp only[Ou]
  simp only[BT.d,BT.t]
  simp(disch:=first|omega|simp only[vl];omega) only[AA,BT.DZ,JU]
  refine AD (k1) rfl ?_
  simp(disch:=first|omega|simp only[vl];omega) only[AA,BT.DZ]
  refine AD (k2) rfl ?_
  simp(disch:=first|omega|simp only[vl];omega) only[AA]
  simp
theorem ATI[HA K]{l r:BT}(h:(BT.nd l r).n≤8):K 518 [.s (BT.nd l r).p] [.n (2*l.n+1:Nat)]:=by
 have hd:=AG0 h;have hD:=Ah hd;have hl:=BT.pl (.nd l r);simp only[BT.n]at h hl;have h1:∀i:Nat,1≤i→i≤2*l.n+1→0<Hh (BT.nd l r).p i:=fun i q1 q2=>AOD q1 q2;have h2:=AIP (l:=l) (r:=r);generalize hw:(BT.nd l r).p=w at hd hD hl h1 h2⊢;have h2:Hh w (2*l.n+1+1)=0:=h2;have hcl:2*l.n+1<w.length:=by omega
 generalize 2*l.n+1=c at h1 h2 hcl⊢;refine qb AK6 rfl ?_;simp only[AK6];simp(disch:=omega) only[AA];refine Be (fun(i:Nat)=>i≤c) (fun i=>[.s w,.u,.n (Hh w i),.n i,.u,.u,.u]) (fun i=>c+1-i) 0 (by omega) (by simp[E0]) ?_;intro i hi;have hb:=F3 (w:=w) (i:=i);have hs:i<w.length:=by omega
 by_cases q:i=c
 ·subst q;rcases hD.ud _ hs with hu|hu
  ·rw[FM hs hu]at h2;have:=h1 i;by_cases q0:i=0
   ·subst q0;rw[E0]at h2;omega
   ·have:=h1 i (by omega) (by omega);omega
  ·rw[E7 hs hu]at h2;simp(disch:=omega) only[AA,hu]
 ·have e1:=h1 (i+1) (by omega) (by omega);rcases hD.ud _ hs with hu|hu
  ·rw[FM hs hu]at e1;have e2:=FM hs hu;simp(disch:=omega) only[AA,hu];exact⟨i+1,by omega,by omega,by rw[e2];simp⟩
  ·rw[E7 hs hu]at e1;have e2:=E7 hs hu;simp(disch:=omega) only[AA,hu];exact⟨i+1,by omega,by omega,by rw[e2];simp⟩
theorem Kj[HA K]:∀{x:BT},x.n≤8→K 513 [.s x.p] [.s x.t]
 |.lf,_=>by
  refine qb Qi rfl ?_;simp only[Qi]
  simp only[BT.p,BT.t]
  simp(disch:=first|omega|simp only[vl];omega) only[AA]
 |.nd l r,h=>by
  have h':=h
  simp only[BT.n]at h'
  have k1:=Kj (x:=l) (by omega)
  have k2:=Kj (x:=r) (by omega)
  have t1:=BT.tl l
  have t2:=BT.tl r
  have hl:=BT.pl (.nd l r)
  simp only[BT.n]at hl
  have kc:=ATI (K:=K) h
  have e0:((BT.nd l r).p==[])=false:=by simp[BT.p]
  have ea:=Z7 (l:=l) (r:=r)
  have ea2:sub (BT.nd l r).p 1 ((2*l.n+1:Nat):Int)=l.p:=by rw[←ea];congr 1;omega
  have eb:=Yq (l:=l) (r:=r) (j:=((BT.nd l r).p.length:Nat)) (by omega)
  have eb2:sub (BT.nd l r).p (((2*l.n+1:Nat):Int)+1) ((BT.nd l r).p.length:Nat)=r.p:=by rw[←eb];congr 1
  generalize hw:(BT.nd l r).p=w at kc hl e0 ea2 eb2⊢
  have hcl:2*l.n+1<w.length:=by omega
  have hcl2:w.length≤16:=by omega
  have hc1:1≤2*l.n+1:=by omega
  generalize 2*l.n+1=c at kc ea2 eb2 hcl hc1
  refine qb Qi rfl ?_;simp only[Qi]
  simp(disch:=first|omega|simp only[vl];omega) only[AA,e0]
  refine AD (kc) rfl ?_
  simp(disch:=first|omega|simp only[vl];omega) only[AA]
  rw[ea2]
  refine AD (k1) rfl ?_
  simp(disch:=first|omega|simp only[vl];omega) only[AA]
  rw[eb2]
  refine AD (k2) rfl ?_
  simp(disch:=first|omega|simp only[vl];omega) only[AA]
  simp[BT.t]
end Go.Cat
