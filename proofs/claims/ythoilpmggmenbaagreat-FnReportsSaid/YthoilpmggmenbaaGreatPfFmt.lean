/-
 Numbers as texts, and texts glued together.
-/
import Derived.Test.YthoilpmggmenbaaGreatPfSch
import Derived.Test.YthoilpmggmenbaaGreatPfIn
import Derived.Test.YthoilpmggmenbaaGreatQd0LawReports
import Derived.Test.YthoilpmggmenbaaGreatQd1LawReports
import Derived.Test.YthoilpmggmenbaaGreatQd2LawReports
import Derived.Test.YthoilpmggmenbaaGreatQd3LawReports
import Derived.Test.YthoilpmggmenbaaGreatPfMatP
set_option linter.unusedSimpArgs false
set_option linter.unusedVariables false
namespace Go.Cat
variable{K:Nat→List D→List D→Prop}
def Ai(n:Int):List Nat:=if n=0 then [48]else if n<0 then 45::D5 n.natAbs else D5 n.natAbs
theorem JR{n:Nat}(h:n≠0):D5 n=D5 (n/10)++[48+n%10]:=by
 cases n with
 |zero=>exact absurd rfl h
 |succ n=>rw[D5]
theorem OH:∀{k n:Nat},n<10^k→(D5 n).length≤k
 |0,n,h=>by
  obtain rfl:n=0:=by omega
  simp[D5]
 |k+1,n,h=>by
  by_cases h0:n=0
  ·subst h0;simp[D5]
  ·rw[JR h0]
   have:=OH (k:=k) (n:=n/10) (by rw[Nat.pow_succ]at h;omega)
   simp only[A7,AY,Ap];omega
theorem Sx{x:Int}:(x.tdiv 10).natAbs=x.natAbs/10:=by rw[Int.natAbs_tdiv];rfl
theorem RS{x:Int}:(x.tmod 10).natAbs=x.natAbs%10:=by rw[Int.natAbs_tmod];rfl
theorem ABB{x:Int}(h:-9223372036854775808≤x∧x≤9223372036854775807):-9223372036854775808≤x.tdiv 10∧x.tdiv 10≤9223372036854775807:=by have:=Sx (x:=x);omega
theorem X5{x:Int}:-9≤x.tmod 10∧x.tmod 10≤9:=by have:=RS (x:=x);omega
theorem Bp[HA K]{n:Int}(h:-9223372036854775808≤n∧n≤9223372036854775807):K 138 [.n n] [.s (Ai n)]:=by
 refine qb ACN rfl ?_;simp only[ACN];by_cases h0:n=0
 ·subst h0;simp(disch:=first|omega|simp only[vl];omega) only[AA];rfl
 ·have hk:=OH (k:=19) (n:=n.natAbs) (by omega);simp(disch:=first|omega|simp only[vl];omega) only[AA];refine Be (fun(x:Int×List Nat)=>D5 x.1.natAbs++x.2=D5 n.natAbs∧(-9223372036854775808≤x.1∧x.1≤9223372036854775807)) (fun x=>[.n x.1,.u,.s x.2,.b (decide (n<0)),.u,.u,.u,.u,.u]) (fun x=>x.1.natAbs) (n,[]) ⟨by simp,h⟩ rfl ?_;rintro⟨x,s⟩ ⟨h1,h2⟩;simp only at h1 h2⊢;have hsl:=congrArg List.length h1;rw[A7]at hsl;have hb:=ABB h2;have hm:=X5 (x:=x);have e1:=Sx (x:=x);have e2:=RS (x:=x);by_cases hx:x=0
  ·subst hx;have h1:s=D5 n.natAbs:=by simpa[D5]using h1
   by_cases hn:n<0
   ·simp(disch:=first|omega|simp only[vl];omega) only[AA];simp only[Ai,if_neg h0,if_pos hn,h1,List.cons_append,List.nil_append]
   ·simp(disch:=first|omega|simp only[vl];omega) only[AA];simp only[Ai,if_neg h0,if_neg hn,h1]
  ·have hx2:x.natAbs≠0:=by omega
   rw[JR hx2]at h1;have e3:48+x.natAbs%10<256:=by omega
   by_cases hq:x.tmod 10<0
   ·have e4:(48+(0-x.tmod 10)).toNat=48+x.natAbs%10:=by omega
    simp(disch:=first|omega|simp only[vl];omega) only[AA,e4];exact⟨(x.tdiv 10,(48+x.natAbs%10)::s),by show(x.tdiv 10).natAbs<x.natAbs;omega,⟨by rw[e1,←h1];simp,hb⟩,rfl⟩
   ·have e4:(48+x.tmod 10).toNat=48+x.natAbs%10:=by omega
    simp(disch:=first|omega|simp only[vl];omega) only[AA,e4];exact⟨(x.tdiv 10,(48+x.natAbs%10)::s),by show(x.tdiv 10).natAbs<x.natAbs;omega,⟨by rw[e1,←h1];simp,hb⟩,rfl⟩
def Fc(b:List Nat)(i:Int)(c:Nat):List Nat:=b.set i.toNat c
theorem M6{b:List Nat}{i:Int}{c:Nat}:(Fc b i c).length=b.length:=by simp[Fc]
theorem AGJ{b:List Nat}{i j:Nat}{c:Nat}(hi:i<b.length):AK (Fc b i c) j=if i=j then c else AK b j:=by
 simp only[AK,Fc,BH,Al,List.getElem?_set];by_cases q:i=j
 ·subst q;simp[hi]
 ·simp[q]
theorem extB{a b:List Nat}(hl:a.length=b.length)(h:∀j:Nat,j<a.length→AK a j=AK b j):a=b:=by refine List.ext_getElem hl fun i h1 h2=>?_;have:=h i h1;simpa[AK,h1,h2]using this
theorem AE8{b:List Nat}{i:Int}{c:Nat}(h:0≤i∧i<b.length):Ao [i.toNat] (LB b) (.y c)=some (LB (Fc b i c)):=JA D.y (by omega)
theorem AOQ{is:List Nat}{d:D}{c:Nat}:He (some is) d (.y c)=Ao is d (.y c):=rfl
def Kk(a o:List Nat)(i:Nat):Prop:=o.length=a.length∧∀j:Nat,j<a.length→AK o j=if j<i∨a.length≤j+i then AK a (a.length-1-j:Nat)else AK a j
theorem Xs{a:List Nat}:Kk a a 0:=⟨rfl,fun j hj=>by rw[if_neg (by omega)]⟩
theorem ABP{a o:List Nat}{i:Nat}(h:Kk a o i)(hc:2*i+1<a.length):Kk a (Fc (Fc o i (AK o ((a.length-1-i:Nat):Int))) ((a.length-1-i:Nat):Int) (AK o i)) (i+1):=by
 obtain⟨h2,h3⟩:=h;refine⟨by rw[M6,M6,h2],fun j hj=>?_⟩;rw[AGJ (by rw[M6];omega),AGJ (by omega)];have a1:=h3 i (by omega);have a2:=h3 (a.length-1-i) (by omega);rw[if_neg (by omega)]at a1 a2;by_cases j1:a.length-1-i=j
 ·rw[if_pos j1,if_pos (by omega),a1];congr 2;omega
 ·rw[if_neg j1];by_cases j2:i=j
  ·rw[if_pos j2,if_pos (by omega),a2];congr 2;omega
  ·rw[if_neg j2,h3 j hj];by_cases j3:j<i∨a.length≤j+i
   ·rw[if_pos j3,if_pos (by omega)]
   ·rw[if_neg j3,if_neg (by omega)]
theorem AOS{a o:List Nat}{i:Nat}(h:Kk a o i)(hc:¬2*i+1<a.length):o=a.reverse:=by
 obtain⟨h2,h3⟩:=h;refine extB (by simp[h2]) fun j hj=>?_;rw[h2]at hj;rw[h3 j hj];have hr:AK a.reverse j=AK a (a.length-1-j:Nat):=by simp only[AK,BH,Al,List.getElem?_reverse hj]
 rw[hr];split
 ·rfl
 ·congr 2;omega
theorem ABF:∀{n:Nat},∀c∈D5 n,c<256:=by
 intro n;induction n using Nat.strongRecOn with
 |_ n ih=>
  intro c hc
  by_cases h0:n=0
  ·subst h0;simp[D5]at hc
  ·rw[JR h0]at hc
   rcases Af.1 hc with q|q
   ·exact ih (n/10) (by omega) c q
   ·obtain rfl:=List.mem_singleton.1 q;omega
theorem AN3{n:Int}:∀c∈Ai n,c<256:=by
 intro c hc;unfold Ai at hc;split at hc
 ·obtain rfl:=List.mem_singleton.1 hc;omega
 ·split at hc
  ·rcases Aa.1 hc with rfl|q
   ·omega
   ·exact ABF c q
  ·exact ABF c hc
theorem BB{n:Int}(h:-9223372036854775808≤n∧n≤9223372036854775807):(Ai n).length≤20:=by
 have hk:=OH (k:=19) (n:=n.natAbs) (by omega);unfold Ai;split
 ·simp
 ·split
  ·simp only[AY];omega
  ·omega
theorem T0{n:Int}:0<(Ai n).length:=by
 unfold Ai;split
 ·simp
 ·rename_i h0;split
  ·simp
  ·rw[JR (by omega)];simp
theorem CZ[HA K]{n:Int}(h:-9223372036854775808≤n∧n≤9223372036854775807):K 143 [.n n] [.s (Ai n)]:=by
 refine qb APV rfl ?_;simp only[APV];by_cases h0:n=0
 ·subst h0;simp(disch:=first|omega|simp only[vl];omega) only[AA];rfl
 ·have hk:=OH (k:=19) (n:=n.natAbs) (by omega);have hfl:=BB h;have hfp:=T0 (n:=n);simp(disch:=first|omega|simp only[vl];omega) only[AA];rw[show D.l []=LB []from rfl];refine Be (fun(x:Int×List Nat)=>D5 x.1.natAbs++x.2.reverse=D5 n.natAbs∧(-9223372036854775808≤x.1∧x.1≤9223372036854775807)) (fun x=>[.n n,.u,LB x.2,.n x.1,.u,.u,.u,.u,.u,.u,.u,.u]) (fun x=>x.1.natAbs) (n,[]) ⟨by simp,h⟩ rfl ?_;rintro⟨x,s⟩ ⟨h1,h2⟩;simp only at h1 h2⊢;have hsl:=congrArg List.length h1;rw[A7,List.length_reverse]at hsl;have hb:=ABB h2;have hm:=X5 (x:=x);have e1:=Sx (x:=x);have e2:=RS (x:=x);by_cases hx:x=0
  ·subst hx;have h1:s.reverse=D5 n.natAbs:=by simpa[D5]using h1
   by_cases hn:n<0
   ·have hf:(s++[45]).reverse=Ai n:=by
     simp only[Ai,if_neg h0,if_pos hn,List.reverse_append,h1];rfl
    have hal:=congrArg List.length hf
    rw[List.length_reverse]at hal
    simp(disch:=first|omega|simp only[vl];omega) only[AA]
    show wpS K (.loop _) _ [.u,.u,LB (s++[45]),.u,.u,.n 0,.n (((s++[45]).length:Int)-1),.u,.u,.u,.u,.u]
    refine Be (fun(x:Nat×List Nat)=>2*x.1≤(s++[45]).length+1∧Kk (s++[45]) x.2 x.1) (fun x=>[.u,.u,LB x.2,.u,.u,.n x.1,.n (((s++[45]).length:Int)-1-x.1),.u,.u,.u,.u,.u]) (fun x=>(s++[45]).length-x.1) (0,s++[45]) ⟨by simp,Xs⟩ (by simp) ?_
    rintro⟨i,o⟩ ⟨g1,g2⟩
    simp only at g1 g2
    have g3:=g2.1
    have hs1:(Fc o i (AK o (((s++[45]).length:Int)-1-i))).length=o.length:=M6
    by_cases hc:2*i+1<(s++[45]).length
    ·simp(disch:=first|omega|simp only[vl];omega) only[AA,AE8,AOQ]
     have e:(((s++[45]).length-1-i:Nat):Int)=((s++[45]).length:Int)-1-i:=by omega
     rw[←e]
     refine⟨(i+1,Fc (Fc o i (AK o (((s++[45]).length-1-i:Nat):Int))) (((s++[45]).length-1-i:Nat):Int) (AK o i)),by show(s++[45]).length-(i+1)<(s++[45]).length-i;omega,⟨by show 2*(i+1)≤(s++[45]).length+1;omega,ABP g2 hc⟩,?_⟩
     have:(((s++[45]).length-1-i:Nat):Int)-1=((s++[45]).length:Int)-1-((i+1:Nat):Int):=by omega
     rw[this];rfl
    ·have:=AOS g2 hc
     rw[hf]at this
     subst this
     simp(disch:=first|omega|simp only[vl];omega) only[AA,Qy (AN3 (n:=n))]
   ·have hf:s.reverse=Ai n:=by
     simp only[Ai,if_neg h0,if_neg hn,h1]
    have hal:=congrArg List.length hf
    rw[List.length_reverse]at hal
    simp(disch:=first|omega|simp only[vl];omega) only[AA]
    show wpS K (.loop _) _ [.u,.u,LB s,.u,.u,.n 0,.n (((s).length:Int)-1),.u,.u,.u,.u,.u]
    refine Be (fun(x:Nat×List Nat)=>2*x.1≤(s).length+1∧Kk (s) x.2 x.1) (fun x=>[.u,.u,LB x.2,.u,.u,.n x.1,.n (((s).length:Int)-1-x.1),.u,.u,.u,.u,.u]) (fun x=>(s).length-x.1) (0,s) ⟨by simp,Xs⟩ (by simp) ?_
    rintro⟨i,o⟩ ⟨g1,g2⟩
    simp only at g1 g2
    have g3:=g2.1
    have hs1:(Fc o i (AK o (((s).length:Int)-1-i))).length=o.length:=M6
    by_cases hc:2*i+1<(s).length
    ·simp(disch:=first|omega|simp only[vl];omega) only[AA,AE8,AOQ]
     have e:(((s).length-1-i:Nat):Int)=((s).length:Int)-1-i:=by omega
     rw[←e]
     refine⟨(i+1,Fc (Fc o i (AK o (((s).length-1-i:Nat):Int))) (((s).length-1-i:Nat):Int) (AK o i)),by show(s).length-(i+1)<(s).length-i;omega,⟨by show 2*(i+1)≤(s).length+1;omega,ABP g2 hc⟩,?_⟩
     have:(((s).length-1-i:Nat):Int)-1=((s).length:Int)-1-((i+1:Nat):Int):=by omega
     rw[this];rfl
    ·have:=AOS g2 hc
     rw[hf]at this
     subst this
     simp(disch:=first|omega|simp only[vl];omega) only[AA,Qy (AN3 (n:=n))]
  ·have hx2:x.natAbs≠0:=by omega
   rw[JR hx2]at h1;have e3:48+x.natAbs%10<256:=by omega
   by_cases hq:x.tmod 10<0
   ·have e4:(48+(0-x.tmod 10)).toNat=48+x.natAbs%10:=by omega
    simp(disch:=first|omega|simp only[vl];omega) only[AA,e4];exact⟨(x.tdiv 10,s++[48+x.natAbs%10]),by show(x.tdiv 10).natAbs<x.natAbs;omega,⟨by rw[e1,←h1];simp,hb⟩,rfl⟩
   ·have e4:(48+x.tmod 10).toNat=48+x.natAbs%10:=by omega
    simp(disch:=first|omega|simp only[vl];omega) only[AA,e4];exact⟨(x.tdiv 10,s++[48+x.natAbs%10]),by show(x.tdiv 10).natAbs<x.natAbs;omega,⟨by rw[e1,←h1];simp,hb⟩,rfl⟩
end Go.Cat
namespace Go.Cat
variable{K:Nat→List D→List D→Prop}
def BN(sep:List Nat)(ws:List (List Nat)):Nat→List Nat
 |0=>[]
 |i+1=>BN sep ws i++(if 0<i then sep else [])++AO ws i
def glue(sep:List Nat)(ws:List (List Nat)):List Nat:=BN sep ws ws.length
theorem Ql{ws:List (List Nat)}{b i:Nat}(h:∀x∈ws,x.length≤b):(AO ws i).length≤b:=by
 rcases Bh i ws.length with q|q
 ·exact h _ (by simp[AO,q])
 ·have:AO ws i=[]:=by simp[AO,q]
  rw[this];simp
theorem Ic{sep:List Nat}{ws:List (List Nat)}{b:Nat}(h:∀x∈ws,x.length≤b):∀i,(BN sep ws i).length≤i*(b+sep.length)
 |0=>by simp[BN]
 |i+1=>by
  have h1:=Ic (sep:=sep) h i
  have h2:=Ql (i:=i) h
  simp only[BN,A7,Nat.succ_mul]
  have:(if 0<i then sep else []).length≤sep.length:=by split<;>simp
  omega
theorem JI[HA K]{ws:List (List Nat)}{sep:List Nat}(hl:ws.length≤100000)(hb:∀x∈ws,x.length≤100000)(hs:sep.length≤100):K 184 [LS ws,.s sep] [.s (glue sep ws)]:=by
 refine qb AFH rfl ?_;simp only[AFH];simp(disch:=first|omega|simp only[vl];omega) only[AA];refine AL (fun _=>True) (fun i=>[.u,.s sep,.u,.s (BN sep ws i),.u,.u,LS ws,.n ws.length,.n i,.u,.u]) ws.length trivial rfl (fun i hi _=>?_) (fun _=>?_)
 ·have h1:=Ic (sep:=sep) hb i;have h2:=Ql (i:=i) hb;have h3:i*(100000+sep.length)≤100000*(100000+100):=Nat.mul_le_mul (by omega) (by omega);by_cases h0:0<i
  ·simp(disch:=first|omega|simp only[vl];omega) only[AA];simp only[BN,if_pos h0]
  ·simp(disch:=first|omega|simp only[vl];omega) only[AA];simp only[BN,if_neg h0,List.append_nil]
 ·simp(disch:=first|omega|simp only[vl];omega) only[AA];rfl
theorem NA:D.l []=LS []:=rfl
def Ej(r:List Int):Bool:=decide (r.length=2)&&(AV 0 9 (AE r 0)&&AV 0 9 (AE r 1))
def Cp(d:List (List Int)):List (List Nat):=d.map fun r=>Ai (AE r 0)++Ai (AE r 1)
def E4(d:List (List Int)):List Nat:=if d.length=0 then [110,111,110,101]else if 20<d.length then []else if d.all Ej=true then glue [32] (Cp d)else []
theorem Ud{d:List (List Int)}:(Cp d).length=d.length:=by simp[Cp]
theorem Rp{d:List (List Int)}{i:Nat}(h:i<d.length):AO (Cp d) i=Ai (AE (AG d i) 0)++Ai (AE (AG d i) 1):=by simp[AO,Cp,AG,h]
theorem AaK{d:List (List Int)}{i:Nat}(h:i<d.length):(Cp d).take (i+1)=(Cp d).take i++[Ai (AE (AG d i) 0)++Ai (AE (AG d i) 1)]:=by rw[CU (by simpa[Cp]using h)];simp[Cp,AG,h]
theorem Ur{d:List (List Int)}(h:∀j:Nat,j<d.length→Ej (AG d j)=true):d.all Ej=true:=by refine Aw.2 fun x hx=>?_;obtain⟨j,hj,rfl⟩:=List.getElem_of_mem hx;have:=h j hj;simpa[AG,hj]using this
theorem AHI{d:List (List Int)}{i:Nat}(hi:i<d.length)(h:Ej (AG d i)=false):d.all Ej=false:=by refine Bool.eq_false_iff.2 fun q=>?_;have:=Aw.1 q (AG d i) (by simp[AG,hi]);rw[h]at this;cases this
theorem Q9{r:List Int}(h:Ej r=true):r.length=2∧AV 0 9 (AE r 0)=true∧AV 0 9 (AE r 1)=true:=by simpa[Ej]using h
theorem Tl[HA K]{d:List (List Int)}(h:d.length≤9223372036854775807)(hr:∀r∈d,r.length≤9223372036854775807):K 354 [LL d] [.s (E4 d)]:=by
 refine qb ANL rfl ?_;simp only[ANL];by_cases h0:d.length=0
 ·simp only[E4];rw[if_pos h0];simp(disch:=first|omega|simp only[vl];omega) only[AA]
 ·by_cases h20:20<d.length
  ·simp only[E4];rw[if_neg h0,if_pos h20];simp(disch:=first|omega|simp only[vl];omega) only[AA]
  ·simp only[E4];rw[if_neg h0,if_neg h20];have hw:=Ud (d:=d);simp(disch:=first|omega|simp only[vl];omega) only[AA];rw[NA];refine AL (fun i=>∀j:Nat,j<i→Ej (AG d j)=true) (fun i=>[.u,.u,LS ((Cp d).take i),.u,.u,.u,LL d,.n d.length,.n i,.u,.u]) d.length (by simp) (by simp) (fun i hi hP=>?_) (fun hP=>?_)
   ·have ht:((Cp d).take i).length=i:=by simp;omega
    have hrl:=hr _ (G8 (i:=i) (m:=d) hi)
    cases hd:Ej (AG d i)
    ·rw[AHI hi hd];by_cases h2:(AG d i).length=2
     ·simp(disch:=first|omega|simp only[vl];omega) only[AA,h2];refine AD (CK (K:=K)) rfl ?_
      cases q1:AV 0 9 (AE (AG d i) 0)
      ·simp(disch:=first|omega|simp only[vl];omega) only[AA];simp
      ·simp(disch:=first|omega|simp only[vl];omega) only[AA];refine AD (CK (K:=K)) rfl ?_;have q2:AV 0 9 (AE (AG d i) 1)=false:=by simpa[Ej,h2,q1]using hd
       simp(disch:=first|omega|simp only[vl];omega) only[AA,q2];simp
     ·simp(disch:=first|omega|simp only[vl];omega) only[AA];simp
    ·obtain⟨h2,q1,q2⟩:=Q9 hd;have b1:=A8.1 q1;have b2:=A8.1 q2;have l1:=BB (n:=AE (AG d i) 0) (by omega);have l2:=BB (n:=AE (AG d i) 1) (by omega);simp(disch:=first|omega|simp only[vl];omega) only[AA,h2];refine AD (CK (K:=K)) rfl ?_;simp(disch:=first|omega|simp only[vl];omega) only[AA,q1];refine AD (CK (K:=K)) rfl ?_;simp(disch:=first|omega|simp only[vl];omega) only[AA,q2];refine AD (CZ (K:=K) (n:=AE (AG d i) 0) (by omega)) rfl ?_;simp(disch:=first|omega|simp only[vl];omega) only[AA];refine AD (CZ (K:=K) (n:=AE (AG d i) 1) (by omega)) rfl ?_;simp(disch:=first|omega|simp only[vl];omega) only[AA,AaK hi];exact CB hP hd
   ·have ht:(Cp d).take d.length=Cp d:=List.take_of_length_le (by omega);have hlen:∀x∈Cp d,x.length≤100000:=by intro x hx;obtain⟨r,hr1,rfl⟩:=List.mem_map.1 hx;obtain⟨h2,q1,q2⟩:=Q9 (Aw.1 (Ur hP) r hr1);have b1:=A8.1 q1;have b2:=A8.1 q2;have l1:=BB (n:=AE r 0) (by omega);have l2:=BB (n:=AE r 1) (by omega);simp only[A7];omega
    have kg:=JI (K:=K) (ws:=Cp d) (sep:=[32]) (by omega) hlen (by simp);rw[Ur hP];simp(disch:=first|omega|simp only[vl];omega) only[AA,ht];refine AD (kg) rfl ?_;simp(disch:=first|omega|simp only[vl];omega) only[AA]
theorem AGX{d:List (List Int)}(h0:d.length≠0)(h:20<d.length∨d.all Ej=false):E4 d=[]:=by
 unfold E4;rw[if_neg h0];split
 ·rfl
 ·rcases h with h|h
  ·omega
  ·rw[h];rfl
theorem dg_s[HA K]{d:List (List Int)}(h:d.length≤9223372036854775807)(hr:∀r∈d,r.length≤9223372036854775807):K 352 [LL d] [.s (E4 d)]:=by
 refine qb AEK rfl ?_;simp only[AEK];have hw:=Ud (d:=d);simp(disch:=first|omega|simp only[vl];omega) only[AA];refine AL (fun i=>(i=0∨d.length≤20)∧(∀j:Nat,j<i→Ej (AG d j)=true)∧(BN [32] (Cp d) i).length≤i*100∧(0<i→BN [32] (Cp d) i≠[])) (fun i=>[LL d,.u,.s (BN [32] (Cp d) i),.n i,.u,.u,.u,.u]) d.length (by simp[BN]) rfl (fun i hi hP=>?_) (fun hP=>?_)
 ·obtain⟨g1,g2,g3,g4⟩:=hP;have hrl:=hr _ (G8 (i:=i) (m:=d) hi)
  cases hd:Ej (AG d i)
  ·rw[AGX (by omega) (.inr (AHI hi hd))];by_cases h2:(AG d i).length=2
   ·simp(disch:=first|omega|simp only[vl];omega) only[AA,h2];refine AD (Bj (K:=K)) rfl ?_
    cases q1:AV 0 9 (AE (AG d i) 0)
    ·simp(disch:=first|omega|simp only[vl];omega) only[AA]
    ·simp(disch:=first|omega|simp only[vl];omega) only[AA];refine AD (Bj (K:=K)) rfl ?_;have q2:AV 0 9 (AE (AG d i) 1)=false:=by simpa[Ej,h2,q1]using hd
     simp(disch:=first|omega|simp only[vl];omega) only[AA,q2]
   ·simp(disch:=first|omega|simp only[vl];omega) only[AA]
  ·obtain⟨h2,q1,q2⟩:=Q9 hd;have b1:=A8.1 q1;have b2:=A8.1 q2;have l1:=BB (n:=AE (AG d i) 0) (by omega);have l2:=BB (n:=AE (AG d i) 1) (by omega);have l3:=T0 (n:=AE (AG d i) 0);simp(disch:=first|omega|simp only[vl];omega) only[AA,h2];refine AD (Bj (K:=K)) rfl ?_;simp(disch:=first|omega|simp only[vl];omega) only[AA,q1];refine AD (Bj (K:=K)) rfl ?_;by_cases h20:20<d.length
   ·rw[AGX (by omega) (.inl h20)];simp(disch:=first|omega|simp only[vl];omega) only[AA,q2]
   ·have hq:(BN [32] (Cp d) (i+1)).length≤(i+1)*100∧(0<i+1→BN [32] (Cp d) (i+1)≠[]):=by
     simp only[BN,Rp hi,A7]
     have:(if 0<i then [32]else([]:List Nat)).length≤1:=by split<;>simp
     refine⟨by omega,fun _ q=>?_⟩
     have:=congrArg List.length q
     simp only[A7,Ap]at this
     omega
    by_cases hi0:0<i
    ·simp(disch:=first|omega|simp only[vl];omega) only[AA,q2]
     refine AD (Bp (K:=K) (n:=AE (AG d i) 0) (by omega)) rfl ?_
     simp(disch:=first|omega|simp only[vl];omega) only[AA]
     refine AD (Bp (K:=K) (n:=AE (AG d i) 1) (by omega)) rfl ?_
     simp(disch:=first|omega|simp only[vl];omega) only[AA]
     exact⟨⟨by omega,CB g2 hd,hq.1,fun _=>hq.2 (by omega)⟩,by simp only[BN,if_pos hi0,Rp hi,CI]⟩
    ·simp(disch:=first|omega|simp only[vl];omega) only[AA,q2]
     refine AD (Bp (K:=K) (n:=AE (AG d i) 0) (by omega)) rfl ?_
     simp(disch:=first|omega|simp only[vl];omega) only[AA]
     refine AD (Bp (K:=K) (n:=AE (AG d i) 1) (by omega)) rfl ?_
     simp(disch:=first|omega|simp only[vl];omega) only[AA]
     exact⟨⟨by omega,CB g2 hd,hq.1,fun _=>hq.2 (by omega)⟩,by simp only[BN,if_neg hi0,Rp hi,CI,List.append_nil]⟩
 ·obtain⟨g1,g2,g3,g4⟩:=hP;by_cases h0:d.length=0
  ·have e:E4 d=[110,111,110,101]:=by unfold E4;rw[if_pos h0]
   have e2:BN [32] (Cp d) d.length=[]:=by rw[h0];rfl
   rw[e,e2];simp(disch:=first|omega|simp only[vl];omega) only[AA]
  ·have e:(BN [32] (Cp d) d.length==[])=false:=beq_eq_false_iff_ne.2 (g4 (by omega));have e2:E4 d=glue [32] (Cp d):=by unfold E4;rw[if_neg h0,if_neg (by omega),Ur g2];rfl
   rw[e2];simp(disch:=first|omega|simp only[vl];omega) only[AA,e];simp only[glue,hw]
end Go.Cat
