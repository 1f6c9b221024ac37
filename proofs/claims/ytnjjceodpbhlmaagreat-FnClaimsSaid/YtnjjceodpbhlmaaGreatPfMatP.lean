/-
 The partners of a path's letters, as both sides find them.
-/
import Derived.Test.YtnjjceodpbhlmaaGreatPfMat
import Derived.Test.YtnjjceodpbhlmaaGreatPfStat
import Derived.Test.YtnjjceodpbhlmaaGreatIrHas
set_option linter.unusedSimpArgs false
set_option linter.unusedVariables false
namespace Go.Cat
variable {K:Nat→List D→List D→Prop}
def cI (l:List Nat):List Int:=l.map fun (j:Nat)=>(j:Int)
theorem ZC {j:Nat} {l:List Nat}:(cI (j::l)).reverse=(cI l).reverse++[(j:Int)]:=by simp [cI]
theorem AET {l:List Nat}:((cI l).reverse).length=l.length:=by simp [cI]
theorem WS {l:List Nat}:(cI l).length=l.length:=by simp [cI]
theorem Kl {w:List Nat} {i:Nat}:Hh w i≤i:=by
 have:=Sa (w:=w.take i) (c:=117)
 simp only [Hh]
 simp only [List.length_take] at this
 omega
def PS (w:List Nat) (i:Nat) (out:List Int) (st:List Nat):Prop:=
 SO w st i∧out.length=w.length∧∀ a:Nat,a<i→a∉st→∃ b:Nat,AD out a=b∧(PR w a b∨PR w b a)
theorem ASO {w:List Nat} {i:Nat} {out:List Int} {st:List Nat} (h:PS w i out st) (hi:i<w.length) (hu:Ap w i=117):PS w (i+1) out (i::st):=by
 obtain ⟨h1,h2,h3⟩:=h
 refine ⟨APF h1 hi hu,h2,fun a ha hn=>?_⟩
 have e:a≠i:=fun e=>hn (by rw [e]; exact List.mem_cons_self ..)
 exact h3 a (by omega) fun q=>hn (BC _ q)
theorem APV {w:List Nat} {i j:Nat} {out:List Int} {st:List Nat} (h:PS w i out (j::st)) (hi:i<w.length) (hd:Ap w i=100):PS w (i+1) (Aw (Aw out i j) j i) st:=by
 obtain ⟨h1,h2,h3⟩:=h
 obtain ⟨q1,q2⟩:=AJG h1 hi hd
 have hj:=q1.1
 refine ⟨q2,by rw [Eg,Eg,h2],fun a ha hn=>?_⟩
 rw [YS (by rw [Eg]; omega),YS (by omega)]
 by_cases e1:j=a
 ·subst e1
  rw [if_pos rfl]
  exact ⟨i,rfl,.inl q1⟩
 ·rw [if_neg e1]
  by_cases e2:i=a
  ·subst e2
   rw [if_pos rfl]
   exact ⟨j,rfl,.inr q1⟩
  ·rw [if_neg e2]
   exact h3 a (by omega) fun q=>by
    rcases A5.1 q with q | q
    ·exact e1 q.symm
    ·exact hn q
theorem Xe [HA K] {w:List Nat} (hw:BW w=true):∃ rs,(∃ m,rs=[LI m]∧PP w m)∧K 373 [.s w] rs:=by
 have hd:=KO hw
 have hl:=hd.l
 refine Bg (f:=NN) rfl ?_; simp only [NN,zu]
 simp (disch:=first|omega|simp only[vl];omega) only [AA]
 refine CK (fun i (x:List Int×List Nat)=>PS w i x.1 x.2) (fun i x=>[.s w,.u,LI x.1,LI (cI x.2).reverse,.n i,.u,.u,.u]) w.length (rep w.length 0,[]) ⟨by simp [SO,Gu],by simp [rep],by simp⟩ rfl (fun i x hi hP=>?_) (fun x hP=>?_)
 ·obtain ⟨out,st⟩:=x
  simp only at hP
  have hs:=T8 hP.1
  have hlen:=AET (l:=st)
  have hlen2:=WS (l:=st)
  have hle:=Kl (w:=w) (i:=i)
  have hout:=hP.2.1
  rcases hd.ud i hi with hu | hu
  ·simp (disch:=first|omega|simp only[vl];omega) only [AA,hu]
   exact ⟨(out,i::st),ASO hP hi hu,by rw [ZC]⟩
  ·have e:=Gw hi hu
   have e0:=hd.h0 (i+1) (by omega)
   cases st with
   | nil=>simp only [Aq] at hs; omega
   | cons j t=>
    have hj:=hP.1.1
    have hl2:((cI t).reverse).length=t.length:=AET
    have e1:AD ((cI t).reverse++[(j:Int)]) t.length=j:=by rw [← hl2]; exact KW
    have e2:sub ((cI t).reverse++[(j:Int)]) 0 t.length=(cI t).reverse:=by rw [← hl2]; exact KT
    have e3:((((cI t).reverse++[(j:Int)]).length:Nat):Int)=(t.length:Int)+1:=by simp [hl2]
    have hl3:=WS (l:=t)
    simp only [A6] at hs
    simp only [ZC]
    simp (disch:=first|omega|simp only[vl];omega) only [AA,hu,e3,e1,e2,Dv]
    exact ⟨(Aw (Aw out i j) j i,t),APV hP hi hu,rfl⟩
 ·obtain ⟨out,st⟩:=x
  simp only at hP
  simp (disch:=first|omega|simp only[vl];omega) only [AA]
  refine ⟨_,rfl,hP.2.1,fun a ha=>?_⟩
  obtain ⟨h1,h2,h3⟩:=hP
  refine h3 a ha fun q=>?_
  have:=T8 h1
  rw [hd.he] at this
  have:st=[]:=FX (by omega)
  subst this
  cases q
theorem l4u [HA K] {w:List Nat} {i k:Nat} (hd:DY w) (h:PR w i k):K 370 [.s w,.n i] [.n k]:=by
 have hl:=hd.l
 have hi:i<w.length:=by have:=h.1; have:=h.2.1; omega
 have hu:Ap w i=117:=by
  rcases hd.ud i hi with q | q
  ·exact q
  ·have:=Gw hi q
   have:=h.2.2.2 (i+1) (by omega) (by have:=h.1; omega)
   omega
 refine AG (f:=ID) rfl ?_; simp only [ID,zu]
 simp (disch:=omega) only [AA,hu]
 refine B9 (fun (x:Nat)=>i≤x∧x≤k) (fun x=>[.s w,.n i,.u,.n (Hh w x-Hh w i),.n x,.u,.u,.u,.u,.u,.u,.u,.u]) (fun x=>k-x) i ⟨by omega,by have:=h.1; omega⟩ (by simp) ?_
 intro x hx
 have hk:=h.2.1
 have b0:=hd.h0 x (by omega)
 have b1:=hd.h0 i (by omega)
 have b2:Hh w x≤x∧Hh w i≤i:=⟨Kl,Kl⟩
 have key:Hh w (x+1)-Hh w i=0↔x=k:=by
  constructor
  ·intro q
   by_cases e:x=k
   ·exact e
   ·have:=h.2.2.2 (x+1) (by omega) (by omega); omega
  ·rintro rfl
   have:=h.2.2.1; omega
 rcases hd.ud x (by omega) with q | q
 ·have e:=Hz (i:=x) (by omega) q
  by_cases hxk:x=k
  ·have:=key.2 hxk
   subst hxk
   simp (disch:=omega) only [AA,q]
  ·have:¬ (Hh w x-Hh w i+1=0):=fun z=>hxk (key.1 (by omega))
   simp (disch:=omega) only [AA,q]
   exact ⟨x+1,by omega,by omega,by simp; omega⟩
 ·have e:=Gw (i:=x) (by omega) q
  by_cases hxk:x=k
  ·have:=key.2 hxk
   subst hxk
   simp (disch:=omega) only [AA,q]
  ·have:¬ (Hh w x-Hh w i-1=0):=fun z=>hxk (key.1 (by omega))
   simp (disch:=omega) only [AA,q]
   exact ⟨x+1,by omega,by omega,by simp; omega⟩
theorem l4d [HA K] {w:List Nat} {i k:Nat} (hd:DY w) (h:PR w k i):K 370 [.s w,.n i] [.n k]:=by
 have hl:=hd.l
 have hi:i<w.length:=h.2.1
 have hki:=h.1
 have hu:Ap w i=100:=by
  rcases hd.ud i hi with q | q
  ·have:=Hz hi q
   have:=h.2.2.2 i (by omega) (by omega)
   have:=h.2.2.1
   omega
  ·exact q
 refine AG (f:=ID) rfl ?_; simp only [ID,zu]
 simp (disch:=omega) only [AA,hu]
 refine B9 (fun (x:Nat)=>k≤x∧x≤i) (fun x=>[.s w,.u,.u,.n (Hh w (x+1)-Hh w k),.u,.n x,.u,.u,.u,.u,.u,.u,.u]) (fun x=>x) i ⟨by omega,by omega⟩ (by rw [h.2.2.1]; simp) ?_
 intro x hx
 have b0:=hd.h0 (x+1) (by omega)
 have b1:=hd.h0 k (by omega)
 have b2:Hh w (x+1)≤((x+1:Nat):Int)∧Hh w k≤k:=⟨Kl,Kl⟩
 have key:Hh w x-Hh w k=0↔x=k:=by
  constructor
  ·intro q
   by_cases e:x=k
   ·exact e
   ·have:=h.2.2.2 x (by omega) (by omega); omega
  ·rintro rfl; omega
 rcases hd.ud x (by omega) with q | q
 ·have e:=Hz (i:=x) (by omega) q
  by_cases hxk:x=k
  ·have:=key.2 hxk
   subst hxk
   simp (disch:=omega) only [AA,q]
  ·have:¬ (Hh w (x+1)-Hh w k-1=0):=fun z=>hxk (key.1 (by omega))
   simp (disch:=omega) only [AA,q]
   refine ⟨x-1,by omega,by omega,?_⟩
   rw [show x-1+1=x by omega,show ((x-1:Nat):Int)=(x:Int)-1 by omega,show Hh w (x+1)-Hh w k-1=Hh w x-Hh w k by omega]
 ·have e:=Gw (i:=x) (by omega) q
  by_cases hxk:x=k
  ·have:=key.2 hxk
   subst hxk
   simp (disch:=omega) only [AA,q]
  ·have:¬ (Hh w (x+1)-Hh w k+1=0):=fun z=>hxk (key.1 (by omega))
   simp (disch:=omega) only [AA,q]
   refine ⟨x-1,by omega,by omega,?_⟩
   rw [show x-1+1=x by omega,show ((x-1:Nat):Int)=(x:Int)-1 by omega,show Hh w (x+1)-Hh w k+1=Hh w x-Hh w k by omega]
theorem AMX [HA K] {w:List Nat} {m:List Int} {i:Nat} (hd:DY w) (h:PP w m) (hi:i<w.length):K 370 [.s w,.n i] [.n (AD m i)]:=by
 obtain ⟨b,e,q⟩:=h.2 i hi
 rw [e]
 rcases q with q | q
 ·exact l4u (K:=K) hd q
 ·exact l4d (K:=K) hd q
theorem APL:D.l []=LI []:=rfl
theorem AQI {m:List Int} {i:Nat} (h:i<m.length):m.take (i+1)=m.take i++[AD m i]:=by
 rw [ED h]; simp [AD,h]
theorem ZX [HA K] {w:List Nat} {m:List Int} (hw:BW w=true) (h:PP w m):K 356 [.s w] [LI m,.b true]:=by
 have hd:=KO hw
 have hl:=hd.l
 have hm:=h.1
 refine AG (f:=MW) rfl ?_; simp only [MW,zu]
 simp (disch:=first|omega|simp only[vl];omega) only [AA]
 rw [APL]
 refine Ag (fun _=>True) (fun i=>[.s w,.u,.u,LI (m.take i),.n i,.u]) w.length trivial (by simp) (fun i hi _=>?_) (fun _=>?_)
 ·have ht:(m.take i).length=i:=by simp; omega
  simp (disch:=first|omega|simp only[vl];omega) only [AA]
  repeat (first | (refine AE (Fv (K:=K) (w:=w) (by omega)) rfl ?_; try simp (disch:=first|omega|simp only[vl];omega) only [AA,hw]))
  refine AE (AMX (K:=K) hd h hi) rfl ?_
  simp (disch:=first|omega|simp only[vl];omega) only [AA]
  rw [AQI (by omega)]
 ·simp (disch:=first|omega|simp only[vl];omega) only [AA]
  repeat (first | (refine AE (Fv (K:=K) (w:=w) (by omega)) rfl ?_; try simp (disch:=first|omega|simp only[vl];omega) only [AA,hw]))
  rw [List.take_of_length_le (by omega)]
def EW (s:List Bool):Nat:=s.countP fun b=>!b
theorem ABP {s:List Bool} {i:Nat} {b:Bool}:Ds s i b=s.set i b:=by simp [Ds]
theorem Yf:∀ {s:List Bool} {i:Nat},i<s.length→s.getD i false=false→EW (s.set i true)+1=EW s
 | [],i,h,_=>by simp at h
 | b::s,0,_,h=>by simp only [List.getD_cons_zero] at h; subst h; simp [EW]
 | b::s,i+1,h,hb=>by
  have:=Yf (s:=s) (i:=i) (by simpa using h) (by simpa using hb)
  simp only [EW,List.set_cons_succ,List.countP_cons] at this ⊢
  omega
theorem AAK:∀ {s:List Bool} {i:Nat},EW (s.set i true)≤EW s
 | [],i=>by simp [EW]
 | b::s,0=>by simp [EW,List.countP_cons]
 | b::s,i+1=>by
  have:=AAK (s:=s) (i:=i)
  simp only [EW,List.set_cons_succ,List.countP_cons] at this ⊢
  omega
def FJ (a b:List Int):Nat→List Bool→Int→List Bool
 | 0,s,_=>s
 | f+1,s,at'=>if Da s at'=true then s else FJ a b f (Ds (Ds s at' true) (AD a at') true) (AD b (AD a at'))
theorem Y4 {a b:List Int}:∀ {f:Nat} {s:List Bool} {x:Int},(FJ a b f s x).length=s.length
 | 0,_,_=>rfl
 | f+1,s,x=>by
  unfold FJ
  split
  ·rfl
  ·rw [Y4,GN,GN]
def D3 (a b:List Int):Nat→List Bool×Nat
 | 0=>(rep a.length false,0)
 | i+1=>if Da (D3 a b i).1 i=true then D3 a b i else (FJ a b (a.length+1) (D3 a b i).1 i,(D3 a b i).2+1)
theorem Sw {a b:List Int}:∀ i,(D3 a b i).1.length=a.length∧(D3 a b i).2≤i
 | 0=>by simp [D3,rep]
 | i+1=>by
  have:=Sw (a:=a) (b:=b) i
  unfold D3
  split
  ·omega
  ·simp only [Y4]; omega
def Fx (a b:List Int):Nat:=(D3 a b a.length).2
def Mj (m:List Int):Prop:=∀ j:Nat,j<m.length→0≤AD m j∧AD m j<m.length
theorem I4 {m:List Int} (h:CS m=true):Mj m:=fun j hj=>by
 have:=BG.1 ((JN h).2 j hj).1
 omega
theorem Py {m:List Int} (h:Mj m) {x:Int} (hx:0≤x∧x<m.length):0≤AD m x∧AD m x<m.length:=by
 obtain ⟨n,rfl⟩:=Fa hx.1
 exact h n (by omega)
theorem AQU {s:List Bool} {n:Nat}:Da s (n:Int)=s.getD n false:=by simp [Da]
theorem XQ {a:List Int} {f:Nat} {s:List Bool} {x:Int} (hs:s.length=a.length) (hx:0≤x∧x<a.length) (ha:Mj a) (hf:EW s<f+1) (hn:Da s x=false):
  EW (Ds (Ds s x true) (AD a x) true)<f:=by
 obtain ⟨n,rfl⟩:=Fa hx.1
 have h2:=ha n (by omega)
 obtain ⟨k,hk⟩:=Fa h2.1
 rw [hk,ABP,ABP]
 rw [AQU] at hn
 have e1:=Yf (s:=s) (i:=n) (by omega) hn
 have e2:=AAK (s:=s.set n true) (i:=k)
 omega
theorem AAQ [HA K] {a b:List Int} (hl:a.length≤16) (hab:b.length=a.length) (ha:Mj a) (hb:Mj b):K 360 [LI a,LI b] [.n (Fx a b)]:=by
 refine AG (f:=Ky) rfl ?_; simp only [Ky,zu]
 simp (disch:=first|omega|simp only[vl];omega) only [AA]
 refine Ag (fun _=>True) (fun i=>[LI a,LI b,.u,LT (D3 a b i).1,.n (D3 a b i).2,.u,.u,.n a.length,.n i,.u,.u,.u]) a.length trivial rfl (fun i hi _=>?_) (fun _=>?_)
 ·have hlen:=Sw (a:=a) (b:=b) i
  obtain ⟨s,hs⟩:∃ s,s=(D3 a b i).1:=⟨_,rfl⟩
  obtain ⟨c,hc⟩:∃ c,c=(D3 a b i).2:=⟨_,rfl⟩
  rw [← hs,← hc] at hlen
  have he:D3 a b (i+1)=if Da s i=true then (s,c) else (FJ a b (a.length+1) s i,c+1):=by
   rw [hs,hc]; rfl
  rw [he,← hs,← hc]
  obtain ⟨hl1,hl2⟩:=hlen
  obtain ⟨R,hR⟩:∃ R,R=FJ a b (a.length+1) s i:=⟨_,rfl⟩
  rw [← hR]
  cases ht:Da s i
  ·simp only [GR,if_false]
   simp (disch:=first|omega|simp only[vl];omega) only [AA,ht]
   refine B9 (fun (x:Nat×List Bool×Int)=>x.2.1.length=a.length∧(0≤x.2.2∧x.2.2<a.length)∧EW x.2.1<x.1∧FJ a b x.1 x.2.1 x.2.2=R) (fun x=>[LI a,LI b,.u,LT x.2.1,.n ((c:Int)+1),.u,.n x.2.2,.n a.length,.n i,.u,.u,.u]) (fun x=>x.1) (a.length+1,s,i) ⟨hl1,by simp; omega,by have:=List.countP_le_length (p:=fun b=>!b) (l:=s); simp only [EW]; omega,hR.symm⟩ rfl ?_
   rintro ⟨f,t,x⟩ ⟨g1,g2,g3,g4⟩
   simp only at g1 g2 g3 g4 ⊢
   have hin:=Py ha g2
   have hin2:=Py hb (x:=AD a x) (by omega)
   cases f with
   | zero=>omega
   | succ f=>
    simp only [FJ] at g4
    cases hx:Da t x
    ·rw [hx] at g4
     simp only [GR,if_false] at g4
     simp (disch:=first|omega|simp only[vl];omega) only [AA,hx]
     exact ⟨(f,Ds (Ds t x true) (AD a x) true,AD b (AD a x)),by show f<f+1; omega,⟨by rw [GN,GN,g1],by rw [← hab]; exact hin2,XQ g1 g2 ha g3 hx,g4⟩,rfl⟩
    ·rw [hx] at g4
     simp only [if_true] at g4
     simp (disch:=first|omega|simp only[vl];omega) only [AA,hx]
     rw [← g4]
  ·simp only [if_true]
   simp (disch:=first|omega|simp only[vl];omega) only [AA,ht]
 ·simp (disch:=first|omega|simp only[vl];omega) only [AA]
  rfl
theorem ZU [HA K] {a b:List Int} (ha:Bt a=true) (hb:Bt b=true) (hab:b.length=a.length):K 371 [LI a,LI b] [.n (Fx a b)]:=by
 have ha1:CS a=true:=by simp [Bt] at ha; exact ha.1
 have hb1:CS b=true:=by simp [Bt] at hb; exact hb.1
 have hl:=(JN ha1).1
 have hia:=I4 ha1
 have hib:=I4 hb1
 refine AG (f:=IC) rfl ?_; simp only [IC,zu]
 simp (disch:=first|omega|simp only[vl];omega) only [AA]
 repeat (first | (refine AE (KI (K:=K) (m:=a) (by omega)) rfl ?_; try simp (disch:=first|omega|simp only[vl];omega) only [AA,ha,hb]) | (refine AE (KI (K:=K) (m:=b) (by omega)) rfl ?_; try simp (disch:=first|omega|simp only[vl];omega) only [AA,ha,hb]))
 refine Ag (fun _=>True) (fun i=>[LI a,LI b,.u,LT (D3 a b i).1,.n (D3 a b i).2,.n i,.u,.u,.u,.u,.u]) a.length trivial rfl (fun i hi _=>?_) (fun _=>?_)
 ·have hlen:=Sw (a:=a) (b:=b) i
  obtain ⟨s,hs⟩:∃ s,s=(D3 a b i).1:=⟨_,rfl⟩
  obtain ⟨c,hc⟩:∃ c,c=(D3 a b i).2:=⟨_,rfl⟩
  rw [← hs,← hc] at hlen
  have he:D3 a b (i+1)=if Da s i=true then (s,c) else (FJ a b (a.length+1) s i,c+1):=by
   rw [hs,hc]; rfl
  rw [he,← hs,← hc]
  obtain ⟨hl1,hl2⟩:=hlen
  obtain ⟨R,hR⟩:∃ R,R=FJ a b (a.length+1) s i:=⟨_,rfl⟩
  rw [← hR]
  cases ht:Da s i
  ·simp only [GR,if_false]
   simp (disch:=first|omega|simp only[vl];omega) only [AA,ht]
   refine B9 (fun (x:Nat×List Bool×Int)=>x.2.1.length=a.length∧(0≤x.2.2∧x.2.2<a.length)∧EW x.2.1<x.1∧FJ a b x.1 x.2.1 x.2.2=R) (fun x=>[LI a,LI b,.u,LT x.2.1,.n ((c:Int)+1),.n i,.n x.2.2,.u,.u,.u,.u]) (fun x=>x.1) (a.length+1,s,i) ⟨hl1,by simp; omega,by have:=List.countP_le_length (p:=fun b=>!b) (l:=s); simp only [EW]; omega,hR.symm⟩ rfl ?_
   rintro ⟨f,t,x⟩ ⟨g1,g2,g3,g4⟩
   simp only at g1 g2 g3 g4 ⊢
   have hin:=Py hia g2
   have hin2:=Py hib (x:=AD a x) (by omega)
   cases f with
   | zero=>omega
   | succ f=>
    simp only [FJ] at g4
    cases hx:Da t x
    ·rw [hx] at g4
     simp only [GR,if_false] at g4
     simp (disch:=first|omega|simp only[vl];omega) only [AA,hx]
     exact ⟨(f,Ds (Ds t x true) (AD a x) true,AD b (AD a x)),by show f<f+1; omega,⟨by rw [GN,GN,g1],by rw [← hab]; exact hin2,XQ g1 g2 hia g3 hx,g4⟩,rfl⟩
    ·rw [hx] at g4
     simp only [if_true] at g4
     simp (disch:=first|omega|simp only[vl];omega) only [AA,hx]
     rw [← g4]
  ·simp only [if_true]
   simp (disch:=first|omega|simp only[vl];omega) only [AA,ht]
 ·simp (disch:=first|omega|simp only[vl];omega) only [AA]
  rfl
theorem Q2 {f g:Nat→Nat}:∀ n,Ao (fun i=>f i+g i) n=Ao f n+Ao g n
 | 0=>rfl
 | n+1=>by simp only [Ao,Q2 n]; omega
theorem AGB {f:Nat→Nat→Nat} {m:Nat}:∀ n,Ao (fun i=>Ao (f i) m) n=Ao (fun k=>Ao (fun i=>f i k) n) m
 | 0=>by simp only [Ao]; exact (KF fun _ _=>rfl).symm
 | n+1=>by
  simp only [Ao]
  rw [AGB n,← Q2]
theorem SY {x c:Nat}:∀ {n},x<n→Ao (fun k=>if k=x then c else 0) n=c
 | 0,h=>by omega
 | n+1,h=>by
  simp only [Ao]
  by_cases e:n=x
  ·subst e
   rw [if_pos rfl,KF fun i hi=>if_neg (by omega)]; omega
  ·rw [if_neg e,SY (by omega),Nat.add_zero]
theorem AEJ:∀ n,Ao (fun _=>1) n=n
 | 0=>rfl
 | n+1=>by simp only [Ao,AEJ n]
theorem Oh {m:List Int} (h:CS m=true):m.length=2*(m.length / 2):=by
 have hin:=I4 h
 obtain ⟨_,hm⟩:=JN h
 obtain ⟨A,hA⟩:∃ A:Nat→Nat→Nat,A=fun (j k:Nat)=>if AD m j=(k:Int)∧j<k then 1 else 0:=⟨_,rfl⟩
 have e1:∀ j,j<m.length→Ao (A j) m.length=if (j:Int)<AD m j then 1 else 0:=by
  intro j hj
  have h1:=hin j hj
  obtain ⟨x,hx⟩:=Fa h1.1
  have:Ao (A j) m.length=Ao (fun k=>if k=x then (if j<x then 1 else 0) else 0) m.length:=KK fun k hk=>by
   rw [hA]; simp only [hx]
   by_cases q:k=x
   ·subst q; simp
   ·rw [if_neg q,if_neg (by omega)]
  rw [this,SY (by omega),hx]
  simp only [Int.ofNat_eq_natCast,Int.ofNat_lt]
 have e2:∀ k,k<m.length→Ao (fun j=>A j k) m.length=if AD m k<(k:Int) then 1 else 0:=by
  intro k hk
  have h1:=hin k hk
  obtain ⟨x,hx⟩:=Fa h1.1
  have:Ao (fun j=>A j k) m.length=Ao (fun j=>if j=x then (if x<k then 1 else 0) else 0) m.length:=KK fun j hj=>by
   rw [hA]; simp only
   by_cases q:j=x
   ·subst q
    have e:=(hm k hk).2.2
    rw [hx] at e
    have e:AD m j=k:=e
    rw [if_pos rfl]
    simp only [e,true_and]
   ·rw [if_neg q,if_neg]
    rintro ⟨q1,q2⟩
    have e:=(hm j hj).2.2
    rw [q1,hx] at e
    have e:(x:Int)=j:=e
    omega
  rw [this,SY (by omega),hx]
  simp only [Int.ofNat_eq_natCast,Int.ofNat_lt]
 have e3:Ao (fun j=>if (j:Int)<AD m j then 1 else 0) m.length=Ao (fun k=>if AD m k<(k:Int) then 1 else 0) m.length:=by
  rw [← KK e1,← KK e2]
  exact AGB _
 have e4:Ao (fun j=>(if (j:Int)<AD m j then 1 else 0)+(if AD m j<(j:Int) then 1 else 0)) m.length=m.length:=by
  have:Ao (fun j=>(if (j:Int)<AD m j then 1 else 0)+(if AD m j<(j:Int) then 1 else 0)) m.length=Ao (fun _=>1) m.length:=KK fun j hj=>by
   have:=(hm j hj).2.1
   by_cases q:(j:Int)<AD m j
   ·rw [if_pos q,if_neg (by omega)]
   ·rw [if_neg q,if_pos (by omega)]
  rw [this,AEJ]
 rw [Q2] at e4
 omega
inductive FM:List (List Nat)→List (List Int)→Prop
 | nil:FM [] []
 | snoc {ws ms w m}:FM ws ms→PP w m→FM (ws++[w]) (ms++[m])
theorem OM {ws ms} (h:FM ws ms):ms.length=ws.length:=by
 induction h with
 | nil=>rfl
 | snoc _ _ ih=>simp [ih]
theorem AAR {ws ms} (h:FM ws ms):∀ i:Nat,i<ws.length→PP (AL ws i) (AH ms i):=by
 induction h with
 | nil=>intro i hi; simp at hi
 | @snoc ws ms w m h h2 ih=>
  intro i hi
  have hl:=OM h
  rcases CC i ws.length with q | q
  ·have:=ih i q
   simpa [AL,AH,BP,D4 q,D4 (show i<ms.length by omega)] using this
  ·have e:i=ws.length:=by simp at hi; omega
   subst e
   have e1:AL (ws++[w]) ws.length=w:=by simp [AL,BP]
   have e2:AH (ms++[m]) ws.length=m:=by rw [← hl]; simp [AH,BP]
   rw [e1,e2]
   exact h2
theorem AQ2:D.l []=LL []:=rfl
theorem Rw {ws:List (List Nat)} {i:Nat} (h:i<ws.length):AL ws i∈ws:=by simp [AL,h]
theorem AMN {ws:List (List Nat)} {i:Nat} (h:i<ws.length):ws.take (i+1)=ws.take i++[AL ws i]:=by
 rw [ED h]; simp [AL,h]
theorem APJ {a b:List (List Int)} (h:a.length+b.length≤1099511627776):DQ false (LL a) (LL b)=some (LL (a++b)):=Kk ⟨h,rfl⟩
theorem ALY [HA K] {n:Nat} (h:n<7):∃ rs,(∃ ms,rs=[LL ms]∧FM (DI n) ms)∧K 359 [.n n] rs:=by
 have hlen:=apl h
 refine Bg (f:=Lr) rfl ?_; simp only [Lr,zu]
 simp (disch:=first|omega|simp only[vl];omega) only [AA]
 refine AE (ap_i (K:=K) h) rfl ?_
 simp (disch:=first|omega|simp only[vl];omega) only [AA]
 rw [AQ2]
 refine CK (fun i (ms:List (List Int))=>FM ((DI n).take i) ms) (fun i ms=>[.u,.u,LL ms,.u,LS (DI n),.n (DI n).length,.n i,.u]) (DI n).length [] (by simpa using FM.nil) rfl (fun i ms hi hP=>?_) (fun ms hP=>?_)
 ·have hm:=OM hP
  have ht:((DI n).take i).length=i:=by simp; omega
  obtain ⟨_,⟨m,rfl,hpp⟩,k1⟩:=Xe (K:=K) (w:=AL (DI n) i) (OI h (Rw hi)).1
  simp (disch:=first|omega|simp only[vl];omega) only [AA]
  refine AE (k1) rfl ?_
  simp (disch:=first|omega|simp only[vl];omega) only [AA,APJ]
  refine ⟨ms++[m],?_,rfl⟩
  rw [AMN hi]
  exact FM.snoc hP hpp
 ·rw [List.take_length] at hP
  simp (disch:=first|omega|simp only[vl];omega) only [AA]
  exact ⟨ms,rfl,hP⟩
def EM (a:List Int):List (List Int)→Option (List Int)
 | []=>none
 | b::l=>if Fx a b=1 then some b else EM a l
theorem PV {ms:List (List Int)} {i:Nat} (h:i<ms.length):ms.drop i=AH ms i::ms.drop (i+1):=by
 rw [List.drop_eq_getElem_cons h]; simp [AH,h]
def H4 (ms:List (List Int)) (i:Nat):D:=.l (List.replicate i .u++(ms.drop i).map LI)
theorem APR {ms:List (List Int)}:LL ms=H4 ms 0:=by simp [H4,LL]
theorem AN3 {ms:List (List Int)} {i:Nat} (h:i<ms.length):Cn (H4 ms i) (.n i)=some (LI (AH ms i)):=by
 simp only [H4,PV h,List.map_cons]
 have e:((List.replicate i D.u++LI (AH ms i)::List.map LI (ms.drop (i+1))):List D)[i]?=some (LI (AH ms i)):=by
  rw [FI (by simp)]; simp
 simp only [Cn,CB,e,Option.bind_some]
 rw [if_pos (by omega)]
 rfl
theorem AGX {ms:List (List Int)} {i:Nat} (h:i<ms.length):F6 1 (H4 ms i) (some [(i:Int).toNat])=some (LI (AH ms i),H4 ms (i+1)):=by
 have e:((List.replicate i D.u++LI (AH ms i)::List.map LI (ms.drop (i+1))):List D)[i]?=some (LI (AH ms i)):=by
  rw [FI (by simp)]; simp
 have e2:(List.replicate i D.u++LI (AH ms i)::List.map LI (ms.drop (i+1))).set i D.u=List.replicate (i+1) D.u++List.map LI (ms.drop (i+1)):=by
  rw [List.set_append_right _ _ (by simp)]
  simp [List.replicate_succ']
 simp only [F6,H4,PV h,List.map_cons,Option.bind_some,A9,Aa,CB]
 rw [e]
 simp only [Option.bind_some,A9,Aa,Lt,if_true,Option.map_some,e2]
theorem APB [HA K] {a:List Int} (hl:a.length≤1048576):∃ rs,(∃ ms,(Bt a=true→2≤a.length→a.length≤12→FM (DI (a.length / 2)) ms)∧rs=(if Bt a=true∧2≤a.length∧a.length≤12 then [LI ((EM a ms).getD []),.b (EM a ms).isSome] else [LI [],.b false]))∧K 344 [LI a] rs:=by
 refine Bg (f:=Mc) rfl ?_; simp only [Mc,zu]
 simp (disch:=omega) only [AA]
 refine AE (Ri (K:=K) (m:=a) (by omega)) rfl ?_
 cases hn:Bt a
 ·simp (disch:=omega) only [AA]
  exact ⟨[],by simp,by simp; rfl⟩
 ·simp (disch:=omega) only [AA]
  refine AE (DW (K:=K)) rfl ?_
  cases hi:Ar 2 12 a.length
  ·have:=MM.1 hi
   simp (disch:=omega) only [AA]
   exact ⟨[],fun _ _ _=>by omega,by rw [if_neg (by omega)]; rfl⟩
  ·have hi:=BG.1 hi
   obtain ⟨_,⟨ms,rfl,hms⟩,k1⟩:=ALY (K:=K) (n:=a.length / 2) (by omega)
   have e0:((a.length:Int) / 2)=((a.length / 2:Nat):Int):=by omega
   have hlen:=OM hms
   have hlen2:=apl (n:=a.length / 2) (by omega)
   have hm1:CS a=true:=by simp [Bt] at hn; exact hn.1
   simp (disch:=omega) only [AA,e0]
   refine AE (k1) rfl ?_
   simp (disch:=omega) only [AA]
   rw [APR (ms:=ms)]
   refine Ag (fun i=>EM a ms=EM a (ms.drop i)) (fun i=>[LI a,.u,.u,.u,.u,H4 ms i,.n ms.length,.n i,.u,.u]) ms.length rfl rfl (fun i hi hP=>?_) (fun hP=>?_)
   ·have hpp:=AAR hms i (by omega)
    obtain ⟨hd,hwl⟩:=OI (n:=a.length / 2) (by omega) (Rw (ws:=DI (a.length / 2)) (i:=i) (by omega))
    have hml:=hpp.1
    have hmb:=VQ (KO hd).l hpp
    have hev:=Oh hm1
    simp (disch:=omega) only [AA,AN3 hi,AGX hi]
    refine AE (AAQ (K:=K) (a:=a) (b:=AH ms i) (by omega) (by omega) (I4 hm1) (I4 hmb)) rfl ?_
    rw [PV hi] at hP
    simp only [EM] at hP
    by_cases hc:Fx a (AH ms i)=1
    ·rw [if_pos hc] at hP
     simp (disch:=omega) only [AA,hc]
     exact ⟨ms,fun _ _ _=>hms,by rw [hP,if_pos (show _∧_ from by omega)]; rfl⟩
    ·rw [if_neg hc] at hP
     simp (disch:=omega) only [AA,hc]
     exact hP
   ·rw [List.drop_length] at hP
    simp (disch:=omega) only [AA]
    exact ⟨ms,fun _ _ _=>hms,by rw [hP,if_pos (show _∧_ from by omega)]; rfl⟩
theorem AMH [HA K] {a b:List Int} (ha:Bt a=true) (hb:Bt b=true) (hab:b.length=a.length):K 357 [LI a,LI b] [.b (decide (Fx a b=1))]:=by
 refine AG (f:=IM) rfl ?_; simp only [IM,zu]
 simp (disch:=omega) only [AA]
 refine AE (ZU (K:=K) ha hb hab) rfl ?_
 simp (disch:=omega) only [AA]
 have:decide ((Fx a b:Int)=1)=decide (Fx a b=1):=by congr 1; apply propext; omega
 rw [this]
theorem AGY [HA K] {a:List Int} {ms:List (List Int)} (hl:a.length≤1048576) (hms:Bt a=true→2≤a.length→a.length≤12→FM (DI (a.length / 2)) ms):
  K 343 [LI a] (if Bt a=true∧2≤a.length∧a.length≤12 then [LI ((EM a ms).getD []),.b (EM a ms).isSome] else [LI [],.b false]):=by
 by_cases hq:Bt a=true∧2≤a.length∧a.length≤12
 ·obtain ⟨hn,h2,h12⟩:=hq
  have hms:=hms hn h2 h12
  rw [if_pos ⟨hn,h2,h12⟩]
  have hm1:CS a=true:=by simp [Bt] at hn; exact hn.1
  have hev:=Oh hm1
  have e0:((a.length:Int) / 2)=((a.length / 2:Nat):Int):=by omega
  have hlen:=OM hms
  have hlen2:=apl (n:=a.length / 2) (by omega)
  have hi:Ar 1 6 ((a.length / 2:Nat):Int)=true:=BG.2 (by omega)
  refine AG (f:=Ik) rfl ?_; simp only [Ik,zu]
  simp (disch:=omega) only [AA,e0]
  repeat (first | (refine AE (KI (K:=K) (m:=a) (by omega)) rfl ?_; try simp (disch:=omega) only [AA,hn,hi]) | (refine AE (Cs (K:=K)) rfl ?_; try simp (disch:=omega) only [AA,hn,hi]))
  refine AE (pl_s (K:=K) (n:=a.length / 2) (by omega)) rfl ?_
  simp (disch:=omega) only [AA]
  refine Ag (fun i=>EM a ms=EM a (ms.drop i)) (fun i=>[LI a,.u,.u,.u,LS (DI (a.length / 2)),.n i,.u,.u,.u,.u]) (DI (a.length / 2)).length rfl rfl (fun i hi hP=>?_) (fun hP=>?_)
  ·have hpp:=AAR hms i hi
   obtain ⟨hd,hwl⟩:=OI (n:=a.length / 2) (by omega) (Rw (ws:=DI (a.length / 2)) (i:=i) hi)
   have hml:=hpp.1
   have hmb:=AAO (KO hd).l hpp
   simp (disch:=omega) only [AA]
   refine AE (ZX (K:=K) hd hpp) rfl ?_
   simp (disch:=omega) only [AA]
   refine AE (AMH (K:=K) hn hmb (by omega)) rfl ?_
   rw [PV (by omega)] at hP
   simp only [EM] at hP
   by_cases hc:Fx a (AH ms i)=1
   ·rw [if_pos hc] at hP
    simp (disch:=omega) only [AA,hc]
    rw [hP]; rfl
   ·rw [if_neg hc] at hP
    simp (disch:=omega) only [AA,hc]
    exact hP
  ·rw [← hlen,List.drop_length] at hP
   simp (disch:=omega) only [AA]
   rw [hP]; rfl
 ·rw [if_neg hq]
  refine AG (f:=Ik) rfl ?_; simp only [Ik,zu]
  simp (disch:=omega) only [AA]
  refine AE (KI (K:=K) (m:=a) (by omega)) rfl ?_
  cases hn:Bt a
  ·simp (disch:=omega) only [AA]
   rfl
  ·rw [hn] at hq
   have hi:Ar 1 6 ((a.length:Int) / 2)=false:=by
    refine MM.2 ?_
    by_cases hm:a.length≤16
    ·have hm1:CS a=true:=by simp [Bt] at hn; exact hn.1
     have hev:=Oh hm1
     simp only [true_and] at hq
     omega
    ·simp only [true_and] at hq
     omega
   simp (disch:=omega) only [AA]
   repeat (first | (refine AE (Cs (K:=K)) rfl ?_; try simp (disch:=omega) only [AA,hi]))
   rfl
end Go.Cat
