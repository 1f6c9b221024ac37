/-
 The partners of a path's letters, as both sides find them.
-/
import Derived.Test.YthoilpmggmenbaaGreatPfRefl
import Derived.Test.YthoilpmggmenbaaGreatPfPlane
import Derived.Test.YthoilpmggmenbaaGreatPfSch
import Derived.Test.YthoilpmggmenbaaGreatQd0LawReports
import Derived.Test.YthoilpmggmenbaaGreatQd1LawReports
import Derived.Test.YthoilpmggmenbaaGreatQd2LawReports
import Derived.Test.YthoilpmggmenbaaGreatQd3LawReports
set_option linter.unusedSimpArgs false
set_option linter.unusedVariables false
namespace Go.Cat
variable{K:Nat→List D→List D→Prop}
def cI(l:List Nat):List Int:=l.map fun(j:Nat)=>(j:Int)
theorem Yb{j:Nat}{l:List Nat}:(cI (j::l)).reverse=(cI l).reverse++[(j:Int)]:=by simp[cI]
theorem AAV{l:List Nat}:((cI l).reverse).length=l.length:=by simp[cI]
theorem WG{l:List Nat}:(cI l).length=l.length:=by simp[cI]
theorem Lv{w:List Nat}{i:Nat}:Hh w i≤i:=by have:=PM (w:=w.take i) (c:=117);simp only[Hh];simp only[List.length_take]at this;omega
def PS(w:List Nat)(i:Nat)(out:List Int)(st:List Nat):Prop:=
 SO w st i∧out.length=w.length∧∀a:Nat,a<i→a∉st→∃b:Nat,AE out a=b∧(PR w a b∨PR w b a)
theorem AL8{w:List Nat}{i:Nat}{out:List Int}{st:List Nat}(h:PS w i out st)(hi:i<w.length)(hu:AK w i=117):PS w (i+1) out (i::st):=by obtain⟨h1,h2,h3⟩:=h;refine⟨AIW h1 hi hu,h2,fun a ha hn=>?_⟩;have e:a≠i:=fun e=>hn (by rw[e];exact List.mem_cons_self ..);exact h3 a (by omega) fun q=>hn (BK _ q)
theorem Yh{w:List Nat}{i j:Nat}{out:List Int}{st:List Nat}(h:PS w i out (j::st))(hi:i<w.length)(hd:AK w i=100):PS w (i+1) (BM (BM out i j) j i) st:=by
 obtain⟨h1,h2,h3⟩:=h;obtain⟨q1,q2⟩:=AMV h1 hi hd;have hj:=q1.1;refine⟨q2,by rw[Cv,Cv,h2],fun a ha hn=>?_⟩;rw[GX (by rw[Cv];omega),GX (by omega)];by_cases e1:j=a
 ·subst e1;rw[if_pos rfl];exact⟨i,rfl,.inl q1⟩
 ·rw[if_neg e1];by_cases e2:i=a
  ·subst e2;rw[if_pos rfl];exact⟨j,rfl,.inr q1⟩
  ·rw[if_neg e2];exact h3 a (by omega) fun q=>by
    rcases Aa.1 q with q|q
    ·exact e1 q.symm
    ·exact hn q
theorem O5[HA K]{w:List Nat}(hw:AM w=true):∃rs,(∃m,rs=[LI m]∧PP w m)∧K 373 [.s w] rs:=by
 have hd:=Ah hw;have hl:=hd.l;refine qx SD rfl ?_;simp only[SD];simp(disch:=first|omega|simp only[vl];omega) only[AA];refine Au (fun i (x:List Int×List Nat)=>PS w i x.1 x.2) (fun i x=>[.s w,.u,LI x.1,LI (cI x.2).reverse,.n i,.u,.u,.u]) w.length (rep w.length 0,[]) ⟨by simp[SO,E0],by simp[rep],by simp⟩ rfl (fun i x hi hP=>?_) (fun x hP=>?_)
 ·obtain⟨out,st⟩:=x;simp only at hP;have hs:=KA hP.1;have hlen:=AAV (l:=st);have hlen2:=WG (l:=st);have hle:=Lv (w:=w) (i:=i);have hout:=hP.2.1;rcases hd.ud i hi with hu|hu
  ·simp(disch:=first|omega|simp only[vl];omega) only[AA,hu];exact⟨(out,i::st),AL8 hP hi hu,by rw[Yb]⟩
  ·have e:=E7 hi hu;have e0:=hd.h0 (i+1) (by omega)
   cases st with
   |nil=>simp only[Ap]at hs;omega
   |cons j t=>
    have hj:=hP.1.1
    have hl2:((cI t).reverse).length=t.length:=AAV
    have e1:AE ((cI t).reverse++[(j:Int)]) t.length=j:=by rw[←hl2];exact Mn
    have e2:sub ((cI t).reverse++[(j:Int)]) 0 t.length=(cI t).reverse:=by rw[←hl2];exact Mg
    have e3:((((cI t).reverse++[(j:Int)]).length:Nat):Int)=(t.length:Int)+1:=by simp[hl2]
    have hl3:=WG (l:=t)
    simp only[AY]at hs
    simp only[Yb]
    simp(disch:=first|omega|simp only[vl];omega) only[AA,hu,e3,e1,e2,CA]
    exact⟨(BM (BM out i j) j i,t),Yh hP hi hu,rfl⟩
 ·obtain⟨out,st⟩:=x;simp only at hP;simp(disch:=first|omega|simp only[vl];omega) only[AA];refine⟨_,rfl,hP.2.1,fun a ha=>?_⟩;obtain⟨h1,h2,h3⟩:=hP;refine h3 a ha fun q=>?_;have:=KA h1;rw[hd.he]at this;have:st=[]:=Dt (by omega);subst this
  cases q
theorem l4u[HA K]{w:List Nat}{i k:Nat}(hd:DY w)(h:PR w i k):K 370 [.s w,.n i] [.n k]:=by
 have hl:=hd.l;have hi:i<w.length:=by have:=h.1;have:=h.2.1;omega
 have hu:AK w i=117:=by
  rcases hd.ud i hi with q|q
  ·exact q
  ·have:=E7 hi q;have:=h.2.2.2 (i+1) (by omega) (by have:=h.1;omega);omega
 refine qb Pp rfl ?_;simp only[Pp];simp(disch:=omega) only[AA,hu];refine Be (fun(x:Nat)=>i≤x∧x≤k) (fun x=>[.s w,.n i,.u,.n (Hh w x-Hh w i),.n x,.u,.u,.u,.u,.u,.u,.u,.u]) (fun x=>k-x) i ⟨by omega,by have:=h.1;omega⟩ (by simp) ?_;intro x hx;have hk:=h.2.1;have b0:=hd.h0 x (by omega);have b1:=hd.h0 i (by omega);have b2:Hh w x≤x∧Hh w i≤i:=⟨Lv,Lv⟩;have key:Hh w (x+1)-Hh w i=0↔x=k:=by
  constructor
  ·intro q;by_cases e:x=k
   ·exact e
   ·have:=h.2.2.2 (x+1) (by omega) (by omega);omega
  ·rintro rfl;have:=h.2.2.1;omega
 rcases hd.ud x (by omega)with q|q
 ·have e:=FM (i:=x) (by omega) q;by_cases hxk:x=k
  ·have:=key.2 hxk;subst hxk;simp(disch:=omega) only[AA,q]
  ·have:¬(Hh w x-Hh w i+1=0):=fun z=>hxk (key.1 (by omega));simp(disch:=omega) only[AA,q];exact⟨x+1,by omega,by omega,by simp;omega⟩
 ·have e:=E7 (i:=x) (by omega) q;by_cases hxk:x=k
  ·have:=key.2 hxk;subst hxk;simp(disch:=omega) only[AA,q]
  ·have:¬(Hh w x-Hh w i-1=0):=fun z=>hxk (key.1 (by omega));simp(disch:=omega) only[AA,q];exact⟨x+1,by omega,by omega,by simp;omega⟩
theorem l4d[HA K]{w:List Nat}{i k:Nat}(hd:DY w)(h:PR w k i):K 370 [.s w,.n i] [.n k]:=by
 have hl:=hd.l;have hi:i<w.length:=h.2.1;have hki:=h.1;have hu:AK w i=100:=by
  rcases hd.ud i hi with q|q
  ·have:=FM hi q;have:=h.2.2.2 i (by omega) (by omega);have:=h.2.2.1;omega
  ·exact q
 refine qb Pp rfl ?_;simp only[Pp];simp(disch:=omega) only[AA,hu];refine Be (fun(x:Nat)=>k≤x∧x≤i) (fun x=>[.s w,.u,.u,.n (Hh w (x+1)-Hh w k),.u,.n x,.u,.u,.u,.u,.u,.u,.u]) (fun x=>x) i ⟨by omega,by omega⟩ (by rw[h.2.2.1];simp) ?_;intro x hx;have b0:=hd.h0 (x+1) (by omega);have b1:=hd.h0 k (by omega);have b2:Hh w (x+1)≤((x+1:Nat):Int)∧Hh w k≤k:=⟨Lv,Lv⟩;have key:Hh w x-Hh w k=0↔x=k:=by
  constructor
  ·intro q;by_cases e:x=k
   ·exact e
   ·have:=h.2.2.2 x (by omega) (by omega);omega
  ·rintro rfl;omega
 rcases hd.ud x (by omega)with q|q
 ·have e:=FM (i:=x) (by omega) q;by_cases hxk:x=k
  ·have:=key.2 hxk;subst hxk;simp(disch:=omega) only[AA,q]
  ·have:¬(Hh w (x+1)-Hh w k-1=0):=fun z=>hxk (key.1 (by omega));simp(disch:=omega) only[AA,q];refine⟨x-1,by omega,by omega,?_⟩;rw[show x-1+1=x by omega,show((x-1:Nat):Int)=(x:Int)-1 by omega,show Hh w (x+1)-Hh w k-1=Hh w x-Hh w k by omega]
 ·have e:=E7 (i:=x) (by omega) q;by_cases hxk:x=k
  ·have:=key.2 hxk;subst hxk;simp(disch:=omega) only[AA,q]
  ·have:¬(Hh w (x+1)-Hh w k+1=0):=fun z=>hxk (key.1 (by omega));simp(disch:=omega) only[AA,q];refine⟨x-1,by omega,by omega,?_⟩;rw[show x-1+1=x by omega,show((x-1:Nat):Int)=(x:Int)-1 by omega,show Hh w (x+1)-Hh w k+1=Hh w x-Hh w k by omega]
theorem ATJ[HA K]{w:List Nat}{m:List Int}{i:Nat}(hd:DY w)(h:PP w m)(hi:i<w.length):K 370 [.s w,.n i] [.n (AE m i)]:=by
 obtain⟨b,e,q⟩:=h.2 i hi;rw[e];rcases q with q|q
 ·exact l4u (K:=K) hd q
 ·exact l4d (K:=K) hd q
theorem ARE:D.l []=LI []:=rfl
theorem AW6{m:List Int}{i:Nat}(h:i<m.length):m.take (i+1)=m.take i++[AE m i]:=by rw[CU h];simp[AE,h]
theorem UG[HA K]{w:List Nat}{m:List Int}(hw:AM w=true)(h:PP w m):K 356 [.s w] [LI m,.b true]:=by
 have hd:=Ah hw;have hl:=hd.l;have hm:=h.1;refine qb Yi rfl ?_;simp only[Yi];simp(disch:=first|omega|simp only[vl];omega) only[AA];rw[ARE];refine AL (fun _=>True) (fun i=>[.s w,.u,.u,LI (m.take i),.n i,.u]) w.length trivial (by simp) (fun i hi _=>?_) (fun _=>?_)
 ·have ht:(m.take i).length=i:=by simp;omega
  simp(disch:=first|omega|simp only[vl];omega) only[AA];repeat(first|(refine AD (Bt (K:=K) (w:=w) (by omega)) rfl ?_;try simp(disch:=first|omega|simp only[vl];omega) only[AA,hw]))
  refine AD (ATJ (K:=K) hd h hi) rfl ?_;simp(disch:=first|omega|simp only[vl];omega) only[AA];rw[AW6 (by omega)]
 ·simp(disch:=first|omega|simp only[vl];omega) only[AA];repeat(first|(refine AD (Bt (K:=K) (w:=w) (by omega)) rfl ?_;try simp(disch:=first|omega|simp only[vl];omega) only[AA,hw]))
  rw[List.take_of_length_le (by omega)]
def DJ(s:List Bool):Nat:=s.countP fun b=>!b
theorem PI{s:List Bool}{i:Nat}{b:Bool}:CR s i b=s.set i b:=by simp[CR]
theorem OM:∀{s:List Bool}{i:Nat},i<s.length→s.getD i false=false→DJ (s.set i true)+1=DJ s
 |[],i,h,_=>by simp at h
 |b::s,0,_,h=>by simp only[List.getD_cons_zero]at h;subst h;simp[DJ]
 |b::s,i+1,h,hb=>by
  have:=OM (s:=s) (i:=i) (by simpa using h) (by simpa using hb)
  simp only[DJ,List.set_cons_succ,List.countP_cons]at this⊢
  omega
theorem AI5:∀{s:List Bool}{i:Nat},DJ (s.set i true)≤DJ s
 |[],i=>by simp[DJ]
 |b::s,0=>by simp[DJ,List.countP_cons]
 |b::s,i+1=>by
  have:=AI5 (s:=s) (i:=i)
  simp only[DJ,List.set_cons_succ,List.countP_cons]at this⊢
  omega
def Ei(a b:List Int):Nat→List Bool→Int→List Bool
 |0,s,_=>s
 |f+1,s,at'=>if CM s at'=true then s else Ei a b f (CR (CR s at' true) (AE a at') true) (AE b (AE a at'))
theorem Vl{a b:List Int}:∀{f:Nat}{s:List Bool}{x:Int},(Ei a b f s x).length=s.length
 |0,_,_=>rfl
 |f+1,s,x=>by
  unfold Ei
  split
  ·rfl
  ·rw[Vl,Fe,Fe]
def Cj(a b:List Int):Nat→List Bool×Nat
 |0=>(rep a.length false,0)
 |i+1=>if CM (Cj a b i).1 i=true then Cj a b i else(Ei a b (a.length+1) (Cj a b i).1 i,(Cj a b i).2+1)
theorem Nd{a b:List Int}:∀i,(Cj a b i).1.length=a.length∧(Cj a b i).2≤i
 |0=>by simp[Cj,rep]
 |i+1=>by
  have:=Nd (a:=a) (b:=b) i
  unfold Cj
  split
  ·omega
  ·simp only[Vl];omega
def GB(a b:List Int):Nat:=(Cj a b a.length).2
def IZ(m:List Int):Prop:=∀j:Nat,j<m.length→0≤AE m j∧AE m j<m.length
theorem Kx{m:List Int}(h:CQ m=true):IZ m:=fun j hj=>by
 have:=A8.1 ((GH h).2 j hj).1
 omega
theorem NN{m:List Int}(h:IZ m){x:Int}(hx:0≤x∧x<m.length):0≤AE m x∧AE m x<m.length:=by obtain⟨n,rfl⟩:=Cd hx.1;exact h n (by omega)
theorem Iy{s:List Bool}{n:Nat}:CM s (n:Int)=s.getD n false:=by simp[CM]
theorem ALY{a:List Int}{f:Nat}{s:List Bool}{x:Int}(hs:s.length=a.length)(hx:0≤x∧x<a.length)(ha:IZ a)(hf:DJ s<f+1)(hn:CM s x=false):
  DJ (CR (CR s x true) (AE a x) true)<f:=by obtain⟨n,rfl⟩:=Cd hx.1;have h2:=ha n (by omega);obtain⟨k,hk⟩:=Cd h2.1;rw[hk,PI,PI];rw[Iy]at hn;have e1:=OM (s:=s) (i:=n) (by omega) hn;have e2:=AI5 (s:=s.set n true) (i:=k);omega
theorem ATS[HA K]{a b:List Int}(hl:a.length≤16)(hab:b.length=a.length)(ha:IZ a)(hb:IZ b):K 360 [LI a,LI b] [.n (GB a b)]:=by
 refine qb Xx rfl ?_;simp only[Xx];simp(disch:=first|omega|simp only[vl];omega) only[AA];refine AL (fun _=>True) (fun i=>[LI a,LI b,.u,LT (Cj a b i).1,.n (Cj a b i).2,.u,.u,.n a.length,.n i,.u,.u,.u]) a.length trivial rfl (fun i hi _=>?_) (fun _=>?_)
 ·have hlen:=Nd (a:=a) (b:=b) i;obtain⟨s,hs⟩:∃s,s=(Cj a b i).1:=⟨_,rfl⟩;obtain⟨c,hc⟩:∃c,c=(Cj a b i).2:=⟨_,rfl⟩;rw[←hs,←hc]at hlen;have he:Cj a b (i+1)=if CM s i=true then(s,c)else(Ei a b (a.length+1) s i,c+1):=by rw[hs,hc];rfl
  rw[he,←hs,←hc];obtain⟨hl1,hl2⟩:=hlen;obtain⟨R,hR⟩:∃R,R=Ei a b (a.length+1) s i:=⟨_,rfl⟩;rw[←hR]
  cases ht:CM s i
  ·simp only[HF,if_false];simp(disch:=first|omega|simp only[vl];omega) only[AA,ht];refine Be (fun(x:Nat×List Bool×Int)=>x.2.1.length=a.length∧(0≤x.2.2∧x.2.2<a.length)∧DJ x.2.1<x.1∧Ei a b x.1 x.2.1 x.2.2=R) (fun x=>[LI a,LI b,.u,LT x.2.1,.n ((c:Int)+1),.u,.n x.2.2,.n a.length,.n i,.u,.u,.u]) (fun x=>x.1) (a.length+1,s,i) ⟨hl1,by simp;omega,by have:=List.countP_le_length (p:=fun b=>!b) (l:=s);simp only[DJ];omega,hR.symm⟩ rfl ?_;rintro⟨f,t,x⟩ ⟨g1,g2,g3,g4⟩;simp only at g1 g2 g3 g4⊢;have hin:=NN ha g2;have hin2:=NN hb (x:=AE a x) (by omega)
   cases f with
   |zero=>omega
   |succ f=>
    simp only[Ei]at g4
    cases hx:CM t x
    ·rw[hx]at g4
     simp only[HF,if_false]at g4
     simp(disch:=first|omega|simp only[vl];omega) only[AA,hx]
     exact⟨(f,CR (CR t x true) (AE a x) true,AE b (AE a x)),by show f<f+1;omega,⟨by rw[Fe,Fe,g1],by rw[←hab];exact hin2,ALY g1 g2 ha g3 hx,g4⟩,rfl⟩
    ·rw[hx]at g4
     simp only[if_true]at g4
     simp(disch:=first|omega|simp only[vl];omega) only[AA,hx]
     rw[←g4]
  ·simp only[if_true];simp(disch:=first|omega|simp only[vl];omega) only[AA,ht]
 ·simp(disch:=first|omega|simp only[vl];omega) only[AA];rfl
theorem AdJ[HA K]{a b:List Int}(ha:Ef a=true)(hb:Ef b=true)(hab:b.length=a.length):K 371 [LI a,LI b] [.n (GB a b)]:=by
 have ha1:CQ a=true:=by simp[Ef]at ha;exact ha.1
 have hb1:CQ b=true:=by simp[Ef]at hb;exact hb.1
 have hl:=(GH ha1).1;have hia:=Kx ha1;have hib:=Kx hb1;refine qb ANR rfl ?_;simp only[ANR];simp(disch:=first|omega|simp only[vl];omega) only[AA];repeat(first|(refine AD (T6 (K:=K) (m:=a) (by omega)) rfl ?_;try simp(disch:=first|omega|simp only[vl];omega) only[AA,ha,hb])|(refine AD (T6 (K:=K) (m:=b) (by omega)) rfl ?_;try simp(disch:=first|omega|simp only[vl];omega) only[AA,ha,hb]))
 refine AL (fun _=>True) (fun i=>[LI a,LI b,.u,LT (Cj a b i).1,.n (Cj a b i).2,.n i,.u,.u,.u,.u,.u]) a.length trivial rfl (fun i hi _=>?_) (fun _=>?_)
 ·have hlen:=Nd (a:=a) (b:=b) i;obtain⟨s,hs⟩:∃s,s=(Cj a b i).1:=⟨_,rfl⟩;obtain⟨c,hc⟩:∃c,c=(Cj a b i).2:=⟨_,rfl⟩;rw[←hs,←hc]at hlen;have he:Cj a b (i+1)=if CM s i=true then(s,c)else(Ei a b (a.length+1) s i,c+1):=by rw[hs,hc];rfl
  rw[he,←hs,←hc];obtain⟨hl1,hl2⟩:=hlen;obtain⟨R,hR⟩:∃R,R=Ei a b (a.length+1) s i:=⟨_,rfl⟩;rw[←hR]
  cases ht:CM s i
  ·simp only[HF,if_false];simp(disch:=first|omega|simp only[vl];omega) only[AA,ht];refine Be (fun(x:Nat×List Bool×Int)=>x.2.1.length=a.length∧(0≤x.2.2∧x.2.2<a.length)∧DJ x.2.1<x.1∧Ei a b x.1 x.2.1 x.2.2=R) (fun x=>[LI a,LI b,.u,LT x.2.1,.n ((c:Int)+1),.n i,.n x.2.2,.u,.u,.u,.u]) (fun x=>x.1) (a.length+1,s,i) ⟨hl1,by simp;omega,by have:=List.countP_le_length (p:=fun b=>!b) (l:=s);simp only[DJ];omega,hR.symm⟩ rfl ?_;rintro⟨f,t,x⟩ ⟨g1,g2,g3,g4⟩;simp only at g1 g2 g3 g4⊢;have hin:=NN hia g2;have hin2:=NN hib (x:=AE a x) (by omega)
   cases f with
   |zero=>omega
   |succ f=>
    simp only[Ei]at g4
    cases hx:CM t x
    ·rw[hx]at g4
     simp only[HF,if_false]at g4
     simp(disch:=first|omega|simp only[vl];omega) only[AA,hx]
     exact⟨(f,CR (CR t x true) (AE a x) true,AE b (AE a x)),by show f<f+1;omega,⟨by rw[Fe,Fe,g1],by rw[←hab];exact hin2,ALY g1 g2 hia g3 hx,g4⟩,rfl⟩
    ·rw[hx]at g4
     simp only[if_true]at g4
     simp(disch:=first|omega|simp only[vl];omega) only[AA,hx]
     rw[←g4]
  ·simp only[if_true];simp(disch:=first|omega|simp only[vl];omega) only[AA,ht]
 ·simp(disch:=first|omega|simp only[vl];omega) only[AA];rfl
inductive HC:List (List Nat)→List (List Int)→Prop
 |nil:HC [] []
 |snoc{ws ms w m}:HC ws ms→PP w m→HC (ws++[w]) (ms++[m])
theorem PD{ws ms} (h:HC ws ms):ms.length=ws.length:=by
 induction h with
 |nil=>rfl
 |snoc _ _ ih=>simp[ih]
theorem AZY{ws ms} (h:HC ws ms):∀i:Nat,i<ws.length→PP (AO ws i) (AG ms i):=by
 induction h with
 |nil=>intro i hi;simp at hi
 | @snoc ws ms w m h h2 ih=>
  intro i hi
  have hl:=PD h
  rcases Bh i ws.length with q|q
  ·have:=ih i q
   simpa[AO,AG,Al,DC q,DC (show i<ms.length by omega)]using this
  ·have e:i=ws.length:=by simp at hi;omega
   subst e
   have e1:AO (ws++[w]) ws.length=w:=by simp[AO,Al]
   have e2:AG (ms++[m]) ws.length=m:=by rw[←hl];simp[AG,Al]
   rw[e1,e2]
   exact h2
theorem Aa3:D.l []=LL []:=rfl
theorem APY{ws:List (List Nat)}{i:Nat}(h:i<ws.length):AO ws i∈ws:=by simp[AO,h]
theorem AJN{ws:List (List Nat)}{i:Nat}(h:i<ws.length):ws.take (i+1)=ws.take i++[AO ws i]:=by rw[CU h];simp[AO,h]
theorem AHB{a b:List (List Int)}(h:a.length+b.length≤1099511627776):EB false (LL a) (LL b)=some (LL (a++b)):=Ii ⟨h,rfl⟩
theorem ATN[HA K]{n:Nat}(h:n<7):∃rs,(∃ms,rs=[LL ms]∧HC (AN n) ms)∧K 359 [.n n] rs:=by
 have hlen:=apl h;refine qx AP9 rfl ?_;simp only[AP9];simp(disch:=first|omega|simp only[vl];omega) only[AA];refine AD (Vk (K:=K) h) rfl ?_;simp(disch:=first|omega|simp only[vl];omega) only[AA];rw[Aa3];refine Au (fun i (ms:List (List Int))=>HC ((AN n).take i) ms) (fun i ms=>[.u,.u,LL ms,.u,LS (AN n),.n (AN n).length,.n i,.u]) (AN n).length [] (by simpa using HC.nil) rfl (fun i ms hi hP=>?_) (fun ms hP=>?_)
 ·have hm:=PD hP;have ht:((AN n).take i).length=i:=by simp;omega
  obtain⟨_,⟨m,rfl,hpp⟩,k1⟩:=O5 (K:=K) (w:=AO (AN n) i) (apd h (APY hi)).1;simp(disch:=first|omega|simp only[vl];omega) only[AA];refine AD (k1) rfl ?_;simp(disch:=first|omega|simp only[vl];omega) only[AA,AHB];refine⟨ms++[m],?_,rfl⟩;rw[AJN hi];exact HC.snoc hP hpp
 ·rw[List.take_length]at hP;simp(disch:=first|omega|simp only[vl];omega) only[AA];exact⟨ms,rfl,hP⟩
end Go.Cat
namespace Go.Cat
variable{K:Nat→List D→List D→Prop}
theorem AKZ[HA K]{a b:List Int}(h:a.length≤1099511627776):K 72 [LI a,LI b] [.b (decide (a=b))]:=by
 refine qb PF rfl ?_;simp only[PF];simp(disch:=omega) only[AA];by_cases hl:a.length=b.length
 ·simp(disch:=omega) only[AA];refine AL (fun i=>∀j:Nat,j<i→AE a j=AE b j) (fun i=>[LI a,LI b,.u,.u,.u,.n a.length,.n i,.u,.u]) a.length (by simp) rfl (fun i hi hP=>?_) (fun hP=>?_)
  ·by_cases he:AE a i=AE b i
   ·simp(disch:=omega) only[AA];exact CB hP he
   ·simp(disch:=omega) only[AA];have:a≠b:=by rintro rfl;exact he rfl
    simp[this]
  ·simp(disch:=omega) only[AA];have:a=b:=Fw hl hP;simp[this]
 ·have:a≠b:=by rintro rfl;exact hl rfl
  simp(disch:=omega) only[AA];simp[this]
theorem AQU[HA K]{a b:List Int}(h:a.length≤1099511627776):K 149 [LI a,LI b] [.b (decide (a=b))]:=by
 refine qb ADV rfl ?_;simp only[ADV];simp(disch:=omega) only[AA];by_cases hl:a.length=b.length
 ·simp(disch:=omega) only[AA];refine AL (fun i=>∀j:Nat,j<i→AE a j=AE b j) (fun i=>[LI a,LI b,.u,.n i,.u,.u,.u]) a.length (by simp) rfl (fun i hi hP=>?_) (fun hP=>?_)
  ·by_cases he:AE a i=AE b i
   ·simp(disch:=omega) only[AA];exact CB hP he
   ·simp(disch:=omega) only[AA];have:a≠b:=by rintro rfl;exact he rfl
    simp[this]
  ·simp(disch:=omega) only[AA];have:a=b:=Fw hl hP;simp[this]
 ·have:a≠b:=by rintro rfl;exact hl rfl
  simp(disch:=omega) only[AA];simp[this]
theorem G8{m:List (List Int)}{i:Nat}(h:i<m.length):AG m i∈m:=by simp[AG,h]
structure CLsm(t:List (List Nat))(n o:List Int)(r:List (List Int)):Prop where
 lt:t.length≤1099511627776
 ln:n.length≤1099511627776
 lo:o.length≤1099511627776
 lr:r.length≤1099511627776
 lrs:∀x∈r,x.length≤1099511627776
end Go.Cat
