/-
 Plane trees: parents in preorder.
-/
import Derived.Test.YthoilpmggmenbaaGreatPfStat
import Derived.Test.YthoilpmggmenbaaGreatQd0LawReports
import Derived.Test.YthoilpmggmenbaaGreatQd1LawReports
import Derived.Test.YthoilpmggmenbaaGreatQd2LawReports
import Derived.Test.YthoilpmggmenbaaGreatQd3LawReports
import Derived.Test.YthoilpmggmenbaaGreatPfSch
import Derived.Test.YthoilpmggmenbaaGreatPfIn
set_option linter.unusedSimpArgs false
set_option linter.unusedVariables false
namespace Go.Cat
variable{K:Nat→List D→List D→Prop}
def Ez:List Nat→List Int→List Int→List Int
 |[],out,_=>out
 |c::w,out,st=>if c=100 then Ez w out st.tail else Ez w (out++[st.headD 0]) ((out.length:Int)::st)
def Dv(w:List Nat):List Int:=Ez w [-1] [0]
theorem SX:∀{w:List Nat}{out st:List Int},out.length≤(Ez w out st).length∧(Ez w out st).length≤out.length+w.length
 |[],_,_=>by simp[Ez]
 |c::w,out,st=>by
  unfold Ez
  split
  ·have:=SX (w:=w) (out:=out) (st:=st.tail)
   simp only[AY];omega
  ·have:=SX (w:=w) (out:=out++[st.headD 0]) (st:=(out.length:Int)::st)
   simp only[AY,A7,Ap]at this⊢;omega
theorem ADK[HA K]{w:List Nat}(hd:AM w=true):K 510 [.s w] [LI (Dv w),.b true]:=by
 have hD:=Ah hd;have hl:=hD.l;refine qb AFC rfl ?_;simp only[AFC];simp(disch:=first|omega|simp only[vl];omega) only[AA];repeat(first|(refine AD (Bv (K:=K) (w:=w) (by omega)) rfl ?_;try simp(disch:=first|omega|simp only[vl];omega) only[AA,hd]))
 refine Au (fun i (x:List Int×List Int)=>Ez (w.drop i) x.1 x.2=Dv w∧(x.2.length:Int)=Hh w i+1∧x.1.length≤i+1∧1≤x.1.length) (fun i x=>[.s w,.u,.u,LI x.1,LI x.2.reverse,.n i,.u,.u,.u]) w.length ([-1],[0]) ⟨by simp[Dv],by simp[E0],by simp,by simp⟩ rfl (fun i x hi hP=>?_) (fun x hP=>?_)
 ·obtain⟨out,st⟩:=x;obtain⟨g1,g2,g3,g4⟩:=hP;simp only at g1 g2 g3 g4;rw[Eo hi]at g1;have hb:=F3 (w:=w) (i:=i);have h1:=hD.h0 (i+1) (by omega);have h0:=hD.h0 i (by omega)
  cases st with
  |nil=>simp at g2;omega
  |cons x t=>
   have hl2:(t.reverse).length=t.length:=by simp
   have e1:AE (t.reverse++[x]) t.length=x:=by rw[←hl2];exact Mn
   have e2:sub (t.reverse++[x]) 0 t.length=t.reverse:=by rw[←hl2];exact Mg
   have e3:(((t.reverse++[x]).length:Nat):Int)=(t.length:Int)+1:=by simp
   simp only[AY]at g2
   simp only[List.reverse_cons]
   rcases hD.ud i hi with hu|hu
   ·have eh:=FM hi hu
    rw[hu]at g1
    simp only[Ez,List.headD_cons]at g1
    rw[if_neg (by omega)]at g1
    simp(disch:=first|omega|simp only[vl];omega) only[AA,hu,e3,e1,CA]
    refine⟨(out++[x],(out.length:Int)::x::t),⟨g1,by simp;omega,by simp;omega,by simp⟩,?_⟩
    simp
   ·have eh:=E7 hi hu
    rw[hu]at g1
    simp only[Ez,if_true,List.tail_cons]at g1
    simp(disch:=first|omega|simp only[vl];omega) only[AA,hu,e3,e2,CA]
    exact⟨(out,t),⟨g1,by simp only;omega,by simp only;omega,g4⟩,rfl⟩
 ·obtain⟨out,st⟩:=x;obtain⟨g1,_⟩:=hP;rw[List.drop_length]at g1;simp only[Ez]at g1;simp(disch:=first|omega|simp only[vl];omega) only[AA];rw[←g1]
def CH(out:List Int):List Int→Prop
 |[]=>True
 |[x]=>0≤x∧x<out.length
 |x::y::t=>(0≤x∧x<out.length∧AE out x=y)∧CH out (y::t)
theorem AcB{out:List Int}{x z:Int}(h:0≤x∧x<out.length):AE (out++[z]) x=AE out x:=by simp only[AE,Al];rw[DC (by omega)]
theorem Y5{out:List Int}{q:Int}:∀{st:List Int},CH out st→CH (out++[q]) st
 |[],_=>trivial
 |[x],h=>by
  simp only[CH,A7,AY,Ap]at h⊢;omega
 |x::y::t,h=>by
  obtain⟨⟨h1,h2,h3⟩,h4⟩:=h
  refine⟨⟨h1,by simp;omega,?_⟩,Y5 h4⟩
  rw[AcB ⟨h1,h2⟩,h3]
theorem AQP{out:List Int}{x:Int}{t:List Int}(h:CH out (x::t)):0≤x∧x<out.length:=by
 cases t with
 |nil=>exact h
 |cons y t=>exact⟨h.1.1,h.1.2.1⟩
theorem ZS[HA K]{w:List Nat}(hd:AM w=true):K 299 [.s w] [LI (Dv w),.b true]:=by
 have hD:=Ah hd;have hl:=hD.l;refine qb AGQ rfl ?_;simp only[AGQ];simp(disch:=first|omega|simp only[vl];omega) only[AA];refine Au (fun i (x:List Int×Int×List Int)=>Ez (w.drop i) x.1 (x.2.1::x.2.2)=Dv w∧(x.2.2.length:Int)=Hh w i∧x.1.length≤i+1∧CH x.1 (x.2.1::x.2.2)) (fun i x=>[.s w,.u,.u,LI x.1,.n x.2.1,.n i,.u,.u,.u]) w.length ([-1],0,[]) ⟨by simp[Dv],by simp[E0],by simp,by simp[CH]⟩ rfl (fun i x hi hP=>?_) (fun x hP=>?_)
 ·obtain⟨out,x,t⟩:=x;obtain⟨g1,g2,g3,g4⟩:=hP;simp only at g1 g2 g3 g4;rw[Eo hi]at g1;have hx:=AQP g4;have hb:=F3 (w:=w) (i:=i);have h1:=hD.h0 (i+1) (by omega);rcases hD.ud i hi with hu|hu
  ·have eh:=FM hi hu;rw[hu]at g1;simp only[Ez,List.headD_cons]at g1;rw[if_neg (by omega)]at g1;simp(disch:=first|omega|simp only[vl];omega) only[AA];repeat(first|(refine AD (Bt (K:=K) (w:=w) (by omega)) rfl ?_;try simp(disch:=first|omega|simp only[vl];omega) only[AA,hd,hu]))
   refine⟨(out++[x],(out.length:Int),x::t),⟨g1,by simp;omega,by simp;omega,?_⟩,?_⟩
   ·refine⟨⟨by show(0:Int)≤(out.length:Int);omega,by show((out.length:Nat):Int)<(((out++[x]).length:Nat):Int);simp;omega,?_⟩,Y5 g4⟩;simp[AE]
   ·simp
  ·have eh:=E7 hi hu;rw[hu]at g1;simp only[Ez,if_true,List.tail_cons]at g1
   cases t with
   |nil=>simp at g2;omega
   |cons y t=>
    obtain⟨⟨_,_,hy⟩,g5⟩:=g4
    simp only[AY]at g2
    simp(disch:=first|omega|simp only[vl];omega) only[AA]
    repeat(first|(refine AD (Bt (K:=K) (w:=w) (by omega)) rfl ?_;try simp(disch:=first|omega|simp only[vl];omega) only[AA,hd,hu]))
    exact⟨(out,y,t),⟨g1,by simp only;omega,by simp only;omega,g5⟩,by rw[hy]⟩
 ·obtain⟨out,x,t⟩:=x;obtain⟨g1,_⟩:=hP;rw[List.drop_length]at g1;simp only[Ez]at g1;simp(disch:=first|omega|simp only[vl];omega) only[AA];repeat(first|(refine AD (Bt (K:=K) (w:=w) (by omega)) rfl ?_;try simp(disch:=first|omega|simp only[vl];omega) only[AA,hd]))
  rw[←g1]
def F6(p:List Int):Nat→Int→Int→Bool
 |0,_,_=>false
 |f+1,v,t=>if v<0 then false else if v=t then true else F6 p f (AE p v) t
def JD(p:List Int)(i:Nat):Prop:=∀j:Nat,j<i→(j=0∧AE p 0=-1)∨(0<j∧F6 p (j+1) ((j:Int)-1) (AE p j)=true)
instance{p:List Int}{i:Nat}:Decidable (JD p i):=by unfold JD;infer_instance
def Cl(p:List Int):Bool:=AV 1 9 p.length&&decide (JD p p.length)
theorem VQ{p:List Int}{i:Nat}(hp:∀j:Nat,j<i→-1≤AE p j∧AE p j<j):∀(f:Nat)(v t:Int),v<i→F6 p f v t=true→0≤t∧t≤v
 |0,_,_,_,h=>by simp[F6]at h
 |f+1,v,t,hv,h=>by
  unfold F6 at h
  split at h
  ·cases h
  ·rename_i h0
   split at h
   ·omega
   ·obtain⟨n,rfl⟩:=Cd (show 0≤v by omega)
    have h1:=hp n (by omega)
    have h1:-1≤AE p (n:Nat)∧AE p (n:Nat)<n:=h1
    have:=VQ hp f (AE p (n:Nat)) t (by omega) h
    have e:(Int.ofNat n)=(n:Int):=rfl
    omega
theorem QG{p:List Int}:∀{i:Nat},JD p i→∀j:Nat,j<i→-1≤AE p j∧AE p j<j
 |0,_,j,h=>by omega
 |i+1,hp,j,h=>by
  have ih:=QG (p:=p) (i:=i) (fun j hj=>hp j (by omega))
  rcases Bh j i with q|q
  ·exact ih j q
  ·obtain rfl:j=i:=by omega
   rcases hp j (by omega)with⟨rfl,h0⟩|⟨h0,h1⟩
   ·have h0':AE p ((0:Nat):Int)=-1:=h0
    omega
   ·have:=VQ ih (j+1) _ _ (by omega) h1
    omega
theorem T8[HA K]{p:List Int}(h:p.length≤1099511627776):K 516 [LI p] [.b (Cl p)]:=by
 refine qb AQA rfl ?_;simp only[AQA];simp(disch:=omega) only[AA];refine AD (CK (K:=K)) rfl ?_
 cases hr:AV 1 9 (p.length:Int)
 ·simp(disch:=omega) only[AA];simp[Cl,hr]
 ·have hb:=A8.1 hr;by_cases h0:AE p 0=-1
  ·simp(disch:=omega) only[AA,h0];refine Au (fun i (_:Unit)=>JD p (i+1)) (fun i _=>[LI p,.u,.n ((i:Int)+1),.u,.u,.u,.u,.u]) (p.length-1) () (fun j hj=>.inl ⟨by omega,h0⟩) rfl (fun i _ hi hP=>?_) (fun _ hP=>?_)
   ·have hrg:=QG hP;obtain⟨R,hR⟩:∃R,R=F6 p (i+2) ((i:Int)) (AE p ((i:Int)+1)):=⟨_,rfl⟩;simp(disch:=omega) only[AA,CA];refine Be (fun(x:Nat×Int)=>(-1≤x.2∧x.2≤i)∧x.2+2≤x.1∧F6 p x.1 x.2 (AE p ((i:Int)+1))=R) (fun x=>[LI p,.u,.n ((i:Int)+1),.n x.2,.u,.u,.u,.u]) (fun x=>x.1) (i+2,(i:Int)) ⟨by show -1≤(i:Int)∧(i:Int)≤i;omega,by show(i:Int)+2≤((i+2:Nat):Int);omega,hR.symm⟩ rfl ?_;rintro⟨f,v⟩ ⟨g1,g2,g3⟩;simp only at g1 g2 g3⊢
    cases f with
    |zero=>omega
    |succ f=>
     unfold F6 at g3
     by_cases hv:v<0
     ·rw[if_pos hv]at g3
      simp(disch:=omega) only[AA]
      rw[show Cl p=false from ?_]
      refine Bool.eq_false_iff.2 fun q=>?_
      simp only[Cl,AX,Aj]at q
      rcases q.2 (i+1) (by omega)with⟨q1,_⟩|⟨_,q2⟩
      ·omega
      ·rw[show((i+1:Nat):Int)=(i:Int)+1 by omega,CA,←hR,←g3]at q2
       cases q2
     ·rw[if_neg hv]at g3
      by_cases hvt:v=AE p ((i:Int)+1)
      ·rw[if_pos hvt]at g3
       simp(disch:=omega) only[AA,←hvt]
       refine⟨(),CB hP (.inr ⟨by omega,?_⟩)⟩
       rw[show((i+1:Nat):Int)=(i:Int)+1 by omega,CA,←hR,←g3]
      ·rw[if_neg hvt]at g3
       obtain⟨n,rfl⟩:=Cd (show 0≤v by omega)
       have h1:=hrg n (by omega)
       have h1:-1≤AE p (n:Nat)∧AE p (n:Nat)<n:=h1
       simp(disch:=omega) only[AA]
       exact⟨(f,AE p (n:Nat)),by show f<f+1;omega,⟨by simp only;omega,by simp only;omega,g3⟩,rfl⟩
   ·have e:p.length-1+1=p.length:=by omega
    rw[e]at hP;simp(disch:=omega) only[AA];simp[Cl,hr,hP]
  ·simp(disch:=omega) only[AA];rw[show Cl p=false from ?_];refine Bool.eq_false_iff.2 fun q=>?_;simp only[Cl,AX,Aj]at q;rcases q.2 0 (by omega)with⟨_,q2⟩|⟨q1,_⟩
   ·exact h0 q2
   ·omega
theorem Le[HA K]{p:List Int}(h:p.length≤1099511627776):K 321 [LI p] [.b (Cl p)]:=by
 have no:∀{i:Nat},i<p.length→¬((i=0∧AE p 0=-1)∨(0<i∧F6 p (i+1) ((i:Int)-1) (AE p i)=true))→Cl p=false:=by intro i hi q;refine Bool.eq_false_iff.2 fun q2=>?_;simp only[Cl,AX,Aj]at q2;exact q (q2.2 i hi)
 refine qb AGM rfl ?_;simp only[AGM];simp(disch:=omega) only[AA];refine AL (fun i=>JD p i) (fun i=>[LI p,.u,.n i,.u,.u,.u,.u,.u,.u]) p.length (by simp[JD]) rfl (fun i hi hP=>?_) (fun hP=>?_)
 ·have hrg:=QG hP;by_cases hi0:i=0
  ·subst hi0;by_cases h0:AE p 0=-1
   ·simp(disch:=omega) only[AA,h0];refine Be (fun(_:Unit)=>True) (fun _=>[LI p,.u,.n 0,.b true,.n (-1),.u,.u,.u,.u]) (fun _=>0) () trivial rfl (fun _ _=>?_);simp(disch:=omega) only[AA];exact CB hP (.inl ⟨rfl,h0⟩)
   ·rw[no hi fun q=>by rcases q with q|q;exact h0 q.2;omega];simp(disch:=omega) only[AA]
  ·simp(disch:=omega) only[AA];refine AD (Bj (K:=K)) rfl ?_
   cases hr:AV 0 ((i:Int)-1) (AE p i)
   ·rw[no hi fun q=>by
     rcases q with q|q
     ·exact hi0 q.1
     ·have:=VQ hrg (i+1) _ _ (by omega) q.2
      rw[Nc]at hr;omega]
    simp(disch:=omega) only[AA]
   ·have hb:=A8.1 hr;obtain⟨R,hR⟩:∃R,R=F6 p (i+1) ((i:Int)-1) (AE p i):=⟨_,rfl⟩;simp(disch:=omega) only[AA];refine Be (fun(x:Nat×Int×Bool)=>(-1≤x.2.1∧x.2.1<i)∧x.2.1+2≤x.1∧(x.2.2||F6 p x.1 x.2.1 (AE p i))=R) (fun x=>[LI p,.u,.n i,.b x.2.2,.n x.2.1,.u,.u,.u,.u]) (fun x=>x.1) (i+1,(i:Int)-1,false) ⟨by show -1≤(i:Int)-1∧(i:Int)-1<i;omega,by show(i:Int)-1+2≤((i+1:Nat):Int);omega,by rw[hR];rfl⟩ rfl ?_;rintro⟨f,v,fine⟩ ⟨g1,g2,g3⟩;simp only at g1 g2 g3⊢
    cases f with
    |zero=>omega
    |succ f=>
     unfold F6 at g3
     by_cases hv:v<0
     ·rw[if_pos hv,Bool.or_false]at g3
      subst g3
      cases fine
      ·simp(disch:=omega) only[AA]
       rw[no hi fun q=>by
        rcases q with q|q
        ·exact hi0 q.1
        ·rw[q.2]at hR;cases hR]
      ·simp(disch:=omega) only[AA]
       exact CB hP (.inr ⟨by omega,hR.symm⟩)
     ·rw[if_neg hv]at g3
      obtain⟨n,rfl⟩:=Cd (show 0≤v by omega)
      have h1:=hrg n (by omega)
      have h1:-1≤AE p (n:Nat)∧AE p (n:Nat)<n:=h1
      have key:((fine||decide (((n:Nat):Int)=AE p i))||F6 p f (AE p (n:Nat)) (AE p i))=R:=by
       rw[←g3]
       by_cases hvt:((n:Nat):Int)=AE p i
       ·rw[if_pos hvt];simp[hvt]
       ·rw[if_neg hvt];simp[hvt]
      cases fine
      ·by_cases hvt:((n:Nat):Int)=AE p i
       ·simp(disch:=omega) only[AA]
        exact⟨(f,AE p (n:Nat),true),by show f<f+1;omega,⟨by simp only;omega,by simp only;omega,by rw[←key];simp[hvt]⟩,rfl⟩
       ·simp(disch:=omega) only[AA]
        exact⟨(f,AE p (n:Nat),false),by show f<f+1;omega,⟨by simp only;omega,by simp only;omega,by rw[←key];simp[hvt]⟩,rfl⟩
      ·simp(disch:=omega) only[AA]
       exact⟨(f,AE p (n:Nat),true),by show f<f+1;omega,⟨by simp only;omega,by simp only;omega,by rw[←key];simp⟩,rfl⟩
 ·simp(disch:=omega) only[AA];refine AD (Bj (K:=K)) rfl ?_;simp(disch:=omega) only[AA];simp[Cl,hP]
def Cw(p:List Int)(v:Int):Nat→List Int
 |0=>[]
 |i+1=>if AE p i=v then Cw p v i++[(i:Int)]else Cw p v i
theorem Vg{p:List Int}{v:Int}:∀i,(Cw p v i).length≤i
 |0=>by simp[Cw]
 |i+1=>by
  have:=Vg (p:=p) (v:=v) i
  unfold Cw
  split<;>simp<;>omega
theorem ALG:D.l []=LI []:=rfl
theorem chi[HA K]{p:List Int}{v:Int}(h:p.length≤1048576)(hp:Cl p=true)(hv:0≤v):K 517 [LI p,.n v] [LI (Cw p v p.length)]:=by
 refine qb Xz rfl ?_;simp only[Xz];simp(disch:=first|omega|simp only[vl];omega) only[AA];repeat(first|(refine AD (T8 (K:=K) (p:=p) (by omega)) rfl ?_;try simp(disch:=first|omega|simp only[vl];omega) only[AA,hp]))
 rw[ALG];refine AL (fun _=>True) (fun i=>[.u,.n v,.u,LI (Cw p v i),.u,.u,.u,LI p,.n p.length,.n i,.u,.u]) p.length trivial rfl (fun i hi _=>?_) (fun _=>?_)
 ·have hl:=Vg (p:=p) (v:=v) i;by_cases he:AE p i=v
  ·simp only[Cw,if_pos he];simp(disch:=first|omega|simp only[vl];omega) only[AA,he]
  ·simp only[Cw,if_neg he];simp(disch:=first|omega|simp only[vl];omega) only[AA]
 ·simp(disch:=first|omega|simp only[vl];omega) only[AA]
theorem chs[HA K]{p:List Int}{v:Int}(h:p.length≤1048576)(hp:Cl p=true)(hv:0≤v):K 322 [LI p,.n v] [LI (Cw p v p.length)]:=by
 simp only[Cl,AX,Aj]at hp;have hb:=A8.1 hp.1;have h0:AE p 0=-1:=by
  rcases hp.2 0 (by omega)with q|q
  ·exact q.2
  ·omega
 have hp:Cl p=true:=by simp[Cl,hp]
 have h1:Cw p v 1=[]:=by have e:AE p ((0:Nat):Int)=-1:=h0;simp only[Cw];rw[if_neg (by omega)]
 refine qb ACQ rfl ?_;simp only[ACQ];simp(disch:=first|omega|simp only[vl];omega) only[AA];rw[ALG];refine AL (fun _=>True) (fun i=>[LI p,.n v,.u,LI (Cw p v (i+1)),.n ((i:Int)+1),.u,.u]) (p.length-1) trivial (by rw[h1];rfl) (fun i hi _=>?_) (fun _=>?_)
 ·have hl:=Vg (p:=p) (v:=v) (i+1);have ec:((i+1:Nat):Int)=(i:Int)+1:=by omega
  by_cases he:AE p ((i:Int)+1)=v
  ·have e2:Cw p v (i+1+1)=Cw p v (i+1)++[(i:Int)+1]:=by
    rw[Cw,ec,if_pos he]
   rw[e2]
   simp(disch:=first|omega|simp only[vl];omega) only[AA]
   repeat(first|(refine AD (Le (K:=K) (p:=p) (by omega)) rfl ?_;try simp(disch:=first|omega|simp only[vl];omega) only[AA,hp,he]))
  ·have e2:Cw p v (i+1+1)=Cw p v (i+1):=by
    rw[Cw,ec,if_neg he]
   rw[e2]
   simp(disch:=first|omega|simp only[vl];omega) only[AA]
   repeat(first|(refine AD (Le (K:=K) (p:=p) (by omega)) rfl ?_;try simp(disch:=first|omega|simp only[vl];omega) only[AA,hp]))
 ·have e:p.length-1+1=p.length:=by omega
  rw[e];simp(disch:=first|omega|simp only[vl];omega) only[AA]
def Fq(p:List Int)(i:Nat):Nat:=CG (fun v=>if Cl p=true∧(Cw p v p.length).length=0 then 1 else 0) i
theorem Sa{p:List Int}{i:Nat}:Fq p i≤i:=by have:=JC (g:=fun v:Nat=>if Cl p=true∧(Cw p v p.length).length=0 then 1 else 0) (b:=1) (fun j=>by split<;>omega) i;unfold Fq;omega
theorem AcJ[HA K]{p:List Int}(h:p.length≤1048576):K 511 [LI p] [.n (Fq p p.length)]:=by
 refine qb AJG rfl ?_;simp only[AJG];simp(disch:=omega) only[AA];refine AL (fun _=>True) (fun i=>[LI p,.u,.n (Fq p i),.u,.n p.length,.n i,.u,.u]) p.length trivial rfl (fun i hi _=>?_) (fun _=>?_)
 ·have hb:=Sa (p:=p) (i:=i);have e2:Fq p (i+1)=Fq p i+(if Cl p=true∧(Cw p i p.length).length=0 then 1 else 0):=rfl;simp(disch:=omega) only[AA];refine AD (T8 (K:=K) (p:=p) (by omega)) rfl ?_
  cases hp:Cl p
  ·rw[e2,hp,if_neg (by simp)];simp(disch:=omega) only[AA];simp
  ·simp(disch:=omega) only[AA];refine AD (chi (K:=K) (p:=p) (v:=i) h hp (by omega)) rfl ?_;by_cases h0:(Cw p i p.length).length=0
   ·rw[e2,hp,if_pos ⟨rfl,h0⟩];simp(disch:=omega) only[AA,h0];all_goals simp
   ·rw[e2,hp,if_neg fun q=>h0 q.2];simp(disch:=omega) only[AA];all_goals simp
 ·simp(disch:=omega) only[AA]
theorem AaM[HA K]{p:List Int}(h:p.length≤1048576):K 300 [LI p] [.n (Fq p p.length)]:=by
 refine qb AHL rfl ?_;simp only[AHL];simp(disch:=omega) only[AA]
 cases hp:Cl p
 ·have e:Fq p p.length=0:=MH fun i hi=>if_neg (by rw[hp];simp);rw[e];refine Be (fun(_:Unit)=>True) (fun _=>[LI p,.u,.n 0,.n 0,.u,.u]) (fun _=>0) () trivial rfl (fun _ _=>?_);by_cases h0:0<p.length
  ·simp(disch:=omega) only[AA];repeat(first|(refine AD (Le (K:=K) (p:=p) (by omega)) rfl ?_;try simp(disch:=omega) only[AA,hp]))
  ·simp(disch:=omega) only[AA]
 ·refine AL (fun _=>True) (fun i=>[LI p,.u,.n (Fq p i),.n i,.u,.u]) p.length trivial rfl (fun i hi _=>?_) (fun _=>?_)
  ·have hb:=Sa (p:=p) (i:=i);have e2:Fq p (i+1)=Fq p i+(if Cl p=true∧(Cw p i p.length).length=0 then 1 else 0):=rfl;simp(disch:=omega) only[AA];repeat(first|(refine AD (Le (K:=K) (p:=p) (by omega)) rfl ?_;try simp(disch:=omega) only[AA,hp]))
   refine AD (chs (K:=K) (p:=p) (v:=i) h hp (by omega)) rfl ?_;by_cases h0:(Cw p i p.length).length=0
   ·rw[e2,hp,if_pos ⟨rfl,h0⟩];simp(disch:=omega) only[AA,h0];all_goals simp
   ·rw[e2,hp,if_neg fun q=>h0 q.2];simp(disch:=omega) only[AA];all_goals simp
  ·simp(disch:=omega) only[AA]
end Go.Cat
namespace Go.Cat
variable{K:Nat→List D→List D→Prop}
set_option maxRecDepth 100000
def Fl(o:Option (List D))(v:Int):Bool:=match o with
 |some [.i .i64 n]=>decide (n=v)
 |_=>false
theorem G5{o:Option (List D)}{v:Int}(h:Fl o v=true):o=some [.n v]:=by
 unfold Fl at h;split at h
 ·simp at h;rw[h]
 ·cases h
end Go.Cat
namespace Go.Cat
variable{K:Nat→List D→List D→Prop}
set_option maxRecDepth 100000
def apR(fuel:Nat)(w:List Nat)(up down:Nat):List (List Nat):=match fuel with
 |0=>[]
 |f+1=>if down=0 then [w]else(if up > 0 then apR f (w++[117]) (up-1) down else [])++(if down > up then apR f (w++[100]) up (down-1)else [])
def AN(n:Nat):List (List Nat):=apR (2*n+1) [] n n
def EZ(o:Option (List D))(l:List (List Nat)):Bool:=match o with
 |some [.l xs]=>go xs l
 |_=>false
where
 go:List D→List (List Nat)→Bool
  |[],[]=>true
  |.s x::xs,y::l=>decide (x=y)&&go xs l
  |_,_=>false
theorem AKA:∀{xs:List D}{l:List (List Nat)},EZ.go xs l=true→xs=l.map D.s
 |[],[],_=>rfl
 |.s x::xs,y::l,h=>by
  simp only[EZ.go,AX,Aj]at h
  rw[AKA h.2,h.1];rfl
 |[],_::_,h=>by simp[EZ.go]at h
 |.s _::_,[],h=>by simp[EZ.go]at h
 |.u::_,_,h=>by simp[EZ.go]at h
 |.i _ _::_,_,h=>by simp[EZ.go]at h
 |.b _::_,_,h=>by simp[EZ.go]at h
 |.l _::_,_,h=>by simp[EZ.go]at h
 |.g _::_,_,h=>by simp[EZ.go]at h
 |.z::_,_,h=>by simp[EZ.go]at h
 |.p _::_,_,h=>by simp[EZ.go]at h
 |.f _ _::_,_,h=>by simp[EZ.go]at h
theorem Tk{o:Option (List D)}{l:List (List Nat)}(h:EZ o l=true):o=some [LS l]:=by
 unfold EZ at h;split at h
 ·rw[AKA h];rfl
 ·cases h
abbrev W0:List (Nat×IF):=[(234,I234.v),(292,I292.v),(22,IP.v)]
abbrev AL1:List (Nat×IF):=[(279,I279.v),(314,AMO.v),(326,AI6.v),(23,IC.v)]
theorem prs0:BO 7 (fun n=>EZ (Dm (Dr W0) 60 20 234 [.n n]) (AN n))=true:=by kernel_rfl
theorem pri0:BO 7 (fun n=>EZ (Dm (Dr AL1) 60 20 279 [.n n]) (AN n))=true:=by kernel_rfl
theorem OS[HA K]{n:Nat}(h:n<7):K 234 [.n n] [LS (AN n)]:=run W0 60 20 234 (Tk (BQ prs0 n h))
theorem pl_i[HA K]{n:Nat}(h:n<7):K 279 [.n n] [LS (AN n)]:=run AL1 60 20 279 (Tk (BQ pri0 n h))
abbrev XE:List (Nat×IF):=[(314,AMO.v),(326,AI6.v)]
theorem ap0:BO 7 (fun n=>EZ (Dm (Dr XE) 60 20 314 [.n n]) (AN n))=true:=by kernel_rfl
theorem Vk[HA K]{n:Nat}(h:n<7):K 314 [.n n] [LS (AN n)]:=run XE 60 20 314 (Tk (BQ ap0 n h))
theorem UQ:BO 7 (fun m=>((AN m).all fun w=>AM w&&decide (w.length=2*m))&&decide ((AN m).length≤132))=true:=by kernel_rfl
theorem apd{n:Nat}(h:n<7){w:List Nat}(hw:w∈AN n):AM w=true∧w.length=2*n:=by have:=BQ UQ n h;simp only[AX]at this;have:=Aw.1 this.1 w hw;simpa using this
theorem apl{n:Nat}(h:n<7):(AN n).length≤132:=by have:=BQ UQ n h;simp only[AX,Aj]at this;exact this.2
end Go.Cat
