/-
 The pattern 231, there or not: both walks.
-/
import Derived.Test.YtnjjceodpbhlmaaGreatPfDrawP
import Derived.Test.YtnjjceodpbhlmaaGreatPfStat
import Derived.Test.YtnjjceodpbhlmaaGreatPfPath
import Derived.Test.YtnjjceodpbhlmaaGreatIrHas
set_option linter.unusedSimpArgs false
set_option linter.unusedVariables false
namespace Go.Cat
variable {K:Nat→List D→List D→Prop}
set_option maxRecDepth 100000
def FR (x:Int) (l:List Int):Bool:=l.any fun z=>decide (z<x)
def E0 (x:Int):List Int→Bool
 | []=>false
 | y::l=>(decide (x<y)&&FR x l) || E0 x l
def Cy:List Int→Bool
 | []=>false
 | x::l=>E0 x l || Cy l
theorem AE3 {x y:Int} {l:List Int}:FR x (y::l)=(decide (y<x) || FR x l):=rfl
theorem SH {x y:Int} {l:List Int}:E0 x (y::l)=((decide (x<y)&&FR x l) || E0 x l):=rfl
theorem SV {x:Int} {l:List Int}:Cy (x::l)=(E0 x l || Cy l):=rfl
theorem AJK [HA K] {a b c:Int}:K 206 [.n a,.n b,.n c] [.b (decide (c<a)&&decide (a<b))]:=by
 refine AG (f:=NI) rfl ?_; simp only [NI,zu]
 by_cases h1:c<a
 ·by_cases h2:a<b
  ·have e1:decide (c<a)=true:=decide_eq_true h1
   have e2:decide (a<b)=true:=decide_eq_true h2
   rw [e1,e2]
   simp (disch:=omega) only [AA]
  ·have e1:decide (c<a)=true:=decide_eq_true h1
   have e2:decide (a<b)=false:=decide_eq_false h2
   rw [e1,e2]
   simp (disch:=omega) only [AA]
 ·have e1:decide (c<a)=false:=decide_eq_false h1
  rw [e1]
  simp (disch:=omega) only [AA]
def Cf (p:List Int):Bool:=BF p&&Cy p
theorem AND [HA K] {p:List Int} (h:p.length≤1000000):K 205 [LI p,.f 206 []] [.b (Cf p)]:=by
 refine AG (f:=NA) rfl ?_; simp only [NA,zu]
 simp (disch:=omega) only [AA]
 refine AE (Fk (K:=K) (p:=p) (by omega)) rfl ?_
 cases hp:BF p
 ·have e:Cf p=false:=by simp [Cf,hp]
  rw [e]
  simp (disch:=omega) only [AA]
 ·have e:Cf p=Cy p:=by simp [Cf,hp]
  rw [e]
  simp (disch:=omega) only [AA]
  refine Ag (fun i=>Cy (p.drop i)=Cy p) (fun i=>[LI p,.f 206 [],.u,.u,.u,.u,.u,.n p.length,.n i,.u,.u,.u,.u]) p.length (by simp) rfl (fun i hi hP=>?_) (fun hP=>?_)
  ·rw [HJ hi,SV] at hP
   simp (disch:=omega) only [AA]
   refine CK (fun j (_:Unit)=>E0 (AD p i) (p.drop (i+1+j))=E0 (AD p i) (p.drop (i+1))) (fun j _=>[LI p,.f 206 [],.u,.n i,.n ((i:Int)+1+j),.u,.u,.n p.length,.n i,.u,.u,.u,.u]) (p.length-(i+1)) () (by simp) (by simp) (fun j _ hj hQ=>?_) (fun _ hQ=>?_)
   ·rw [HJ (show i+1+j<p.length by omega),SH] at hQ
    rw [show ((i+1+j:Nat):Int)=(i:Int)+1+j by omega] at hQ
    simp (disch:=omega) only [AA]
    refine CK (fun k (_:Unit)=>FR (AD p i) (p.drop (i+1+j+1+k))=FR (AD p i) (p.drop (i+1+j+1))∨¬ AD p i<AD p ((i:Int)+1+j)) (fun k _=>[LI p,.f 206 [],.u,.n i,.n ((i:Int)+1+j),.n ((i:Int)+1+j+1+k),.u,.n p.length,.n i,.u,.u,.u,.u]) (p.length-(i+1+j+1)) () (.inl (by simp)) (by simp) (fun k _ hk hR=>?_) (fun _ hR=>?_)
    ·rw [HJ (show i+1+j+1+k<p.length by omega),AE3] at hR
     rw [show ((i+1+j+1+k:Nat):Int)=(i:Int)+1+j+1+k by omega] at hR
     simp (disch:=omega) only [AA]
     refine AE (AJK (K:=K)) rfl ?_
     by_cases h1:AD p ((i:Int)+1+j+1+k)<AD p i
     ·have e1:decide (AD p ((i:Int)+1+j+1+k)<AD p i)=true:=decide_eq_true h1
      by_cases h2:AD p i<AD p ((i:Int)+1+j)
      ·have e2:decide (AD p i<AD p ((i:Int)+1+j))=true:=decide_eq_true h2
       rw [e1] at hR
       have hR:=hR.resolve_right (fun q=>q h2)
       rw [e2,← hR] at hQ
       rw [← hQ] at hP
       simp only [Bool.true_or,Bool.true_and] at hP
       rw [e1,e2]
       simp (disch:=omega) only [AA]
       rw [← hP]
      ·have e2:decide (AD p i<AD p ((i:Int)+1+j))=false:=decide_eq_false h2
       rw [e1,e2]
       simp (disch:=omega) only [AA]
       exact ⟨(),.inr h2,by simp; omega⟩
     ·have e1:decide (AD p ((i:Int)+1+j+1+k)<AD p i)=false:=decide_eq_false h1
      rw [e1] at hR
      rw [e1]
      simp (disch:=omega) only [AA]
      refine ⟨(),?_,by simp; omega⟩
      rcases hR with hR | hR
      ·left
       rw [show i+1+j+1+(k+1)=i+1+j+1+k+1 by omega]
       simpa using hR
      ·exact .inr hR
    ·simp (disch:=omega) only [AA]
     refine ⟨(),?_,by simp; omega⟩
     have hz:p.drop (i+1+j+1+(p.length-(i+1+j+1)))=[]:=by simp; omega
     rw [hz] at hR
     rw [show i+1+(j+1)=i+1+j+1 by omega]
     rcases hR with hR | hR
     ·rw [← hR] at hQ
      simpa [FR] using hQ
     ·have e2:decide (AD p i<AD p ((i:Int)+1+j))=false:=decide_eq_false hR
      rw [e2] at hQ
      simpa using hQ
   ·simp (disch:=omega) only [AA]
    have hz:p.drop (i+1+(p.length-(i+1)))=[]:=by simp; omega
    rw [hz] at hQ
    rw [← hQ] at hP
    simpa [E0] using hP
  ·rw [List.drop_length] at hP
   simp (disch:=omega) only [AA]
   rw [← hP]; rfl
theorem AHG [HA K] {p:List Int} (h:p.length≤1000000):K 187 [LI p] [.b (Cf p)]:=by
 refine AG (f:=N8) rfl ?_; simp only [N8,zu]
 simp (disch:=omega) only [AA]
 refine AE (AND (K:=K) h) rfl ?_
 simp (disch:=omega) only [AA]
theorem SD [HA K] {p:List Int} (h:p.length≤1000000):K 186 [LI p] [.b (Cf p)]:=by
 refine AG (f:=Lo) rfl ?_; simp only [Lo,zu]
 simp (disch:=omega) only [AA]
 cases hp:BF p
 ·have e:Cf p=false:=by simp [Cf,hp]
  rw [e]
  refine Ag (fun i=>True) (fun i=>[LI p,.u,.n i,.u,.u,.u,.u,.u,.u]) 0 trivial rfl (fun i hi hP=>?_) (fun hP=>?_)
  ·omega
  ·by_cases h0:0<p.length
   ·simp (disch:=omega) only [AA]
    refine AE (FU (K:=K) (p:=p) (by omega)) rfl ?_
    simp (disch:=omega) only [AA,hp]
   ·simp (disch:=omega) only [AA]
 ·have e:Cf p=Cy p:=by simp [Cf,hp]
  rw [e]
  refine Ag (fun i=>Cy (p.drop i)=Cy p) (fun i=>[LI p,.u,.n i,.u,.u,.u,.u,.u,.u]) p.length (by simp) rfl (fun i hi hP=>?_) (fun hP=>?_)
  ·rw [HJ hi,SV] at hP
   simp (disch:=omega) only [AA]
   refine AE (FU (K:=K) (p:=p) (by omega)) rfl ?_
   simp (disch:=omega) only [AA,hp]
   refine CK (fun j (_:Unit)=>E0 (AD p i) (p.drop (i+1+j))=E0 (AD p i) (p.drop (i+1))) (fun j _=>[LI p,.u,.n i,.n ((i:Int)+1+j),.u,.u,.u,.u,.u]) (p.length-(i+1)) () (by simp) (by simp) (fun j _ hj hQ=>?_) (fun _ hQ=>?_)
   ·rw [HJ (show i+1+j<p.length by omega),SH] at hQ
    rw [show ((i+1+j:Nat):Int)=(i:Int)+1+j by omega] at hQ
    simp (disch:=omega) only [AA]
    refine CK (fun k (_:Unit)=>FR (AD p i) (p.drop (i+1+j+1+k))=FR (AD p i) (p.drop (i+1+j+1))∨¬ AD p i<AD p ((i:Int)+1+j)) (fun k _=>[LI p,.u,.n i,.n ((i:Int)+1+j),.n ((i:Int)+1+j+1+k),.u,.u,.u,.u]) (p.length-(i+1+j+1)) () (.inl (by simp)) (by simp) (fun k _ hk hR=>?_) (fun _ hR=>?_)
    ·rw [HJ (show i+1+j+1+k<p.length by omega),AE3] at hR
     rw [show ((i+1+j+1+k:Nat):Int)=(i:Int)+1+j+1+k by omega] at hR
     by_cases h1:AD p ((i:Int)+1+j+1+k)<AD p i
     ·have e1:decide (AD p ((i:Int)+1+j+1+k)<AD p i)=true:=decide_eq_true h1
      by_cases h2:AD p i<AD p ((i:Int)+1+j)
      ·have e2:decide (AD p i<AD p ((i:Int)+1+j))=true:=decide_eq_true h2
       rw [e1] at hR
       have hR:=hR.resolve_right (fun q=>q h2)
       rw [e2,← hR] at hQ
       rw [← hQ] at hP
       simp only [Bool.true_or,Bool.true_and] at hP
       simp (disch:=omega) only [AA]
       rw [← hP]
      ·simp (disch:=omega) only [AA]
       exact ⟨(),.inr h2,by simp; omega⟩
     ·have e1:decide (AD p ((i:Int)+1+j+1+k)<AD p i)=false:=decide_eq_false h1
      rw [e1] at hR
      simp (disch:=omega) only [AA]
      refine ⟨(),?_,by simp; omega⟩
      rcases hR with hR | hR
      ·left
       rw [show i+1+j+1+(k+1)=i+1+j+1+k+1 by omega]
       simpa using hR
      ·exact .inr hR
    ·simp (disch:=omega) only [AA]
     refine ⟨(),?_,by simp; omega⟩
     have hz:p.drop (i+1+j+1+(p.length-(i+1+j+1)))=[]:=by simp; omega
     rw [hz] at hR
     rw [show i+1+(j+1)=i+1+j+1 by omega]
     rcases hR with hR | hR
     ·rw [← hR] at hQ
      simpa [FR] using hQ
     ·have e2:decide (AD p i<AD p ((i:Int)+1+j))=false:=decide_eq_false hR
      rw [e2] at hQ
      simpa using hQ
   ·simp (disch:=omega) only [AA]
    have hz:p.drop (i+1+(p.length-(i+1)))=[]:=by simp; omega
    rw [hz] at hQ
    rw [← hQ] at hP
    simpa [E0] using hP
  ·rw [List.drop_length] at hP
   simp (disch:=omega) only [AA]
   rw [← hP]; rfl
theorem AH2 {p:List Int} (h:∃ i j k,pat p i j k):∃ t,first p t:=by
 obtain ⟨i,hi,mi⟩:=exists_least (J:=fun i=>∃ j k,pat p i j k) h
 obtain ⟨j,hj,mj⟩:=exists_least (J:=fun j=>∃ k,pat p i j k) hi
 obtain ⟨k,hk,mk⟩:=exists_least (J:=fun k=>pat p i j k) hj
 refine ⟨(i,j,k),hk,?_⟩
 rintro i' j' k' hp (q | ⟨rfl,q | ⟨rfl,q⟩⟩)
 ·exact mi i' q ⟨j',k',hp⟩
 ·exact mj j' q ⟨k',hp⟩
 ·exact mk k' q hp
theorem APA {p:List Int} {x:Int}:FR x p=true↔∃ k:Nat,k<p.length∧AD p k<x:=by
 simp only [FR,List.any_eq_true,Aj]
 constructor
 ·rintro ⟨z,hz,h⟩
  obtain ⟨k,hk,rfl⟩:=List.mem_iff_getElem.1 hz
  exact ⟨k,hk,by simpa [AD,hk] using h⟩
 ·rintro ⟨k,hk,h⟩
  exact ⟨p[k],List.getElem_mem hk,by simpa [AD,hk] using h⟩
theorem Hv {x:Int} {l:List Int}:AD (x::l) ((0:Nat):Int)=x:=rfl
theorem EU {x:Int} {l:List Int} {k:Nat}:AD (x::l) ((k+1:Nat):Int)=AD l k:=by simp [AD]
theorem Qi {x:Int}:∀ {p:List Int},E0 x p=true↔∃ j k:Nat,j<k∧k<p.length∧AD p k<x∧x<AD p j
 | []=>by simp [E0]
 | y::l=>by
  simp only [E0,Bool.or_eq_true,Ac,Aj,APA,Qi (p:=l)]
  constructor
  ·rintro (⟨h1,k,hk,h2⟩ | ⟨j,k,h1,h2,h3,h4⟩)
   ·exact ⟨0,k+1,by omega,by simp; omega,by rw [EU]; exact h2,by rw [Hv]; exact h1⟩
   ·exact ⟨j+1,k+1,by omega,by simp; omega,by rw [EU]; exact h3,by rw [EU]; exact h4⟩
  ·rintro ⟨j,k,h1,h2,h3,h4⟩
   cases k with
   | zero=>omega
   | succ k=>
    rw [EU] at h3
    simp only [A6] at h2
    cases j with
    | zero=>rw [Hv] at h4; exact .inl ⟨h4,k,by omega,h3⟩
    | succ j=>rw [EU] at h4; exact .inr ⟨j,k,by omega,by omega,h3,h4⟩
theorem Qt:∀ {p:List Int},Cy p=true↔∃ i j k,pat p i j k
 | []=>by simp [Cy,pat]
 | x::l=>by
  simp only [Cy,Bool.or_eq_true,Qi,Qt (p:=l),pat]
  constructor
  ·rintro (⟨j,k,h1,h2,h3,h4⟩ | ⟨i,j,k,h1,h2,h3,h4,h5⟩)
   ·exact ⟨0,j+1,k+1,by omega,by omega,by simp; omega,by rw [EU,Hv]; exact h3,by rw [EU,Hv]; exact h4⟩
   ·exact ⟨i+1,j+1,k+1,by omega,by omega,by simp; omega,by rw [EU,EU]; exact h4,by rw [EU,EU]; exact h5⟩
  ·rintro ⟨i,j,k,h1,h2,h3,h4,h5⟩
   simp only [A6] at h3
   cases k with
   | zero=>omega
   | succ k=>
    cases j with
    | zero=>omega
    | succ j=>
     rw [EU] at h4 h5
     cases i with
     | zero=>rw [Hv] at h4 h5; exact .inl ⟨j,k,by omega,by omega,h4,h5⟩
     | succ i=>rw [EU] at h4 h5; exact .inr ⟨i,j,k,by omega,by omega,by omega,h4,h5⟩
theorem X0 {p:List Int}:En p=Cf p:=by
 unfold En Cf
 congr 1
 rw [Bool.eq_iff_iff]
 simp only [Aj,Qt]
 exact ⟨fun ⟨t,ht⟩=>⟨_,_,_,ht.1⟩,AH2⟩
end Go.Cat
namespace Go.Cat
variable {K:Nat→List D→List D→Prop}
theorem UN:∀ {w:List Nat} {h k:Int},Az w h=some k→k=h+AB w 117-AB w 100∧AB w 117+AB w 100=w.length
 | [],h,k,e=>by simp only [Az,AJ] at e; subst e; simp [AB]
 | c::w,h,k,e=>by
  simp only [Az] at e
  simp only [IZ,A6]
  by_cases hu:c=117
  ·rw [if_pos hu] at e
   have:=UN e
   subst hu
   simp
   omega
  ·rw [if_neg hu] at e
   by_cases hd:c=100
   ·rw [if_pos hd] at e
    split at e
    ·cases e
    ·have:=UN e
     subst hd
     simp
     omega
   ·rw [if_neg hd] at e; cases e
theorem JO {w:List Nat} (h:BW w=true):Az w 0=some 0∧w.length≤16:=by simpa [BW] using h
theorem NS {w:List Nat} (h:BW w=true):w.length=2*AB w 117:=by
 have:=UN (JO h).1
 omega
def PO (w:List Nat):Int:=if BW w=true then (w.length:Int) / 2 else -1
theorem ACK [HA K] {w:List Nat} (h:w.length≤1000000000):K 132 [.s w] [.n (PO w)]:=by
 refine AG (f:=L8) rfl ?_; simp only [L8,zu]
 simp (disch:=omega) only [AA]
 cases hd:BW w
 all_goals repeat (first | (refine AE (Hc (K:=K) h) rfl ?_; try simp (disch:=omega) only [AA,hd]))
 all_goals simp [PO,hd]
def DD:List Nat→List Int→List Int→List Int
 | [],_,_=>[]
 | c::w,p,st=>if c=117 then DD w (p.drop 1) (AD p 0::st) else AD st 0::DD w p (st.drop 1)
theorem SW:∀ {w:List Nat} {p st:List Int},(DD w p st).length≤w.length
 | [],_,_=>by simp [DD]
 | c::w,p,st=>by
  simp only [DD,A6]
  split
  ·have:=SW (w:=w) (p:=p.drop 1) (st:=AD p 0::st); omega
  ·have:=SW (w:=w) (p:=p) (st:=st.drop 1); simp only [A6]; omega
def DG (w:List Nat) (p:List Int):Bool:=BW w&&BF p&&decide (w.length=2*p.length)
def C2 (w:List Nat) (p:List Int):List Int:=if DG w p=true then DD w p [] else []
theorem ABZ {w:List Nat} {p:List Int}:(C2 w p).length≤w.length:=by
 unfold C2; split
 ·exact SW
 ·simp
theorem XD {p:List Int} {n:Nat} (h:n<p.length):AD (p.drop n) 0=AD p n:=by simp [AD,h]
theorem Ue [HA K] {w:List Nat} {p:List Int} (h:w.length≤10000000) (hp:p.length≤10000000):K 110 [.s w,LI p] [LI (C2 w p),.b (DG w p)]:=by
 refine AG (f:=Hl) rfl ?_; simp only [Hl,zu]
 simp (disch:=first|omega|simp only[vl];omega) only [AA,GH]
 cases hd:BW w
 ·repeat (first | (refine AE (Hc (K:=K) (by omega)) rfl ?_; try simp (disch:=first|omega|simp only[vl];omega) only [AA,hd]))
  simp [C2,DG,hd]
 cases hq:BF p
 ·repeat (first | (refine AE (Hc (K:=K) (by omega)) rfl ?_; try simp (disch:=first|omega|simp only[vl];omega) only [AA,hd,hq]) | (refine AE (Fk (K:=K) (by omega)) rfl ?_; try simp (disch:=first|omega|simp only[vl];omega) only [AA,hd,hq]))
  simp [C2,DG,hq]
 have hl:=NS hd
 have hw:=(JO hd).1
 have hs:PO w=AB w 117:=by rw [PO,if_pos hd]; omega
 by_cases hc:p.length=AB w 117
 case neg=>
  repeat (first | (refine AE (Hc (K:=K) (by omega)) rfl ?_; try simp (disch:=first|omega|simp only[vl];omega) only [AA,hd,hq,hs]) | (refine AE (Fk (K:=K) (by omega)) rfl ?_; try simp (disch:=first|omega|simp only[vl];omega) only [AA,hd,hq,hs]) | (refine AE (ACK (K:=K) (by omega)) rfl ?_; try simp (disch:=first|omega|simp only[vl];omega) only [AA,hd,hq,hs]))
  have:¬ w.length=2*p.length:=by omega
  simp [C2,DG,this]
 have ho:DG w p=true:=by simp [DG,hd,hq]; omega
 repeat (first | (refine AE (Hc (K:=K) (by omega)) rfl ?_; try simp (disch:=first|omega|simp only[vl];omega) only [AA,hd,hq,hs,GH]) | (refine AE (Fk (K:=K) (by omega)) rfl ?_; try simp (disch:=first|omega|simp only[vl];omega) only [AA,hd,hq,hs,GH]) | (refine AE (ACK (K:=K) (by omega)) rfl ?_; try simp (disch:=first|omega|simp only[vl];omega) only [AA,hd,hq,hs,GH]))
 refine CK (fun i (x:List Int×List Int×Nat)=>x.1.length≤i∧x.2.1.length≤i∧x.2.2+AB (w.drop i) 117=p.length∧Az (w.drop i) x.2.1.length=some 0∧DD w p []=x.1++DD (w.drop i) (p.drop x.2.2) x.2.1)
  (fun i x=>[.s w,LI p,.u,.u,LI x.1,LI x.2.1.reverse,.n x.2.2,.n i,.u,.u,.u]) w.length ([],[],0) ⟨by simp,by simp,by simp [hc],by simpa using hw,by simp⟩ rfl (fun i x hi hP=>?_) (fun x hP=>?_)
 ·obtain ⟨o,st,n⟩:=x
  obtain ⟨h1,h1b,h2,h3,h4⟩:=hP
  simp only at h1 h1b h2 h3 h4
  rw [FD hi] at h2 h3 h4
  rw [IZ] at h2
  simp only [Az,DD] at h3 h4
  by_cases hu:Ap w i=117
  ·rw [if_pos hu] at h2 h3 h4
   have hn:n<p.length:=by omega
   rw [XD hn,List.drop_drop] at h4
   simp (disch:=first|omega|simp only[vl];omega) only [AA]
   refine ⟨(o,AD p n::st,n+1),⟨by simp; omega,by simp; omega,by simp; omega,by simpa using h3,h4⟩,?_⟩
   simp
  ·rw [if_neg hu] at h2 h3 h4
   by_cases hv:Ap w i=100
   ·rw [if_pos hv] at h3
    cases st with
    | nil=>simp at h3
    | cons y t=>
     simp only [A6] at h1b h3
     have hl:t.reverse.length=t.length:=List.length_reverse
     have e1:AD (t.reverse++[y]) t.length=y:=by rw [← hl]; exact KW
     have e2:sub (t.reverse++[y]) 0 t.length=t.reverse:=by rw [← hl]; exact KT
     have e3:(((t.reverse++[y]).length:Nat):Int)=(t.length:Int)+1:=by simp
     have e4:AD (y::t) 0=y:=rfl
     have h5:Az (w.drop (i+1)) t.length=some 0:=by
      rw [if_neg (by omega)] at h3
      rw [← h3]; congr 1; omega
     simp only [List.reverse_cons]
     simp (disch:=first|omega|simp only[vl];omega) only [AA,e3,e1,e2,Dv]
     refine ⟨(o++[y],t,n),⟨by simp; omega,by simp; omega,by simp; omega,h5,by rw [h4,e4]; simp⟩,rfl⟩
   ·rw [if_neg hv] at h3; cases h3
 ·obtain ⟨o,st,n⟩:=x
  obtain ⟨h1,h1b,h2,h3,h4⟩:=hP
  simp only at h4
  rw [List.drop_length] at h4
  simp only [DD,List.append_nil] at h4
  simp (disch:=first|omega|simp only[vl];omega) only [AA]
  simp [C2,ho,h4]
theorem AR4 [HA K] {w:List Nat} {p:List Int} (h:w.length≤10000000) (hp:p.length≤10000000):K 109 [.s w,LI p] [LI (C2 w p),.b (DG w p)]:=by
 refine AG (f:=Iq) rfl ?_; simp only [Iq,zu]
 simp (disch:=first|omega|simp only[vl];omega) only [AA,GH]
 cases hd:BW w
 ·repeat (first | (refine AE (Fv (K:=K) (by omega)) rfl ?_; try simp (disch:=first|omega|simp only[vl];omega) only [AA,hd]))
  simp [C2,DG,hd]
 cases hq:BF p
 ·repeat (first | (refine AE (Fv (K:=K) (by omega)) rfl ?_; try simp (disch:=first|omega|simp only[vl];omega) only [AA,hd,hq]) | (refine AE (FU (K:=K) (by omega)) rfl ?_; try simp (disch:=first|omega|simp only[vl];omega) only [AA,hd,hq]))
  simp [C2,DG,hq]
 have hl:=NS hd
 have hw:=(JO hd).1
 by_cases hc:p.length=AB w 117
 case neg=>
  repeat (first | (refine AE (Fv (K:=K) (by omega)) rfl ?_; try simp (disch:=first|omega|simp only[vl];omega) only [AA,hd,hq]) | (refine AE (FU (K:=K) (by omega)) rfl ?_; try simp (disch:=first|omega|simp only[vl];omega) only [AA,hd,hq]))
  have:¬ w.length=2*p.length:=by omega
  simp [C2,DG,this]
 have ho:DG w p=true:=by simp [DG,hd,hq]; omega
 repeat (first | (refine AE (Fv (K:=K) (by omega)) rfl ?_; try simp (disch:=first|omega|simp only[vl];omega) only [AA,hd,hq,GH]) | (refine AE (FU (K:=K) (by omega)) rfl ?_; try simp (disch:=first|omega|simp only[vl];omega) only [AA,hd,hq,GH]))
 refine CK (fun i (x:List Int×List Int×Nat)=>x.1.length≤i∧x.2.1.length≤i∧x.2.2+AB (w.drop i) 117=p.length∧Az (w.drop i) x.2.1.length=some 0∧DD w p []=x.1++DD (w.drop i) (p.drop x.2.2) x.2.1)
  (fun i x=>[.s w,LI p,.u,.u,LI x.1,LI x.2.1.reverse,.n x.2.2,.n i,.u,.u,.u]) w.length ([],[],0) ⟨by simp,by simp,by simp [hc],by simpa using hw,by simp⟩ rfl (fun i x hi hP=>?_) (fun x hP=>?_)
 ·obtain ⟨o,st,n⟩:=x
  obtain ⟨h1,h1b,h2,h3,h4⟩:=hP
  simp only at h1 h1b h2 h3 h4
  rw [FD hi] at h2 h3 h4
  rw [IZ] at h2
  simp only [Az,DD] at h3 h4
  by_cases hu:Ap w i=117
  ·rw [if_pos hu] at h2 h3 h4
   have hn:n<p.length:=by omega
   rw [XD hn,List.drop_drop] at h4
   simp (disch:=first|omega|simp only[vl];omega) only [AA]
   refine ⟨(o,AD p n::st,n+1),⟨by simp; omega,by simp; omega,by simp; omega,by simpa using h3,h4⟩,?_⟩
   simp
  ·rw [if_neg hu] at h2 h3 h4
   by_cases hv:Ap w i=100
   ·rw [if_pos hv] at h3
    cases st with
    | nil=>simp at h3
    | cons y t=>
     simp only [A6] at h1b h3
     have hl:t.reverse.length=t.length:=List.length_reverse
     have e1:AD (t.reverse++[y]) t.length=y:=by rw [← hl]; exact KW
     have e2:sub (t.reverse++[y]) 0 t.length=t.reverse:=by rw [← hl]; exact KT
     have e3:(((t.reverse++[y]).length:Nat):Int)=(t.length:Int)+1:=by simp
     have e4:AD (y::t) 0=y:=rfl
     have h5:Az (w.drop (i+1)) t.length=some 0:=by
      rw [if_neg (by omega)] at h3
      rw [← h3]; congr 1; omega
     simp only [List.reverse_cons]
     simp (disch:=first|omega|simp only[vl];omega) only [AA,e3,e1,e2,Dv]
     refine ⟨(o++[y],t,n),⟨by simp; omega,by simp; omega,by simp; omega,h5,by rw [h4,e4]; simp⟩,rfl⟩
   ·rw [if_neg hv] at h3; cases h3
 ·obtain ⟨o,st,n⟩:=x
  obtain ⟨h1,h1b,h2,h3,h4⟩:=hP
  simp only at h4
  rw [List.drop_length] at h4
  simp only [DD,List.append_nil] at h4
  simp (disch:=first|omega|simp only[vl];omega) only [AA]
  simp [C2,ho,h4]
end Go.Cat
