/-
 Drawn paths.
-/
import Derived.Test.YtnjjceodpbhlmaaGreatPfRankA
import Derived.Test.YtnjjceodpbhlmaaGreatIrHas
import Derived.Test.YtnjjceodpbhlmaaGreatPfStat
import Derived.Test.YtnjjceodpbhlmaaGreatPfPart
import Derived.Test.YtnjjceodpbhlmaaGreatPfTxt
set_option linter.unusedSimpArgs false
set_option linter.unusedVariables false
namespace Go.Cat
variable {K:Nat→List D→List D→Prop}
theorem AKD [HA K] {d:D} (hd:BJ d) {n:Int} (hn:n≤1000):∃ rs,(∃ x d',rs=[.s x,d']∧(x.length:Int)≤2*max n 0∧BJ d')∧K 306 [d,.n n] rs:=by
 refine Bg (f:=I7) rfl ?_; simp only [I7,zu]
 simp (disch:=first|omega|simp only[vl];omega) only [AA]
 refine B9 (fun (q:D×List Nat×Int×Int)=>BJ q.1∧(0≤q.2.2.1∧q.2.2.1≤max n 0∧0≤q.2.2.2∧q.2.2.2≤max n 0)∧(q.2.1.length:Int)=q.2.2.1+q.2.2.2) (fun q=>[q.1,.n n,.u,.s q.2.1,.n q.2.2.1,.n q.2.2.2,.u,.u]) (fun q=>(2*max n 0-q.2.2.1-q.2.2.2).toNat) (d,[],0,0) ⟨hd,by simp; omega,by simp⟩ rfl ?_
 rintro ⟨d1,x,u,v⟩ ⟨hd1,hr,hx⟩
 simp only at hd1 hr hx ⊢
 by_cases h0:v<n
 ·by_cases h1:u<n
  ·by_cases h2:u=v
   ·simp (disch:=first|omega|simp only[vl];omega) only [AA,h2]
    exact ⟨(d1,x++[117],v+1,v),by simp only []; omega,⟨hd1,by simp only []; omega,by simp; omega⟩,rfl⟩
   ·obtain ⟨_,⟨b,d2,rfl,hd2⟩,k2⟩:=Fw (K:=K) hd1 (n:=2)
    simp (disch:=first|omega|simp only[vl];omega) only [AA]
    refine AE (k2) rfl ?_
    cases b
    ·simp (disch:=first|omega|simp only[vl];omega) only [AA]
     exact ⟨(d2,x++[100],u,v+1),by simp only []; omega,⟨hd2,by simp only []; omega,by simp; omega⟩,rfl⟩
    ·simp (disch:=first|omega|simp only[vl];omega) only [AA]
     exact ⟨(d2,x++[117],u+1,v),by simp only []; omega,⟨hd2,by simp only []; omega,by simp; omega⟩,rfl⟩
  ·simp (disch:=first|omega|simp only[vl];omega) only [AA]
   exact ⟨(d1,x++[100],u,v+1),by simp only []; omega,⟨hd1,by simp only []; omega,by simp; omega⟩,rfl⟩
 ·simp (disch:=first|omega|simp only[vl];omega) only [AA]
  exact ⟨x,d1,rfl,by omega,hd1⟩
theorem AKX [HA K] {d:D} (hd:BJ d):∃ rs,(∃ x d',rs=[.s x,d']∧x.length≤12∧BJ d')∧K 317 [d] rs:=by
 refine Bg (f:=Is) rfl ?_; simp only [Is,zu]
 obtain ⟨_,⟨n,d1,rfl,hn,hd1⟩,k1⟩:=CQ (K:=K) hd (n:=7)
 have hn:=hn.2 (by omega)
 obtain ⟨_,⟨x,d2,rfl,hx,hd2⟩,k2⟩:=AKD (K:=K) hd1 (n:=n) (by omega)
 simp (disch:=omega) only [AA]
 refine AE (k1) rfl ?_
 simp (disch:=omega) only [AA]
 refine AE (k2) rfl ?_
 simp (disch:=omega) only [AA]
 exact ⟨_,_,rfl,by omega,hd2⟩
end Go.Cat
namespace Go.Cat
variable {K:Nat→List D→List D→Prop}
set_option maxRecDepth 100000
end Go.Cat
namespace Go.Cat
variable {K:Nat→List D→List D→Prop}
open Classical in
noncomputable def Hb (w:List Nat):List Int:=if h:∃ m,PP w m then h.choose else []
theorem AL3 {w:List Nat} {m:List Int} (h:PP w m):Hb w=m:=by
 have h2:∃ m,PP w m:=⟨m,h⟩
 simp only [Hb,dif_pos h2]
 exact AQ1 h2.choose_spec h
end Go.Cat
namespace Go.Cat
variable {K:Nat→List D→List D→Prop}
def pat (p:List Int) (i j k:Nat):Prop:=i<j∧j<k∧k<p.length∧AD p k<AD p i∧AD p i<AD p j
def first (p:List Int) (t:Nat×Nat×Nat):Prop:=pat p t.1 t.2.1 t.2.2∧∀ i j k,pat p i j k→¬ (i<t.1∨(i=t.1∧(j<t.2.1∨(j=t.2.1∧k<t.2.2))))
theorem AJS {p:List Int} {t u:Nat×Nat×Nat} (h:first p t) (g:first p u):t=u:=by
 obtain ⟨a,b,c⟩:=t
 obtain ⟨d,e,f⟩:=u
 have h1:=h.2 d e f g.1
 have h2:=g.2 a b c h.1
 simp only at h1 h2
 have:a=d:=by omega
 have:b=e:=by omega
 have:c=f:=by omega
 simp_all
open Classical in
noncomputable def En (p:List Int):Bool:=BF p&&decide (∃ t,first p t)
open Classical in
noncomputable def E3 (p:List Int):List Int:=if h:BF p=true∧∃ t,first p t then [(h.2.choose.1:Int),h.2.choose.2.1,h.2.choose.2.2] else []
theorem ACW {p:List Int} {i j k:Nat} (hp:BF p=true) (h:first p (i,j,k)):En p=true∧E3 p=[(i:Int),j,k]:=by
 have hx:∃ t,first p t:=⟨_,h⟩
 refine ⟨by simp [En,hp,hx],?_⟩
 unfold E3
 rw [dif_pos ⟨hp,hx⟩]
 have:=AJS (Exists.choose_spec (⟨hp,hx⟩:BF p=true∧∃ t,first p t).2) h
 rw [this]
theorem XG {p:List Int} (h:∀ i j k,¬ pat p i j k):En p=false∧E3 p=[]:=by
 have hx:¬ ∃ t,first p t:=fun ⟨t,ht⟩=>h _ _ _ ht.1
 refine ⟨by simp [En,hx],?_⟩
 unfold E3
 rw [dif_neg (fun q=>hx q.2)]
theorem Ok {p:List Int} (h:BF p=false):En p=false∧E3 p=[]:=by
 refine ⟨by simp [En,h],?_⟩
 unfold E3
 rw [dif_neg (fun q=>by rw [h] at q; cases q.1)]
theorem AJY {p:List Int}:(E3 p).length≤3:=by unfold E3; split <;> simp
theorem AG3 [HA K] {p:List Int} (h:p.length≤1048576):K 50 [LI p] [LI (E3 p),.b (En p)]:=by
 refine AG (f:=MQ) rfl ?_; simp only [MQ,zu]
 simp (disch:=omega) only [AA]
 cases hp:BF p
 ·repeat (first | (refine AE (Fk (K:=K) (by omega)) rfl ?_; try simp (disch:=omega) only [AA,hp]))
  obtain ⟨e1,e2⟩:=Ok hp
  rw [e1,e2]; rfl
 ·repeat (first | (refine AE (Fk (K:=K) (by omega)) rfl ?_; try simp (disch:=omega) only [AA,hp]))
  refine Ag (fun i=>∀ a:Nat,a<i→∀ b c,¬ pat p a b c) (fun i=>[LI p,.u,.u,.u,.u,.u,.u,.n p.length,.n i,.u,.u,.u,.u]) p.length (by simp) rfl (fun i hi hP=>?_) (fun hP=>?_)
  ·simp (disch:=omega) only [AA]
   refine Ag (fun m=>∀ b:Nat,b<m→∀ c,¬ pat p i (i+1+b) c) (fun m=>[LI p,.u,.u,.n i,.n ((i:Int)+1+m),.u,.u,.n p.length,.n i,.u,.u,.u,.u]) (p.length-(i+1)) (by simp) (by simp (disch:=omega) only [AA,Int.add_zero]) (fun m hm hQ=>?_) (fun hQ=>?_)
   ·simp (disch:=omega) only [AA]
    refine Ag (fun k=>∀ c:Nat,c<k→¬ pat p i (i+1+m) (i+1+m+1+c)) (fun k=>[LI p,.u,.u,.n i,.n ((i:Int)+1+m),.n ((i:Int)+1+m+1+k),.u,.n p.length,.n i,.u,.u,.u,.u]) (p.length-(i+1+m+1)) (by simp) (by simp (disch:=omega) only [AA,Int.add_zero]) (fun k hk hR=>?_) (fun hR=>?_)
    ·by_cases h1:AD p ((i:Int)+1+m+1+k)<AD p i <;> by_cases h2:AD p i<AD p ((i:Int)+1+m)
     ·simp (disch:=omega) only [AA]
      have hf:first p (i,i+1+m,i+1+m+1+k):=by
       refine ⟨⟨by show i<i+1+m; omega,by show i+1+m<i+1+m+1+k; omega,by show i+1+m+1+k<p.length; omega,?_,?_⟩,?_⟩
       ·exact_mod_cast h1
       ·exact_mod_cast h2
       ·rintro a b c hq hlt
        simp only at hlt
        rcases hlt with hlt | ⟨rfl,hlt | ⟨rfl,hlt⟩⟩
        ·exact hP a hlt b c hq
        ·have:=hq.1
         have hb:=hQ (b-(a+1)) (by omega) c
         rw [show a+1+(b-(a+1))=b by omega] at hb
         exact hb hq
        ·have:=hq.2.1
         have hb:=hR (c-(a+1+m+1)) (by omega)
         rw [show a+1+m+1+(c-(a+1+m+1))=c by omega] at hb
         exact hb hq
      obtain ⟨e1,e2⟩:=ACW hp hf
      rw [e1,e2]
      rfl
     all_goals
      simp (disch:=omega) only [AA,← Int.add_assoc]
      refine CH hR fun hq=>?_
      have q1:=hq.2.2.2.1
      have q2:=hq.2.2.2.2
      have e1:(((i+1+m+1+k:Nat)):Int)=(i:Int)+1+m+1+k:=by omega
      have e2:(((i+1+m:Nat)):Int)=(i:Int)+1+m:=by omega
      rw [e1] at q1
      rw [e2] at q2
      omega
    ·simp (disch:=omega) only [AA,← Int.add_assoc]
     refine CH hQ fun c hq=>?_
     have q1:=hq.2.1
     have q2:=hq.2.2.1
     have hb:=hR (c-(i+1+m+1)) (by omega)
     rw [show i+1+m+1+(c-(i+1+m+1))=c by omega] at hb
     exact hb hq
   ·simp (disch:=omega) only [AA]
    refine CH hP fun b c hq=>?_
    have q1:=hq.1
    have q2:=hq.2.1
    have q3:=hq.2.2.1
    have hb:=hQ (b-(i+1)) (by omega) c
    rw [show i+1+(b-(i+1))=b by omega] at hb
    exact hb hq
  ·simp (disch:=omega) only [AA]
   obtain ⟨e1,e2⟩:=XG (p:=p) fun a b c hq=>hP a (by have:=hq.1; have:=hq.2.1; have:=hq.2.2.1; omega) b c hq
   rw [e1,e2]; rfl
theorem AE8 [HA K] {p:List Int} (h:p.length≤1048576):K 49 [LI p] [LI (E3 p),.b (En p)]:=by
 refine AG (f:=Nm) rfl ?_; simp only [Nm,zu]
 simp (disch:=omega) only [AA]
 cases hp:BF p
 ·refine Ag (fun _=>False∨True) (fun i=>[LI p,.u,.u,.n i,.u,.u,.u,.u,.u,.u]) p.length (by simp) rfl (fun i hi _=>?_) (fun _=>?_)
  ·simp (disch:=omega) only [AA]
   repeat (first | (refine AE (FU (K:=K) (by omega)) rfl ?_; try simp (disch:=omega) only [AA,hp]))
   obtain ⟨e1,e2⟩:=Ok hp
   rw [e1,e2]; rfl
  ·simp (disch:=omega) only [AA]
   obtain ⟨e1,e2⟩:=Ok hp
   rw [e1,e2]; rfl
 ·refine Ag (fun i=>∀ a:Nat,a<i→∀ b c,¬ pat p a b c) (fun i=>[LI p,.u,.u,.n i,.u,.u,.u,.u,.u,.u]) p.length (by simp) rfl (fun i hi hP=>?_) (fun hP=>?_)
  ·simp (disch:=omega) only [AA]
   repeat (first | (refine AE (FU (K:=K) (by omega)) rfl ?_; try simp (disch:=omega) only [AA,hp]))
   refine Ag (fun m=>∀ b:Nat,b<m→∀ c,¬ pat p i (i+1+b) c) (fun m=>[LI p,.u,.u,.n i,.n ((i:Int)+1+m),.u,.u,.u,.u,.u]) (p.length-(i+1)) (by simp) (by simp (disch:=omega) only [AA,Int.add_zero]) (fun m hm hQ=>?_) (fun hQ=>?_)
   ·simp (disch:=omega) only [AA]
    refine Ag (fun k=>∀ c:Nat,c<k→¬ pat p i (i+1+m) (i+1+m+1+c)) (fun k=>[LI p,.u,.u,.n i,.n ((i:Int)+1+m),.n ((i:Int)+1+m+1+k),.u,.u,.u,.u]) (p.length-(i+1+m+1)) (by simp) (by simp (disch:=omega) only [AA,Int.add_zero]) (fun k hk hR=>?_) (fun hR=>?_)
    ·by_cases h1:AD p ((i:Int)+1+m+1+k)<AD p i <;> by_cases h2:AD p i<AD p ((i:Int)+1+m)
     ·simp (disch:=omega) only [AA]
      have hf:first p (i,i+1+m,i+1+m+1+k):=by
       refine ⟨⟨by show i<i+1+m; omega,by show i+1+m<i+1+m+1+k; omega,by show i+1+m+1+k<p.length; omega,?_,?_⟩,?_⟩
       ·exact_mod_cast h1
       ·exact_mod_cast h2
       ·rintro a b c hq hlt
        simp only at hlt
        rcases hlt with hlt | ⟨rfl,hlt | ⟨rfl,hlt⟩⟩
        ·exact hP a hlt b c hq
        ·have:=hq.1
         have hb:=hQ (b-(a+1)) (by omega) c
         rw [show a+1+(b-(a+1))=b by omega] at hb
         exact hb hq
        ·have:=hq.2.1
         have hb:=hR (c-(a+1+m+1)) (by omega)
         rw [show a+1+m+1+(c-(a+1+m+1))=c by omega] at hb
         exact hb hq
      obtain ⟨e1,e2⟩:=ACW hp hf
      rw [e1,e2]
      rfl
     all_goals
      simp (disch:=omega) only [AA,← Int.add_assoc]
      refine CH hR fun hq=>?_
      have q1:=hq.2.2.2.1
      have q2:=hq.2.2.2.2
      have e1:(((i+1+m+1+k:Nat)):Int)=(i:Int)+1+m+1+k:=by omega
      have e2:(((i+1+m:Nat)):Int)=(i:Int)+1+m:=by omega
      rw [e1] at q1
      rw [e2] at q2
      omega
    ·simp (disch:=omega) only [AA,← Int.add_assoc]
     refine CH hQ fun c hq=>?_
     have q1:=hq.2.1
     have q2:=hq.2.2.1
     have hb:=hR (c-(i+1+m+1)) (by omega)
     rw [show i+1+m+1+(c-(i+1+m+1))=c by omega] at hb
     exact hb hq
   ·simp (disch:=omega) only [AA]
    refine CH hP fun b c hq=>?_
    have q1:=hq.1
    have q2:=hq.2.1
    have q3:=hq.2.2.1
    have hb:=hQ (b-(i+1)) (by omega) c
    rw [show i+1+(b-(i+1))=b by omega] at hb
    exact hb hq
  ·simp (disch:=omega) only [AA]
   obtain ⟨e1,e2⟩:=XG (p:=p) fun a b c hq=>hP a (by have:=hq.1; have:=hq.2.1; have:=hq.2.2.1; omega) b c hq
   rw [e1,e2]; rfl
end Go.Cat
