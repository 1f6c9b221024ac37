/-
 Every claim that is made is accepted, and what is accepted is true.
-/
import Derived.Test.YtnjjceodpbhlmaaGreatPfClJ
import Derived.Test.YtnjjceodpbhlmaaGreatPfClK
import Derived.Test.YtnjjceodpbhlmaaGreatIrHas
set_option linter.unusedSimpArgs false
set_option linter.unusedVariables false
namespace Go.Cat
variable {K:Nat→List D→List D→Prop}
set_option maxRecDepth 100000
theorem YR [HA K] {code:List Nat} (h:code.length≤1048576) {m:Int} (hm:0≤m∧m≤6):∃ rs,(∃ a b,rs=[.s a,.s b]∧a.length≤100∧b.length≤100)∧K 640 [LB code,.n m] rs:=by
 refine Bg (f:=Mn) rfl ?_; simp only [Mn,zu]
 obtain ⟨_,⟨d,rfl,hd⟩,k1⟩:=I1 (K:=K) h
 obtain ⟨_,⟨a,b,d2,rfl,hab,hd2⟩,k2⟩:=S2 (K:=K) hd hm
 simp (disch:=omega) only [AA]
 refine AE (k1) rfl ?_
 simp (disch:=omega) only [AA]
 refine AE (k2) rfl ?_
 simp (disch:=omega) only [AA]
 exact ⟨_,_,rfl,hab⟩
theorem AHV [HA K] {code:List Nat} (h:code.length≤1048576):∃ rs,(∃ a b,rs=[.s a,.s b]∧a.length≤100∧b.length≤100)∧K 627 [LB code] rs:=by
 refine Bg (f:=NC) rfl ?_; simp only [NC,zu]
 obtain ⟨_,⟨a,b,rfl,hab⟩,k1⟩:=YR (K:=K) h (m:=5) (by omega)
 simp (disch:=omega) only [AA]
 refine AE (k1) rfl ?_
 simp (disch:=omega) only [AA]
 exact ⟨_,_,rfl,hab⟩
theorem ALB [HA K] {code:List Nat} (h:code.length≤1048576):∃ rs,(∃ a b,rs=[.s a,.s b]∧a.length≤100∧b.length≤100)∧K 628 [LB code] rs:=by
 refine Bg (f:=Mu) rfl ?_; simp only [Mu,zu]
 obtain ⟨_,⟨a,b,rfl,hab⟩,k1⟩:=YR (K:=K) h (m:=5) (by omega)
 simp (disch:=omega) only [AA]
 refine AE (k1) rfl ?_
 simp (disch:=omega) only [AA]
 exact ⟨_,_,rfl,hab⟩
theorem AOK [HA K] {code:List Nat} (h:code.length≤1048576):∃ rs,(∃ p,rs=[LI p]∧p.length≤6)∧K 629 [LB code] rs:=by
 refine Bg (f:=Kw) rfl ?_; simp only [Kw,zu]
 obtain ⟨_,⟨d,rfl,hd⟩,k1⟩:=I1 (K:=K) h
 obtain ⟨_,⟨p,d2,rfl,hp,hd2⟩,k2⟩:=Uq (K:=K) hd
 simp (disch:=omega) only [AA]
 refine AE (k1) rfl ?_
 simp (disch:=omega) only [AA]
 refine AE (k2) rfl ?_
 simp (disch:=omega) only [AA]
 exact ⟨_,rfl,hp⟩
theorem AK5 [HA K] {code:List Nat} (h:code.length≤1048576):∃ rs,(∃ p,rs=[LI p]∧p.length≤9)∧K 630 [LB code] rs:=by
 refine Bg (f:=Mb) rfl ?_; simp only [Mb,zu]
 obtain ⟨_,⟨d,rfl,hd⟩,k1⟩:=I1 (K:=K) h
 obtain ⟨_,⟨p,d2,rfl,hp,hd2⟩,k2⟩:=WC (K:=K) hd
 simp (disch:=omega) only [AA]
 refine AE (k1) rfl ?_
 simp (disch:=omega) only [AA]
 refine AE (k2) rfl ?_
 simp (disch:=omega) only [AA]
 exact ⟨_,rfl,hp⟩
theorem APS [HA K] {code:List Nat} (h:code.length≤1048576):∃ rs,(∃ p,rs=[LI p]∧p.length≤16)∧K 631 [LB code] rs:=by
 refine Bg (f:=Mr) rfl ?_; simp only [Mr,zu]
 obtain ⟨_,⟨d,rfl,hd⟩,k1⟩:=I1 (K:=K) h
 obtain ⟨_,⟨p,d2,rfl,hp,hd2⟩,k2⟩:=AP3 (K:=K) hd
 simp (disch:=omega) only [AA]
 refine AE (k1) rfl ?_
 simp (disch:=omega) only [AA]
 refine AE (k2) rfl ?_
 simp (disch:=omega) only [AA]
 exact ⟨_,rfl,hp⟩
theorem AQ9 [HA K] {code:List Nat} (h:code.length≤1048576):∃ rs,(∃ x:Int,rs=[.n x])∧K 634 [LB code] rs:=by
 refine Bg (f:=No) rfl ?_; simp only [No,zu]
 obtain ⟨_,⟨d,rfl,hd⟩,k1⟩:=I1 (K:=K) h
 obtain ⟨_,⟨x,d2,rfl,hx,hd2⟩,k2⟩:=CQ (K:=K) hd (n:=9)
 have hx:=hx.2 (by omega)
 simp (disch:=omega) only [AA]
 refine AE (k1) rfl ?_
 simp (disch:=omega) only [AA]
 refine AE (k2) rfl ?_
 simp (disch:=omega) only [AA]
 exact ⟨_,rfl⟩
theorem AO6 [HA K] [Cm K 201 C7] [HA K] [CZ K] {code:List Nat} (h:code.length≤1048576):∃ rs,(∃ (k:Int) (f s:List Nat) (t:List (List Nat)) (n o:List Int) (r:List (List Int)),rs=[CL k f s t n o r]∧CX f s t n o r)∧K 632 [LB code] rs:=by
 -- refine Bg (f:=Ix) rfl ?_; simp only [Ix,zu]
 refine Bg (f:=Ix) rfl ?_ (fun rs h=>?_)
 case' refine_2=>
  obtain ⟨_,_,_,_,_,_,_,rfl,_⟩:=h
  rfl
 simp only [Ix,zu]
 obtain ⟨_,⟨d,rfl,hd⟩,k1⟩:=I1 (K:=K) h
 obtain ⟨_,⟨k,f,s,t,n,o,r,d2,rfl,hc,hd2⟩,k2⟩:=UJ (K:=K) hd
 simp (disch:=omega) only [AA]
 refine AE (k1) rfl ?_
 simp (disch:=omega) only [AA]
 refine AE (k2) rfl ?_
 simp (disch:=omega) only [AA,Ah,An]
 exact ⟨_,_,_,_,_,_,_,rfl,hc⟩
theorem AKK [HA K] [Cm K 201 C7] [HA K] [CZ K] {code:List Nat} (h:code.length≤1048576):∃ rs,(∃ (k:Int) (f s:List Nat) (t:List (List Nat)) (n o:List Int) (r:List (List Int)) (k':Int) (f' s':List Nat) (t':List (List Nat)) (n' o':List Int) (r':List (List Int)),rs=[CL k f s t n o r,CL k' f' s' t' n' o' r']∧CX f s t n o r)∧K 633 [LB code] rs:=by
 -- refine Bg (f:=Ij) rfl ?_; simp only [Ij,zu]
 refine Bg (f:=Ij) rfl ?_ (fun rs h=>?_)
 case' refine_2=>
  obtain ⟨_,_,_,_,_,_,_,_,_,_,_,_,_,_,rfl,_⟩:=h
  rfl
 simp only [Ij,zu]
 obtain ⟨_,⟨d,rfl,hd⟩,k1⟩:=I1 (K:=K) h
 obtain ⟨_,⟨k,f,s,t,n,o,r,d2,rfl,hc,hd2⟩,k2⟩:=UJ (K:=K) hd
 obtain ⟨_,⟨b,d3,rfl,hd3⟩,k3⟩:=Fw (K:=K) hd2 (n:=2)
 simp (disch:=omega) only [AA]
 refine AE (k1) rfl ?_
 simp (disch:=omega) only [AA]
 refine AE (k2) rfl ?_
 simp (disch:=omega) only [AA,Ah,An]
 refine AE (k3) rfl ?_
 cases b
 ·obtain ⟨_,⟨k',f',s',t',n',o',r',d4,rfl,hc',hd4⟩,k4⟩:=UJ (K:=K) hd3
  simp (disch:=omega) only [AA,Ah,An]
  refine AE (k4) rfl ?_
  simp (disch:=omega) only [AA,Ah,An]
  exact ⟨_,_,_,_,_,_,_,_,_,_,_,_,_,_,rfl,hc⟩
 ·simp (disch:=omega) only [AA,Ah,An]
  exact ⟨_,_,_,_,_,_,_,_,_,_,_,_,_,_,rfl,hc⟩
end Go.Cat
