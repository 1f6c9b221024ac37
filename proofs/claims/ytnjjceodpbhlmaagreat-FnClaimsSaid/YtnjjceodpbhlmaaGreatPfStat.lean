/-
 Numbers of paths: heights, returns, area, peaks, places of valleys, runs, depth.
-/
import Derived.Test.YtnjjceodpbhlmaaGreatPfMat
import Derived.Test.YtnjjceodpbhlmaaGreatIrHas
import Derived.Test.YtnjjceodpbhlmaaGreatPfPath
import Derived.Test.YtnjjceodpbhlmaaGreatCatFour
set_option linter.unusedSimpArgs false
set_option linter.unusedVariables false
namespace Go.Cat
variable {K:Nat→List D→List D→Prop}
theorem AQ6 {w:List Nat} {i:Nat}:Hh w i≤i∧-(i:Int)≤Hh w i:=by
 have h1:=Sa (w:=w.take i) (c:=117)
 have h2:=Sa (w:=w.take i) (c:=100)
 simp only [Hh]
 simp only [List.length_take] at h1 h2
 omega
def hL (w:List Nat):List Int:=(List.range (w.length+1)).map fun i=>Hh w i
end Go.Cat
namespace Go.Cat
variable {K:Nat→List D→List D→Prop}
end Go.Cat
namespace Go.Cat
variable {K:Nat→List D→List D→Prop}
def GF (p:List Int) (i:Nat):Prop:=∀ j:Nat,j<i→Ar 0 ((p.length:Int)-1) (AD p j)=true∧∀ k:Nat,k<j→AD p k≠AD p j
instance {p:List Int} {i:Nat}:Decidable (GF p i):=by unfold GF; infer_instance
def BF (p:List Int):Bool:=decide (p.length≤8)&&decide (GF p p.length)
theorem Nv {p:List Int} (h:¬ GF p p.length):BF p=false:=by simp [BF,h]
theorem IT {p:List Int} (h:BF p=true):p.length≤8∧GF p p.length:=by simpa [BF] using h
theorem Fk [HA K] {p:List Int} (h:p.length≤1099511627776):K 74 [LI p] [.b (BF p)]:=by
 refine AG (f:=LD) rfl ?_; simp only [LD,zu]
 by_cases hl:p.length≤8
 ·simp (disch:=omega) only [AA]
  refine CK (fun i (s:List Bool)=>s.length=p.length∧GF p i∧∀ x:Nat,x<p.length→(Da s x=true↔∃ j:Nat,j<i∧AD p j=x)) (fun i s=>[LI p,.u,LT s,.u,.u,LI p,.n p.length,.n i,.u,.u]) p.length (rep p.length false) ⟨by simp [rep],by simp [GF],by intro x hx; simp [Da,rep,hx]⟩ rfl (fun i s hi hP=>?_) (fun s hP=>?_)
  ·obtain ⟨h1,h2,h3⟩:=hP
   simp (disch:=omega) only [AA]
   cases hr:Ar 0 ((p.length:Int)-1) (AD p i)
   ·repeat (first | (refine AE (DW (K:=K)) rfl ?_; try simp (disch:=omega) only [AA,hr]))
    rw [Nv fun q=>by have:=(q i hi).1; rw [hr] at this; cases this]
   ·have hb:=BG.1 hr
    obtain ⟨n,hn⟩:=Fa hb.1
    have hnl:n<p.length:=by omega
    have h3n:=h3 n hnl
    cases ht:Da s (AD p i)
    ·repeat (first | (refine AE (DW (K:=K)) rfl ?_; try simp (disch:=omega) only [AA,hr,ht]))
     refine ⟨_,⟨by rw [GN,h1],CH h2 ⟨hr,fun k hk e=>?_⟩,fun x hx=>?_⟩,rfl⟩
     ·rw [hn] at ht
      have:=h3n.2 ⟨k,hk,by rw [e,hn]⟩
      rw [ht] at this; cases this
     ·rw [hn,AGI (by omega)]
      split
      ·rename_i e; subst e
       simp only [true_iff]
       exact ⟨i,by omega,hn⟩
      ·rename_i e
       rw [h3 x hx]
       constructor
       ·rintro ⟨j,hj,hj2⟩; exact ⟨j,by omega,hj2⟩
       ·rintro ⟨j,hj,hj2⟩
        refine ⟨j,?_,hj2⟩
        rcases CC j i with q | q
        ·exact q
        ·obtain rfl:j=i:=by omega
         rw [hn] at hj2; omega
    ·repeat (first | (refine AE (DW (K:=K)) rfl ?_; try simp (disch:=omega) only [AA,hr,ht]))
     rw [hn] at ht
     obtain ⟨j,hj,hj2⟩:=h3n.1 ht
     rw [Nv fun q=>(q i hi).2 j hj (by rw [hj2,hn])]
  ·obtain ⟨h1,h2,h3⟩:=hP
   simp (disch:=omega) only [AA]
   simp [BF,hl,h2]
 ·simp (disch:=omega) only [AA]
  simp [BF,hl]
theorem FU [HA K] {p:List Int} (h:p.length≤1099511627776):K 73 [LI p] [.b (BF p)]:=by
 refine AG (f:=M0) rfl ?_; simp only [M0,zu]
 simp (disch:=omega) only [AA]
 refine Ag (fun i=>GF p i) (fun i=>[LI p,.u,.n i,.u,.u,.u,.u,.u]) p.length (by simp [GF]) rfl (fun i hi hP=>?_) (fun hP=>?_)
 ·simp (disch:=omega) only [AA]
  cases hr:Ar 0 ((p.length:Int)-1) (AD p i)
  ·repeat (first | (refine AE (Cs (K:=K)) rfl ?_; try simp (disch:=omega) only [AA,hr]))
   rw [Nv fun q=>by have:=(q i hi).1; rw [hr] at this; cases this]
  ·repeat (first | (refine AE (Cs (K:=K)) rfl ?_; try simp (disch:=omega) only [AA,hr]))
   refine Ag (fun k=>∀ j:Nat,j<k→AD p j≠AD p i) (fun k=>[LI p,.u,.n i,.n k,.u,.u,.u,.u]) i (by simp) rfl (fun k hk hQ=>?_) (fun hQ=>?_)
   ·by_cases he:AD p k=AD p i
    ·simp (disch:=omega) only [AA]
     rw [Nv fun q=>(q i hi).2 k hk he]
    ·simp (disch:=omega) only [AA]
     exact CH hQ he
   ·simp (disch:=omega) only [AA]
    exact CH hP ⟨hr,hQ⟩
 ·by_cases hl:p.length≤8
  ·simp (disch:=omega) only [AA]
   simp [BF,hP,hl]
  ·simp (disch:=omega) only [AA]
   simp [BF,hl]
theorem K6 [HA K] {p:List Int} (h:p.length≤1000000000):K 75 [LI p] [LI p]:=by
 refine AG (f:=My) rfl ?_; simp only [My,zu]
 simp (disch:=first|omega|simp only[vl];omega) only [AA,GH]
end Go.Cat
namespace Go.Cat
variable {K:Nat→List D→List D→Prop}
def D1:Nat→List Nat
 | 0=>[]
 | n+1=>D1 ((n+1) / 10)++[48+(n+1) % 10]
decreasing_by omega
end Go.Cat
namespace Go.Cat
variable {K:Nat→List D→List D→Prop}
theorem KW {t:List Int} {y:Int}:AD (t++[y]) t.length=y:=by simp [AD]
theorem KT {t:List Int} {y:Int}:sub (t++[y]) 0 t.length=t:=by simp [sub]
end Go.Cat
namespace Go.Cat
variable {K:Nat→List D→List D→Prop}
def XK (p:List Int):Nat→Int→Int→Bool
 | 0,_,_=>false
 | f+1,v,t=>if v<0 then false else if v=t then true else XK p f (AD p v) t
def plV (p:List Int) (i:Nat):Prop:=∀ j:Nat,j<i→(j=0∧AD p 0=-1)∨(0<j∧XK p (j+1) ((j:Int)-1) (AD p j)=true)
instance {p:List Int} {i:Nat}:Decidable (plV p i):=by unfold plV; infer_instance
end Go.Cat
namespace Go.Cat
variable {K:Nat→List D→List D→Prop}
set_option maxRecDepth 100000
end Go.Cat
namespace Go.Cat
variable {K:Nat→List D→List D→Prop}
set_option maxRecDepth 100000
def apR (fuel:Nat) (w:List Nat) (up down:Nat):List (List Nat):=match fuel with
 | 0=>[]
 | f+1=>if down=0 then [w] else (if up > 0 then apR f (w++[117]) (up-1) down else [])++(if down > up then apR f (w++[100]) up (down-1) else [])
def DI (n:Nat):List (List Nat):=apR (2*n+1) [] n n
def EH (o:Option (List D)) (l:List (List Nat)):Bool:=match o with
 | some [.l xs]=>go xs l
 | _=>false
where
 go:List D→List (List Nat)→Bool
  | [],[]=>true
  | .s x::xs,y::l=>decide (x=y)&&go xs l
  | _,_=>false
theorem Vy:∀ {xs:List D} {l:List (List Nat)},EH.go xs l=true→xs=l.map D.s
 | [],[],_=>rfl
 | .s x::xs,y::l,h=>by
  simp only [EH.go,Ac,Aj] at h
  rw [Vy h.2,h.1]; rfl
 | [],_::_,h=>by simp [EH.go] at h
 | .s _::_,[],h=>by simp [EH.go] at h
 | .u::_,_,h=>by simp [EH.go] at h
 | .i _ _::_,_,h=>by simp [EH.go] at h
 | .b _::_,_,h=>by simp [EH.go] at h
 | .l _::_,_,h=>by simp [EH.go] at h
 | .g _::_,_,h=>by simp [EH.go] at h
 | .z::_,_,h=>by simp [EH.go] at h
 | .p _::_,_,h=>by simp [EH.go] at h
 | .f _ _::_,_,h=>by simp [EH.go] at h
theorem Vx {o:Option (List D)} {l:List (List Nat)} (h:EH o l=true):o=some [LS l]:=by
 unfold EH at h
 split at h
 ·rw [Vy h]; rfl
 ·cases h
abbrev ACQ:List (Nat×IF):=[(234,Ny),(292,OW),(22,JK)]
theorem prs0:Ez 7 (fun n=>EH (Ji (JL ACQ) 60 20 234 [.n n]) (DI n))=true:=by kernel_rfl
theorem pl_s [HA K] {n:Nat} (h:n<7):K 234 [.n n] [LS (DI n)]:=run ACQ 60 20 234 (Vx (Ep prs0 n h))
abbrev VG:List (Nat×IF):=[(314,OK),(326,Oy)]
theorem ap0:Ez 7 (fun n=>EH (Ji (JL VG) 60 20 314 [.n n]) (DI n))=true:=by kernel_rfl
theorem ap_i [HA K] {n:Nat} (h:n<7):K 314 [.n n] [LS (DI n)]:=run VG 60 20 314 (Vx (Ep ap0 n h))
theorem ACT:Ez 7 (fun m=>((DI m).all fun w=>BW w&&decide (w.length=2*m))&&decide ((DI m).length≤132))=true:=by kernel_rfl
theorem OI {n:Nat} (h:n<7) {w:List Nat} (hw:w∈DI n):BW w=true∧w.length=2*n:=by
 have:=Ep ACT n h
 simp only [Ac] at this
 have:=BD.1 this.1 w hw
 simpa using this
theorem apl {n:Nat} (h:n<7):(DI n).length≤132:=by
 have:=Ep ACT n h
 simp only [Ac,Aj] at this
 exact this.2
end Go.Cat
