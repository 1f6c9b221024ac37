/-
 Claims drawn.
-/
import Derived.Test.YtnjjceodpbhlmaaGreatPfClE
import Derived.Test.YtnjjceodpbhlmaaGreatPfClI
import Derived.Test.YtnjjceodpbhlmaaGreatIrHas
set_option linter.unusedSimpArgs false
set_option linter.unusedVariables false
namespace Go.Cat
variable {K:Nat→List D→List D→Prop}
set_option maxRecDepth 100000
theorem spOr [HA K] [Cm K 201 C7] [HA K] [CZ K] (a b:List Nat):∃ (k:Int) (f s:List Nat) (t:List (List Nat)) (n o:List Int) (r:List (List Int)) (w:Bool),CX f s t n o r∧K 339 [.s a,.s b] [CL k f s t n o r,.b w]:=by
 obtain ⟨k,f,s,t,w,h,_,h2,_⟩:=mkOr (K:=K) a b
 exact ⟨k,f,s,t,[],[],[],w,h,h2⟩
theorem spDi [HA K] [Cm K 201 C7] [HA K] [CZ K] (a b:List Nat):∃ (k:Int) (f s:List Nat) (t:List (List Nat)) (n o:List Int) (r:List (List Int)) (w:Bool),CX f s t n o r∧K 337 [.s a,.s b] [CL k f s t n o r,.b w]:=by
 obtain ⟨k,f,s,t,w,h,_,h2,_⟩:=Ug (K:=K) a b
 exact ⟨k,f,s,t,[],[],[],w,h,h2⟩
theorem spSo [HA K] {p:List Int} (h6:p.length≤6):∃ (k:Int) (f s:List Nat) (t:List (List Nat)) (n o:List Int) (r:List (List Int)) (w:Bool),CX f s t n o r∧K 120 [LI p] [CL k f s t n o r,.b w]:=by
 obtain ⟨h,_,h2,_⟩:=AF8 (K:=K) h6
 exact ⟨_,_,_,_,_,_,_,_,h,h2⟩
theorem spFr [HA K] {q:List Int} (h9:q.length≤9):∃ (k:Int) (f s:List Nat) (t:List (List Nat)) (n o:List Int) (r:List (List Int)) (w:Bool),CX f s t n o r∧K 335 [LI q] [CL k f s t n o r,.b w]:=
 ⟨_,_,_,_,_,_,_,_,Tn h9,AF3 (K:=K) (by omega)⟩
theorem spMe [HA K] {a:List Int} (h:a.length≤16):∃ (k:Int) (f s:List Nat) (t:List (List Nat)) (n o:List Int) (r:List (List Int)) (w:Bool),CX f s t n o r∧K 333 [LI a] [CL k f s t n o r,.b w]:=by
 obtain ⟨r,h1,_,h2,_⟩:=U4 (K:=K) h
 exact ⟨_,_,_,_,_,_,_,_,h1,h2⟩
theorem CX.seN {f s:List Nat} {t:List (List Nat)} {n o:List Int} {r:List (List Int)} {i y:Int} (h:CX f s t n o r):CX f s t (Aw n i y) o r:=⟨h.lf,h.ls,h.lt,by rw [Eg]; exact h.ln,h.lo,h.lr,h.lrs⟩
theorem CX.seO {f s:List Nat} {t:List (List Nat)} {n o:List Int} {r:List (List Int)} {i y:Int} (h:CX f s t n o r):CX f s t n (Aw o i y) r:=⟨h.lf,h.ls,h.lt,h.ln,by rw [Eg]; exact h.lo,h.lr,h.lrs⟩
theorem CX.suT {f s:List Nat} {t:List (List Nat)} {n o:List Int} {r:List (List Int)} {i j:Int} (h:CX f s t n o r):CX f s (sub t i j) n o r:=⟨h.lf,h.ls,by
 have:(sub t i j).length≤t.length:=by simp [sub]; omega
 have:=h.lt
 omega,h.ln,h.lo,h.lr,h.lrs⟩
theorem AIC {t:List (List Nat)} (h:1≤t.length):De (LS t) (some (.n 1)) none=some (LS (sub t 1 t.length)):=by
 rw [LS,GU D.s (EI (show (0:Int)≤1 by omega)) HV (by omega) (by omega)]; rfl
theorem ASE {a b c d e f g:D} {x:D}:Aa [3] (.g [a,b,c,d,e,f,g]) x=some (.g [a,b,c,x,e,f,g]):=rfl
theorem AI7 {a b c d e g:D} {n:List Int} {y:Int} (h:0<n.length):Aa [4,0] (.g [a,b,c,d,LI n,e,g]) (.n y)=some (.g [a,b,c,d,LI (Aw n 0 y),e,g]):=by
 cases n with
 | nil=>cases h
 | cons x n=>simp [Aa,LI,Aw]
theorem AHJ {a b c d e g:D} {n:List Int} {y:Int} (h:0<n.length):Aa [5,0] (.g [a,b,c,d,e,LI n,g]) (.n y)=some (.g [a,b,c,d,e,LI (Aw n 0 y),g]):=by
 cases n with
 | nil=>cases h
 | cons x n=>simp [Aa,LI,Aw]
set_option maxHeartbeats 4000000 in
theorem UJ [HA K] [Cm K 201 C7] [HA K] [CZ K] {d:D} (hd:BJ d):∃ rs,(∃ (k:Int) (f s:List Nat) (t:List (List Nat)) (n o:List Int) (r:List (List Int)) (d':D),rs=[CL k f s t n o r,d']∧CX f s t n o r∧BJ d')∧K 643 [d] rs:=by
 -- refine Bg (f:=Io) rfl ?_; simp only [Io,zu]
 refine Bg (f:=Io) rfl ?_ (fun rs h=>?_)
 case' refine_2=>
  obtain ⟨_,_,_,_,_,_,_,_,rfl,_⟩:=h
  rfl
 simp only [Io,zu]
 obtain ⟨_,⟨m,d1,rfl,hm,hd1⟩,k1⟩:=CQ (K:=K) hd (n:=6)
 have hm:=hm.2 (by omega)
 have hm6:m=0∨m=1∨(m=2∨m=3)∨m=4∨m=5:=by omega
 simp (disch:=omega) only [AA,NP]
 refine AE (k1) rfl ?_
 simp (disch:=omega) only [AA]
 rcases hm6 with h0 | h0 | h0 | h0 | h0
 case' inl=>
  obtain ⟨_,⟨a,b,d4,rfl,_,hd4⟩,k2⟩:=S2 (K:=K) hd1 (m:=5) (by omega)
  obtain ⟨k,f,s,t,n,o,r,w,hc,k3⟩:=spOr (K:=K) a b
  simp (disch:=omega) only [AA,h0]
  refine AE (k2) rfl ?_
  simp (disch:=omega) only [AA]
  refine AE (k3) rfl ?_
 case' inr.inl=>
  obtain ⟨_,⟨a,b,d4,rfl,_,hd4⟩,k2⟩:=S2 (K:=K) hd1 (m:=4) (by omega)
  obtain ⟨k,f,s,t,n,o,r,w,hc,k3⟩:=spDi (K:=K) a b
  simp (disch:=omega) only [AA,h0]
  refine AE (k2) rfl ?_
  simp (disch:=omega) only [AA]
  refine AE (k3) rfl ?_
 case' inr.inr.inl=>
  obtain ⟨_,⟨p,d4,rfl,hp,hd4⟩,k2⟩:=Uq (K:=K) hd1
  obtain ⟨k,f,s,t,n,o,r,w,hc,k3⟩:=spSo (K:=K) hp
  rcases h0 with h0 | h0
  all_goals
   simp (disch:=omega) only [AA,h0]
   refine AE (k2) rfl ?_
   simp (disch:=omega) only [AA]
   refine AE (k3) rfl ?_
 case' inr.inr.inr.inl=>
  obtain ⟨_,⟨q,d4,rfl,hq,hd4⟩,k2⟩:=WC (K:=K) hd1
  obtain ⟨k,f,s,t,n,o,r,w,hc,k3⟩:=spFr (K:=K) hq
  simp (disch:=omega) only [AA,h0]
  refine AE (k2) rfl ?_
  simp (disch:=omega) only [AA]
  refine AE (k3) rfl ?_
 case' inr.inr.inr.inr=>
  obtain ⟨_,⟨x,d2,rfl,hx,hd2⟩,k2⟩:=CQ (K:=K) hd1 (n:=4)
  have hx:=hx.2 (by omega)
  obtain ⟨_,⟨v,d4,rfl,hv,hd4⟩,k4⟩:=Pg (K:=K) hd2 (n:=1+x) (by omega)
  obtain ⟨ma,hma,k5⟩:=Xp (K:=K) hv.1
  obtain ⟨k,f,s,t,n,o,r,w,hc,k3⟩:=spMe (K:=K) hma
  simp (disch:=omega) only [AA,h0]
  refine AE (k2) rfl ?_
  simp (disch:=omega) only [AA]
  refine AE (k4) rfl ?_
  simp (disch:=omega) only [AA]
  refine AE (k5) rfl ?_
  simp (disch:=omega) only [AA]
  refine AE (k3) rfl ?_
 all_goals
  have hn:=hc.ln
  have ho:=hc.lo
  have ht:=hc.lt
  obtain ⟨_,⟨z,d5,rfl,hz,hd5⟩,k8⟩:=CQ (K:=K) hd4 (n:=7)
  have hz:=hz.2 (by omega)
  obtain ⟨_,⟨y1,e1,rfl,_,he1⟩,p1⟩:=Mo (K:=K) hd5 (l:=[0,1,2,-1]) (by simp) (by simp)
  obtain ⟨_,⟨y2,e2,rfl,_,he2⟩,p2⟩:=CQ (K:=K) hd5 (n:=8)
  obtain ⟨_,⟨y3,e3,rfl,_,he3⟩,p3⟩:=Mo (K:=K) hd5 (l:=[0,1,-1,9]) (by simp) (by simp)
  simp (disch:=omega) only [AA,Ah,An,AU,AV,A4]
  refine AE (k8) rfl ?_
  simp (disch:=omega) only [AA]
  by_cases z0:z=0
  ·by_cases n0:0<n.length
   ·simp (disch:=omega) only [AA,z0,Ah,An,AU,AV,A4,Gz,Gv]
    refine AE (p1) rfl ?_
    simp (disch:=omega) only [AA,AI7,Ah,An,AU,AV,A4]
    exact ⟨_,_,_,_,_,_,_,_,rfl,hc.seN,he1⟩
   ·simp (disch:=omega) only [AA,z0,Ah,An,AU,AV,A4]
    exact ⟨_,_,_,_,_,_,_,_,rfl,hc,hd5⟩
  ·by_cases z1:z=1
   ·by_cases n0:1<t.length
    ·simp (disch:=omega) only [AA,z1,AIC,ASE,Ah,An,AU,AV,A4]
     exact ⟨_,_,_,_,_,_,_,_,rfl,hc.suT,hd5⟩
    ·simp (disch:=omega) only [AA,z1,Ah,An,AU,AV,A4]
     exact ⟨_,_,_,_,_,_,_,_,rfl,hc,hd5⟩
   ·by_cases z2:z=2
    ·simp (disch:=omega) only [AA,z2,Ah,An,AU,AV,A4]
     refine AE (p2) rfl ?_
     simp (disch:=omega) only [AA,AM0,Ah,An,AU,AV,A4]
     exact ⟨_,_,_,_,_,_,_,_,rfl,hc,he2⟩
    ·by_cases z3:z=3
     ·by_cases n0:0<o.length
      ·simp (disch:=omega) only [AA,z3,Ah,An,AU,AV,A4,Gz,Gv]
       refine AE (p3) rfl ?_
       simp (disch:=omega) only [AA,AHJ,Ah,An,AU,AV,A4]
       exact ⟨_,_,_,_,_,_,_,_,rfl,hc.seO,he3⟩
      ·simp (disch:=omega) only [AA,z3,Ah,An,AU,AV,A4]
       exact ⟨_,_,_,_,_,_,_,_,rfl,hc,hd5⟩
     ·simp (disch:=omega) only [AA,Ah,An,AU,AV,A4]
      exact ⟨_,_,_,_,_,_,_,_,rfl,hc,hd5⟩
end Go.Cat
