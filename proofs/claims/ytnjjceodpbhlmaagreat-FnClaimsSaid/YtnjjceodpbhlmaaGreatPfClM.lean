/-
 The law of claims.
-/
import Derived.Test.YtnjjceodpbhlmaaGreatPfClL
import Derived.Test.YtnjjceodpbhlmaaGreatPfLFCl
set_option linter.unusedSimpArgs false
set_option linter.unusedVariables false
namespace Go.Cat
variable {K:Nat→List D→List D→Prop}
set_option maxRecDepth 100000
structure AQJ (G:Prop):Prop where
 g:G
theorem QW {P G:Prop} (f:AQJ G→P) (g:G):P:=f ⟨g⟩
theorem XL [HA K] {code:List Nat}:K 220 [LB code] [.b (decide (1048576<(code.length:Int)))]:=by
 refine AG (f:=MG) rfl ?_; simp only [MG,zu]
 simp (disch:=omega) only [vc]
theorem Ng [HA K] {k:Int} {f s:List Nat} {t:List (List Nat)} {n o:List Int} {r:List (List Int)} (h:CX f s t n o r):K 116 [CL k f s t n o r,CL k f s t n o r] [.b true]:=by
 have:=ecS (K:=K) (k:=k) (k':=k) (f:=f) (f':=f) (s:=s) (s':=s) (t':=t) (n':=n) (o':=o) (r':=r) h.sm
 simpa using this
theorem pkSo [HA K] {p:List Int} (h:p.length≤6):∃ k f s t n o r w,CX f s t n o r∧K 121 [LI p] [CL k f s t n o r,.b w]∧K 120 [LI p] [CL k f s t n o r,.b w]∧K 73 [LI p] [.b w]∧(w=true→K 626 [CL k f s t n o r] [.b true]):=by
 obtain ⟨h1,h2,h3,h4⟩:=AF8 (K:=K) h
 exact ⟨_,_,_,_,_,_,_,_,h1,h2,h3,FU (K:=K) (by omega),h4⟩
theorem pkFr [HA K] [H9 K] [HH K] {p:List Int} (h:p.length≤9):∃ k f s t n o r w,CX f s t n o r∧K 336 [LI p] [CL k f s t n o r,.b w]∧K 335 [LI p] [CL k f s t n o r,.b w]∧(w=true→K 626 [CL k f s t n o r] [.b true]):=
 ⟨_,_,_,_,_,_,_,_,Tn h,ASF (K:=K) (by omega),AF3 (K:=K) (by omega),mkFr (K:=K) h⟩
theorem pkMe [HA K] {p:List Int} (h:p.length≤16):∃ k f s t n o r w,CX f s t n o r∧K 334 [LI p] [CL k f s t n o r,.b w]∧K 333 [LI p] [CL k f s t n o r,.b w]∧(w=true→K 626 [CL k f s t n o r] [.b true]):=by
 obtain ⟨r,h1,h2,h3,h4⟩:=U4 (K:=K) h
 exact ⟨_,_,_,_,_,_,_,_,h1,h2,h3,h4⟩
theorem CX.cf {f s:List Nat} {t:List (List Nat)} {n o:List Int} {r:List (List Int)} (h:CX f s t n o r):CLf f t n o r:=
 ⟨by have:=h.lf; omega,by have:=h.ln; omega,by have:=h.lo; omega,by have:=h.lr; omega,fun x hx=>by have:=h.lrs x hx; omega⟩
set_option maxHeartbeats 8000000 in
theorem AG1 [HA K] [Cm K 201 C7] [HA K] [CZ K] [H9 K] [HH K] (code:List Nat):K 624 [LB code] [.b true]:=by
 refine AG (f:=K0) rfl ?_; simp only [K0,zu]
 by_cases hl:code.length≤1048576
 ·obtain ⟨_,⟨a,b,rfl,_,_⟩,d1⟩:=AHV (K:=K) hl
  obtain ⟨kO,fO,sO,tO,wO,hO,o1,o2,o3⟩:=mkOr (K:=K) a b
  obtain ⟨_,⟨a',b',rfl,_,_⟩,d2⟩:=ALB (K:=K) hl
  obtain ⟨kD,fD,sD,tD,wD,hD,p1,p2,p3⟩:=Ug (K:=K) a' b'
  obtain ⟨_,⟨p,rfl,hp⟩,d3⟩:=AOK (K:=K) hl
  obtain ⟨kS,fS,sS,tS,nS,oS,rS,wS,hS,s1,s2,s3,s4⟩:=pkSo (K:=K) hp
  obtain ⟨_,⟨q,rfl,hq⟩,d4⟩:=AK5 (K:=K) hl
  obtain ⟨kF,fF,sF,tF,nF,oF,rF,wF,hF,f1,f2,f3⟩:=pkFr (K:=K) hq
  obtain ⟨_,⟨m,rfl,hm⟩,d5⟩:=APS (K:=K) hl
  obtain ⟨kM,fM,sM,tM,nM,oM,rM,wM,hM,m1,m2,m3⟩:=pkMe (K:=K) hm
  obtain ⟨_,⟨k,f,s,t,n,o,r,rfl,hX⟩,d6⟩:=AO6 (K:=K) hl
  obtain ⟨bX,x1,x2,x3⟩:=tru (K:=K) (k:=k) hX
  obtain ⟨_,⟨k1,g1,u1,t1,n1,q1,r1,k2,g2,u2,t2,n2,q2,r2,rfl,hY⟩,d7⟩:=AKK (K:=K) hl
  obtain ⟨_,⟨y,rfl⟩,d8⟩:=AQ9 (K:=K) hl
  have eO:=Ng (K:=K) (k:=kO) hO
  have eD:=Ng (K:=K) (k:=kD) hD
  have eS:=Ng (K:=K) (k:=kS) hS
  have eF:=Ng (K:=K) (k:=kF) hF
  have eM:=Ng (K:=K) (k:=kM) hM
  simp (disch:=omega) only [AA]
  repeat (first | (refine AE (XL (K:=K)) rfl ?_; try simp (disch:=omega) only [AA,Ah,An]) | (refine AE (d1) rfl ?_; try simp (disch:=omega) only [AA,Ah,An]) | (refine AE (o1) rfl ?_; try simp (disch:=omega) only [AA,Ah,An]) | (refine AE (o2) rfl ?_; try simp (disch:=omega) only [AA,Ah,An]) | (refine AE (d2) rfl ?_; try simp (disch:=omega) only [AA,Ah,An]) | (refine AE (p1) rfl ?_; try simp (disch:=omega) only [AA,Ah,An]) | (refine AE (p2) rfl ?_; try simp (disch:=omega) only [AA,Ah,An]))
  apply QW
  ·intro T
   cases wO <;> cases wD
   all_goals
    try simp (disch:=omega) only [AA,Ah,An]
    repeat (first | (refine AE (eO) rfl ?_; try simp (disch:=omega) only [AA,Ah,An]) | (refine AE (o3 rfl) rfl ?_; try simp (disch:=omega) only [AA,Ah,An]) | (refine AE (eD) rfl ?_; try simp (disch:=omega) only [AA,Ah,An]) | (refine AE (p3 rfl) rfl ?_; try simp (disch:=omega) only [AA,Ah,An]) | (refine AE (d3) rfl ?_; try simp (disch:=omega) only [AA,Ah,An]))
    exact T.1
  repeat (first | (refine AE (s1) rfl ?_; try simp (disch:=omega) only [AA,Ah,An]) | (refine AE (s2) rfl ?_; try simp (disch:=omega) only [AA,Ah,An]) | (refine AE (d4) rfl ?_; try simp (disch:=omega) only [AA,Ah,An]) | (refine AE (f1) rfl ?_; try simp (disch:=omega) only [AA,Ah,An]) | (refine AE (f2) rfl ?_; try simp (disch:=omega) only [AA,Ah,An]) | (refine AE (d5) rfl ?_; try simp (disch:=omega) only [AA,Ah,An]) | (refine AE (m1) rfl ?_; try simp (disch:=omega) only [AA,Ah,An]) | (refine AE (m2) rfl ?_; try simp (disch:=omega) only [AA,Ah,An]))
  apply QW
  ·intro T
   cases wS <;> cases wF <;> cases wM
   all_goals
    try simp (disch:=omega) only [AA,Ah,An]
    repeat (first | (refine AE (eS) rfl ?_; try simp (disch:=omega) only [AA,Ah,An]) | (refine AE (s3) rfl ?_; try simp (disch:=omega) only [AA,Ah,An]) | (refine AE (s4 rfl) rfl ?_; try simp (disch:=omega) only [AA,Ah,An]) | (refine AE (eF) rfl ?_; try simp (disch:=omega) only [AA,Ah,An]) | (refine AE (f3 rfl) rfl ?_; try simp (disch:=omega) only [AA,Ah,An]) | (refine AE (eM) rfl ?_; try simp (disch:=omega) only [AA,Ah,An]) | (refine AE (m3 rfl) rfl ?_; try simp (disch:=omega) only [AA,Ah,An]) | (refine AE (d6) rfl ?_; try simp (disch:=omega) only [AA,Ah,An]))
    exact T.1
  repeat (first | (refine AE (x1) rfl ?_; try simp (disch:=omega) only [AA,Ah,An]) | (refine AE (x2) rfl ?_; try simp (disch:=omega) only [AA,Ah,An]))
  apply QW
  ·intro T
   cases bX
   ·simp (disch:=omega) only [AA,Ah,An]
    refine AE (d7) rfl ?_
    try simp (disch:=omega) only [AA,Ah,An]
    exact T.1
   ·obtain ⟨hk,z1,z2,z3,z4,z5,z6⟩:=x3 rfl
    have:k=1∨k=2∨k=3∨k=4∨k=5∨k=6:=by omega
    have hlt:=hX.lt
    rcases this with rfl | rfl | rfl | rfl | rfl | rfl
    all_goals
     try simp (disch:=omega) only [AA,Ah,An,AU,AV,A4]
     repeat (first | (refine AE (z1 rfl) rfl ?_; try simp (disch:=omega) only [AA,Ah,An,AU,AV,A4]) | (refine AE (z2 rfl) rfl ?_; try simp (disch:=omega) only [AA,Ah,An,AU,AV,A4]) | (refine AE (z3 rfl) rfl ?_; try simp (disch:=omega) only [AA,Ah,An,AU,AV,A4]) | (refine AE (z4 rfl) rfl ?_; try simp (disch:=omega) only [AA,Ah,An,AU,AV,A4]) | (refine AE (z5 rfl) rfl ?_; try simp (disch:=omega) only [AA,Ah,An,AU,AV,A4]) | (refine AE (z6 rfl) rfl ?_; try simp (disch:=omega) only [AA,Ah,An,AU,AV,A4]) | (refine AE (d7) rfl ?_; try simp (disch:=omega) only [AA,Ah,An,AU,AV,A4]))
     exact T.1
  repeat (first | (refine AE (d8) rfl ?_; try simp (disch:=omega) only [AA,Ah,An]) | (refine AE (fc_i (K:=K) hX.cf) rfl ?_; try simp (disch:=omega) only [AA,Ah,An]) | (refine AE (fc_s (K:=K) hX.cf) rfl ?_; try simp (disch:=omega) only [AA,Ah,An]) | (refine AE (ecI (K:=K) hY.sm) rfl ?_; try simp (disch:=omega) only [AA,Ah,An]) | (refine AE (ecS (K:=K) hY.sm) rfl ?_; try simp (disch:=omega) only [AA,Ah,An]) | (refine AE (VI (K:=K)) rfl ?_; try simp (disch:=omega) only [AA,Ah,An]) | (refine AE (Zd (K:=K)) rfl ?_; try simp (disch:=omega) only [AA,Ah,An]))
 ·simp (disch:=omega) only [AA]
  refine AE (XL (K:=K)) rfl ?_
  simp (disch:=omega) only [AA]
end Go.Cat
