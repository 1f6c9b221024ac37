/-
 Gaussian binomials, Catalan polynomials.
-/
import Derived.Test.YtdaefhflccndlaaGreatPfPolyD
import Derived.Test.YtdaefhflccndlaaGreatPfPolyL
set_option linter.unusedSimpArgs false
set_option linter.unusedVariables false
namespace Go.Cat
set_option maxRecDepth 100000
variable {K:Nat→List D→List D→Prop}
def gsT:List (List (List Int)):=[[[1]],
 [[1],[1]],
 [[1],[1,1],[1]],
 [[1],[1,1,1],[1,1,1],[1]],
 [[1],[1,1,1,1],[1,1,2,1,1],[1,1,1,1],[1]],
 [[1],[1,1,1,1,1],[1,1,2,2,2,1,1],[1,1,2,2,2,1,1],[1,1,1,1,1],[1]],
 [[1],[1,1,1,1,1,1],[1,1,2,2,3,2,2,1,1],[1,1,2,3,3,3,3,2,1,1],[1,1,2,2,3,2,2,1,1],[1,1,1,1,1,1],[1]],
 [[1],[1,1,1,1,1,1,1],[1,1,2,2,3,3,3,2,2,1,1],[1,1,2,3,4,4,5,4,4,3,2,1,1],[1,1,2,3,4,4,5,4,4,3,2,1,1],[1,1,2,2,3,3,3,2,2,1,1],[1,1,1,1,1,1,1],[1]],
 [[1],[1,1,1,1,1,1,1,1],[1,1,2,2,3,3,4,3,3,2,2,1,1],[1,1,2,3,4,5,6,6,6,6,5,4,3,2,1,1],[1,1,2,3,5,5,7,7,8,7,7,5,5,3,2,1,1],[1,1,2,3,4,5,6,6,6,6,5,4,3,2,1,1],[1,1,2,2,3,3,4,3,3,2,2,1,1],[1,1,1,1,1,1,1,1],[1]],
 [[1],[1,1,1,1,1,1,1,1,1],[1,1,2,2,3,3,4,4,4,3,3,2,2,1,1],[1,1,2,3,4,5,7,7,8,8,8,7,7,5,4,3,2,1,1],[1,1,2,3,5,6,8,9,11,11,12,11,11,9,8,6,5,3,2,1,1],[1,1,2,3,5,6,8,9,11,11,12,11,11,9,8,6,5,3,2,1,1],[1,1,2,3,4,5,7,7,8,8,8,7,7,5,4,3,2,1,1],[1,1,2,2,3,3,4,4,4,3,3,2,2,1,1],[1,1,1,1,1,1,1,1,1],[1]],
 [[1],[1,1,1,1,1,1,1,1,1,1],[1,1,2,2,3,3,4,4,5,4,4,3,3,2,2,1,1],[1,1,2,3,4,5,7,8,9,10,10,10,10,9,8,7,5,4,3,2,1,1],[1,1,2,3,5,6,9,10,13,14,16,16,18,16,16,14,13,10,9,6,5,3,2,1,1],[1,1,2,3,5,7,9,11,14,16,18,19,20,20,19,18,16,14,11,9,7,5,3,2,1,1],[1,1,2,3,5,6,9,10,13,14,16,16,18,16,16,14,13,10,9,6,5,3,2,1,1],[1,1,2,3,4,5,7,8,9,10,10,10,10,9,8,7,5,4,3,2,1,1],[1,1,2,2,3,3,4,4,5,4,4,3,3,2,2,1,1],[1,1,1,1,1,1,1,1,1,1],[1]],
 [[1],[1,1,1,1,1,1,1,1,1,1,1],[1,1,2,2,3,3,4,4,5,5,5,4,4,3,3,2,2,1,1],[1,1,2,3,4,5,7,8,10,11,12,12,13,12,12,11,10,8,7,5,4,3,2,1,1],[1,1,2,3,5,6,9,11,14,16,19,20,23,23,24,23,23,20,19,16,14,11,9,6,5,3,2,1,1],[1,1,2,3,5,7,10,12,16,19,23,25,29,30,32,32,32,30,29,25,23,19,16,12,10,7,5,3,2,1,1],[1,1,2,3,5,7,10,12,16,19,23,25,29,30,32,32,32,30,29,25,23,19,16,12,10,7,5,3,2,1,1],[1,1,2,3,5,6,9,11,14,16,19,20,23,23,24,23,23,20,19,16,14,11,9,6,5,3,2,1,1],[1,1,2,3,4,5,7,8,10,11,12,12,13,12,12,11,10,8,7,5,4,3,2,1,1],[1,1,2,2,3,3,4,4,5,5,5,4,4,3,3,2,2,1,1],[1,1,1,1,1,1,1,1,1,1,1],[1]],
 [[1],[1,1,1,1,1,1,1,1,1,1,1,1],[1,1,2,2,3,3,4,4,5,5,6,5,5,4,4,3,3,2,2,1,1],[1,1,2,3,4,5,7,8,10,12,13,14,15,15,15,15,14,13,12,10,8,7,5,4,3,2,1,1],[1,1,2,3,5,6,9,11,15,17,21,23,27,28,31,31,33,31,31,28,27,23,21,17,15,11,9,6,5,3,2,1,1],[1,1,2,3,5,7,10,13,17,21,26,30,35,39,43,46,48,49,49,48,46,43,39,35,30,26,21,17,13,10,7,5,3,2,1,1],[1,1,2,3,5,7,11,13,18,22,28,32,39,42,48,51,55,55,58,55,55,51,48,42,39,32,28,22,18,13,11,7,5,3,2,1,1],[1,1,2,3,5,7,10,13,17,21,26,30,35,39,43,46,48,49,49,48,46,43,39,35,30,26,21,17,13,10,7,5,3,2,1,1],[1,1,2,3,5,6,9,11,15,17,21,23,27,28,31,31,33,31,31,28,27,23,21,17,15,11,9,6,5,3,2,1,1],[1,1,2,3,4,5,7,8,10,12,13,14,15,15,15,15,14,13,12,10,8,7,5,4,3,2,1,1],[1,1,2,2,3,3,4,4,5,5,6,5,5,4,4,3,3,2,2,1,1],[1,1,1,1,1,1,1,1,1,1,1,1],[1]],
 [[1],[1,1,1,1,1,1,1,1,1,1,1,1,1],[1,1,2,2,3,3,4,4,5,5,6,6,6,5,5,4,4,3,3,2,2,1,1],[1,1,2,3,4,5,7,8,10,12,14,15,17,17,18,18,18,17,17,15,14,12,10,8,7,5,4,3,2,1,1],[1,1,2,3,5,6,9,11,15,18,22,25,30,32,36,38,41,41,43,41,41,38,36,32,30,25,22,18,15,11,9,6,5,3,2,1,1],[1,1,2,3,5,7,10,13,18,22,28,33,40,45,52,57,63,66,70,71,73,71,70,66,63,57,52,45,40,33,28,22,18,13,10,7,5,3,2,1,1],[1,1,2,3,5,7,11,14,19,24,31,37,46,52,61,68,76,81,88,90,94,94,94,90,88,81,76,68,61,52,46,37,31,24,19,14,11,7,5,3,2,1,1],[1,1,2,3,5,7,11,14,19,24,31,37,46,52,61,68,76,81,88,90,94,94,94,90,88,81,76,68,61,52,46,37,31,24,19,14,11,7,5,3,2,1,1],[1,1,2,3,5,7,10,13,18,22,28,33,40,45,52,57,63,66,70,71,73,71,70,66,63,57,52,45,40,33,28,22,18,13,10,7,5,3,2,1,1],[1,1,2,3,5,6,9,11,15,18,22,25,30,32,36,38,41,41,43,41,41,38,36,32,30,25,22,18,15,11,9,6,5,3,2,1,1],[1,1,2,3,4,5,7,8,10,12,14,15,17,17,18,18,18,17,17,15,14,12,10,8,7,5,4,3,2,1,1],[1,1,2,2,3,3,4,4,5,5,6,6,6,5,5,4,4,3,3,2,2,1,1],[1,1,1,1,1,1,1,1,1,1,1,1,1],[1]],
 [[1],[1,1,1,1,1,1,1,1,1,1,1,1,1,1],[1,1,2,2,3,3,4,4,5,5,6,6,7,6,6,5,5,4,4,3,3,2,2,1,1],[1,1,2,3,4,5,7,8,10,12,14,16,18,19,20,21,21,21,21,20,19,18,16,14,12,10,8,7,5,4,3,2,1,1],[1,1,2,3,5,6,9,11,15,18,23,26,32,35,40,43,48,49,53,53,55,53,53,49,48,43,40,35,32,26,23,18,15,11,9,6,5,3,2,1,1],[1,1,2,3,5,7,10,13,18,23,29,35,43,50,58,66,74,81,88,93,98,101,102,102,101,98,93,88,81,74,66,58,50,43,35,29,23,18,13,10,7,5,3,2,1,1],[1,1,2,3,5,7,11,14,20,25,33,40,51,59,71,81,94,103,116,123,134,139,146,147,151,147,146,139,134,123,116,103,94,81,71,59,51,40,33,25,20,14,11,7,5,3,2,1,1],[1,1,2,3,5,7,11,15,20,26,34,42,53,63,75,87,100,112,125,136,146,155,162,166,169,169,166,162,155,146,136,125,112,100,87,75,63,53,42,34,26,20,15,11,7,5,3,2,1,1],[1,1,2,3,5,7,11,14,20,25,33,40,51,59,71,81,94,103,116,123,134,139,146,147,151,147,146,139,134,123,116,103,94,81,71,59,51,40,33,25,20,14,11,7,5,3,2,1,1],[1,1,2,3,5,7,10,13,18,23,29,35,43,50,58,66,74,81,88,93,98,101,102,102,101,98,93,88,81,74,66,58,50,43,35,29,23,18,13,10,7,5,3,2,1,1],[1,1,2,3,5,6,9,11,15,18,23,26,32,35,40,43,48,49,53,53,55,53,53,49,48,43,40,35,32,26,23,18,15,11,9,6,5,3,2,1,1],[1,1,2,3,4,5,7,8,10,12,14,16,18,19,20,21,21,21,21,20,19,18,16,14,12,10,8,7,5,4,3,2,1,1],[1,1,2,2,3,3,4,4,5,5,6,6,7,6,6,5,5,4,4,3,3,2,2,1,1],[1,1,1,1,1,1,1,1,1,1,1,1,1,1],[1]]]
def arT:List (List Int):=[[1],[1],[1,1],[1,2,1,1],[1,3,3,3,2,1,1],[1,4,6,7,7,5,5,3,2,1,1],[1,5,10,14,17,16,16,14,11,9,7,5,3,2,1,1],[1,6,15,25,35,40,43,44,40,37,32,28,22,18,13,11,7,5,3,2,1,1],[1,7,21,41,65,86,102,115,118,118,113,106,96,85,73,63,53,42,34,26,20,15,11,7,5,3,2,1,1]]
def cpT:List (List Int):=[[1],[1],[1,0,1],[1,0,1,1,1,0,1],[1,0,1,1,2,1,2,1,2,1,1,0,1],[1,0,1,1,2,2,3,2,4,3,4,3,4,2,3,2,2,1,1,0,1],[1,0,1,1,2,2,4,3,5,5,7,6,9,7,9,8,9,7,9,6,7,5,5,3,4,2,2,1,1,0,1],[1,0,1,1,2,2,4,4,6,6,9,9,13,12,16,16,19,18,22,20,23,21,23,20,22,18,19,16,16,12,13,9,9,6,6,4,4,2,2,1,1,0,1]]
def bnT:List (List Int):=[[1],[1,1],[1,2,1],[1,3,3,1],[1,4,6,4,1],[1,5,10,10,5,1],[1,6,15,20,15,6,1],[1,7,21,35,35,21,7,1],[1,8,28,56,70,56,28,8,1],[1,9,36,84,126,126,84,36,9,1],[1,10,45,120,210,252,210,120,45,10,1],[1,11,55,165,330,462,462,330,165,55,11,1],[1,12,66,220,495,792,924,792,495,220,66,12,1],[1,13,78,286,715,1287,1716,1716,1287,715,286,78,13,1],[1,14,91,364,1001,2002,3003,3432,3003,2002,1001,364,91,14,1]]
def gs (n k:Nat):List Int:=(gsT.getD n []).getD k []
def adS (a b:List Int) (s i:Nat):Int:=atI a i+(if s≤i then atI b ((i-s:Nat):Int) else 0)
theorem gs0:allB 15 (fun n=>allB (n+1) fun k=>decide ((gs n k).length=k*(n-k)+1)&&(gs n k).all (inR 0 10000)&&decide (gs n (n-k)=gs n k))=true:=by kernel_rfl
theorem gsE0:allB 15 (fun n=>decide (gs n 0=[1]∧gs n n=[1]))=true:=by kernel_rfl
theorem gsS0:allB 14 (fun m=>allB (m+2) fun k=>(decide (k=0∨k=m+1)) || decide ((List.range (k*(m+1-k)+1)).map (adS (gs m k) (gs m (k-1)) (m+1-k))=gs (m+1) k))=true:=by kernel_rfl
theorem gs_len {n k:Nat} (h:n≤14) (hk:k≤n):(gs n k).length=k*(n-k)+1:=by
 have:=allB_spec (allB_spec gs0 n (by omega)) k (by omega)
 simp only [qba,qde] at this
 exact this.1.1
theorem gs_bd {n k:Nat} (h:n≤14) (hk:k≤n) (i:Nat):0≤atI (gs n k) i∧atI (gs n k) i≤10000:=by
 have:=allB_spec (allB_spec gs0 n (by omega)) k (by omega)
 simp only [qba,qde,qat] at this
 rcases qlg i (gs n k).length with c | c
 ·exact inR_iff.1 (this.1.2 _ (by simp [atI,c]))
 ·rw [atI_outP c]; omega
theorem gs_0 {n:Nat} (h:n≤14):gs n 0=[1]:=by
 have:=allB_spec gsE0 n (by omega)
 simp only [qde] at this
 exact this.1
theorem gs_n {n:Nat} (h:n≤14):gs n n=[1]:=by
 have:=allB_spec gsE0 n (by omega)
 simp only [qde] at this
 exact this.2
theorem gs_rec {m k:Nat} (h:m≤13) (h0:0<k) (hk:k≤m) (i:Nat):adS (gs m k) (gs m (k-1)) (m+1-k) i=atI (gs (m+1) k) i:=by
 have h1:=allB_spec (allB_spec gsS0 m (by omega)) k (by omega)
 simp only [Bool.or_eq_true,qde] at h1
 have h1:(List.range (k*(m+1-k)+1)).map (adS (gs m k) (gs m (k-1)) (m+1-k))=gs (m+1) k:=by
  rcases h1 with h1 | h1
  ·omega
  ·exact h1
 have hl:=gs_len (n:=m+1) (k:=k) (by omega) (by omega)
 rcases qlg i (gs (m+1) k).length with c | c
 ·rw [← h1]
  have:i<k*(m+1-k)+1:=by omega
  simp [atI,this]
 ·rw [atI_outP c,adS]
  have l1:=gs_len (n:=m) (k:=k) (by omega) (by omega)
  have l2:=gs_len (n:=m) (k:=k-1) (by omega) (by omega)
  have e1:k*(m+1-k)=k*(m-k)+k:=by
   rw [show m+1-k=(m-k)+1 by omega,Nat.mul_succ]
  have e2:(k-1)*(m-(k-1))+(m+1-k)=k*(m+1-k):=by
   obtain ⟨j,rfl⟩:∃ j,k=j+1:=⟨k-1,by omega⟩
   rw [Nat.add_sub_cancel,Nat.succ_mul,show m+1-(j+1)=m-j by omega]
  rw [atI_outP (by omega)]
  split
  ·rw [atI_outP (by omega)]; rfl
  ·rfl
theorem mul_49 {n k:Nat} (h:n≤14) (hk:k≤n):k*(n-k)≤196:=by
 have:k*(n-k)≤14*14:=Nat.mul_le_mul (by omega) (by omega)
 omega
theorem gauss_i [HA K]:∀ (n k:Nat),n≤14→k≤n→K 466 [.n n,.n k] [LI (gs n k)]
 | n,k,hn,hk=>by
  refine body_by (f:=ir_impl_gauss) rfl ?_; simp only [ir_impl_gauss,zn,zs,zq,zi,zg,zp]
  by_cases h0:k=0
  ·subst h0
   rw [gs_0 hn]
   simp (disch:=first|omega|simp only[vl];omega) only [vcd,li_1]
  ·by_cases h1:k=n
   ·subst h1
    rw [gs_n hn]
    simp (disch:=first|omega|simp only[vl];omega) only [vcd,li_1]
   ·obtain ⟨m,rfl⟩:∃ m,n=m+1:=⟨n-1,by omega⟩
    have k1:=gauss_i m k (by omega) (by omega)
    have k2:=gauss_i m (k-1) (by omega) (by omega)
    have e1:((k-1:Nat):Int)=(k:Int)-1:=by omega
    rw [e1] at k2
    have em:((m+1:Nat):Int)-1=m:=by omega
    have l1:=gs_len (n:=m) (k:=k) (by omega) (by omega)
    have l2:=gs_len (n:=m) (k:=k-1) (by omega) (by omega)
    have l3:=gs_len (n:=m+1) (k:=k) (by omega) (by omega)
    have m3:=mul_49 (n:=m+1) (k:=k) (by omega) (by omega)
    have e3:k*(m+1-k)=k*(m-k)+k:=by
     rw [show m+1-k=(m-k)+1 by omega,Nat.mul_succ]
    have e2:(k-1)*(m-(k-1))+(m+1-k)=k*(m+1-k):=by
     obtain ⟨j,rfl⟩:∃ j,k=j+1:=⟨k-1,by omega⟩
     rw [Nat.add_sub_cancel,Nat.succ_mul,show m+1-(j+1)=m-j by omega]
    have b1:=gs_bd (n:=m) (k:=k) (by omega) (by omega)
    have b2:=gs_bd (n:=m) (k:=k-1) (by omega) (by omega)
    have r:=gs_rec (m:=m) (k:=k) (by omega) (by omega) (by omega)
    generalize gs m k=a at k1 l1 b1 r
    generalize gs m (k-1)=b at k2 l2 b2 r
    generalize gs (m+1) k=c at l3 r ⊢
    have hmx:max (a.length:Int) ((b.length:Int)+((m:Int)+1)-(k:Int))=(c.length:Nat):=by omega
    simp (disch:=first|omega|simp only[vl];omega) only [vcd,qas]
    refine call_by (k1) rfl ?_
    simp (disch:=first|omega|simp only[vl];omega) only [vcd,qas]
    refine call_by (k2) rfl ?_
    simp (disch:=first|omega|simp only[vl];omega) only [vcd,hmx]
    refine loop_up (fun i (o:List Int)=>o.length=c.length∧∀ j:Nat,j<c.length→atI o j=if j<i then atI a j else 0) (fun i o=>[.n ((m:Int)+1),.n k,.u,.u,LI b,LI o,.u,.u,.u,.u,.u,LI a,.n a.length,.n i,.u,.u,.u,.u,.u]) a.length (rep (c.length:Nat) 0) ⟨by simp [rep],fun j hj=>by simp [atI,rep,hj]⟩ rfl (fun i o hi hP=>?_) (fun o hP=>?_)
    ·obtain ⟨g1,g2⟩:=hP
     simp (disch:=first|omega|simp only[vl];omega) only [vcd]
     refine ⟨_,⟨by rw [seI_len,g1],fun j hj=>?_⟩,rfl⟩
     rw [atI_set (by omega)]
     by_cases q:i=j
     ·subst q; rw [if_pos rfl,if_pos (by omega)]
     ·rw [if_neg q,g2 j hj]
      by_cases q2:j<i
      ·rw [if_pos q2,if_pos (by omega)]
      ·rw [if_neg q2,if_neg (by omega)]
    ·obtain ⟨g1,g2⟩:=hP
     have g2:∀ j:Nat,j<c.length→atI o j=atI a j:=by
      intro j hj
      rw [g2 j hj]
      split
      ·rfl
      ·rw [atI_outP (by omega)]
     simp (disch:=first|omega|simp only[vl];omega) only [vcd]
     refine loop_up (fun i (o:List Int)=>o.length=c.length∧∀ j:Nat,j<c.length→atI o j=atI a j+(if m+1-k≤j∧j<m+1-k+i then atI b ((j-(m+1-k):Nat):Int) else 0)) (fun i o=>[.n ((m:Int)+1),.n k,.u,.u,.u,LI o,.u,.u,.u,.u,.u,.u,.u,.u,.u,LI b,.n b.length,.n i,.u]) b.length o ⟨g1,fun j hj=>by rw [g2 j hj,if_neg (by omega)]; omega⟩ rfl (fun i o hi hP=>?_) (fun o hP=>?_)
     ·obtain ⟨g1,g2⟩:=hP
      have ei:(i:Int)+((m:Int)+1)-(k:Int)=((m+1-k+i:Nat):Int):=by omega
      have g3:=g2 (m+1-k+i) (by omega)
      rw [if_neg (by omega)] at g3
      have c1:=b1 (m+1-k+i)
      have c2:=b2 i
      simp (disch:=first|omega|simp only[vl];omega) only [vcd,ei]
      refine ⟨_,⟨by rw [seI_len,g1],fun j hj=>?_⟩,rfl⟩
      rw [atI_set (by omega)]
      by_cases q:m+1-k+i=j
      ·subst q
       rw [if_pos rfl,if_pos (by omega),g3,show m+1-k+i-(m+1-k)=i by omega]; omega
      ·rw [if_neg q,g2 j hj]
       by_cases q2:m+1-k≤j∧j<m+1-k+i
       ·rw [if_pos q2,if_pos (by omega)]
       ·rw [if_neg q2,if_neg (by omega)]
     ·obtain ⟨g1,g2⟩:=hP
      simp (disch:=first|omega|simp only[vl];omega) only [vcd]
      refine Dl (extI g1.symm fun j hj=>?_)
      rw [g2 j hj,← r j,adS]
      by_cases q:m+1-k≤j
      ·rw [if_pos q]
       by_cases q2:j<m+1-k+b.length
       ·rw [if_pos ⟨q,q2⟩]
       ·rw [if_neg (by omega),atI_outP (p:=b) (by omega)]
      ·rw [if_neg q,if_neg (by omega)]
attribute [irreducible] gs gsT cpT arT bnT
end Go.Cat
