/-
 Gaussian binomials, Catalan polynomials.
-/
import Derived.Test.YthoilpmggmenbaaGreatPfPoly
set_option linter.unusedSimpArgs false
set_option linter.unusedVariables false
namespace Go.Cat
set_option maxRecDepth 100000
variable{K:Nat->List D->List D->Prop}
def gsT:List (List (List Int)):=[[[1]],
 [[1],[1]],
 [[1],[1,1],[1]],
 [[1],[1,1,1],[1,1,1],[1]],
 [[1],[1,1,1,1],[1,1,2,1,1],[1,1,1,1],[1]],
 [[1],[1,1,1,1,1],[1,1,2,2,2,1,1],[1,1,2,2,2,1,1],[1,1,1,1,1],[1]],
 [[1],[1,1,1,1,1,1],[1,1,2,2,3,2,2,1,1],[1,1,2,3,3,3,3,2,1,1],[1,1,2,2,3,2,2,1,1],[1,1,1,1,1,1],[1]],
 [[1],[1,1,1,1,1,1,1],[1,1,2,2,3,3,3,2,2,1,1],[1,1,2,3,4,4,5,4,4,3,2,1,1],[1,1,2,3,4,4,5,4,4,3,2,1,1],[1,1,2,2,3,3,3,2,2,1,1],[1,1,1,1,1,1,1],[1]],
 [[1],[1,1,1,1,1,1,1,1],[1,1,2,2,3,3,4,3,3,2,2,1,1],[1,1,2,3,4,5,6,6,6,6,5,4,3,2,1,1],[1,1,2,3,5,5,7,7,8,7,7,5,5,3,2,1,1],[1,1,2,3,4,5,6,6,6,6,5,4,3,2,1,1],[1,1,2,2,3,3,4,3,3,2,2,1,1],[1,1,1,1,1,1,1,1],[1]],
 [[1],[1,1,1,1,1,1,1,1,1],[1,1,2,2,3,3,4,4,4,3,3,2,2,1,1],[1,1,2,3,4,5,7,7,8,8,8,7,7,5,4,3,2,1,1],[1,1,2,3,5,6,8,9,11,11,12,11,11,9,8,6,5,3,2,1,1],[1,1,2,3,5,6,8,9,11,11,12,11,11,9,8,6,5,3,2,1,1],[1,1,2,3,4,5,7,7,8,8,8,7,7,5,4,3,2,1,1],[1,1,2,2,3,3,4,4,4,3,3,2,2,1,1],[1,1,1,1,1,1,1,1,1],[1]],
 [[1],[1,1,1,1,1,1,1,1,1,1],[1,1,2,2,3,3,4,4,5,4,4,3,3,2,2,1,1],[1,1,2,3,4,5,7,8,9,10,10,10,10,9,8,7,5,4,3,2,1,1],[1,1,2,3,5,6,9,10,13,14,16,16,18,16,16,14,13,10,9,6,5,3,2,1,1],[1,1,2,3,5,7,9,11,14,16,18,19,20,20,19,18,16,14,11,9,7,5,3,2,1,1],[1,1,2,3,5,6,9,10,13,14,16,16,18,16,16,14,13,10,9,6,5,3,2,1,1],[1,1,2,3,4,5,7,8,9,10,10,10,10,9,8,7,5,4,3,2,1,1],[1,1,2,2,3,3,4,4,5,4,4,3,3,2,2,1,1],[1,1,1,1,1,1,1,1,1,1],[1]],
 [[1],[1,1,1,1,1,1,1,1,1,1,1],[1,1,2,2,3,3,4,4,5,5,5,4,4,3,3,2,2,1,1],[1,1,2,3,4,5,7,8,10,11,12,12,13,12,12,11,10,8,7,5,4,3,2,1,1],[1,1,2,3,5,6,9,11,14,16,19,20,23,23,24,23,23,20,19,16,14,11,9,6,5,3,2,1,1],[1,1,2,3,5,7,10,12,16,19,23,25,29,30,32,32,32,30,29,25,23,19,16,12,10,7,5,3,2,1,1],[1,1,2,3,5,7,10,12,16,19,23,25,29,30,32,32,32,30,29,25,23,19,16,12,10,7,5,3,2,1,1],[1,1,2,3,5,6,9,11,14,16,19,20,23,23,24,23,23,20,19,16,14,11,9,6,5,3,2,1,1],[1,1,2,3,4,5,7,8,10,11,12,12,13,12,12,11,10,8,7,5,4,3,2,1,1],[1,1,2,2,3,3,4,4,5,5,5,4,4,3,3,2,2,1,1],[1,1,1,1,1,1,1,1,1,1,1],[1]],
 [[1],[1,1,1,1,1,1,1,1,1,1,1,1],[1,1,2,2,3,3,4,4,5,5,6,5,5,4,4,3,3,2,2,1,1],[1,1,2,3,4,5,7,8,10,12,13,14,15,15,15,15,14,13,12,10,8,7,5,4,3,2,1,1],[1,1,2,3,5,6,9,11,15,17,21,23,27,28,31,31,33,31,31,28,27,23,21,17,15,11,9,6,5,3,2,1,1],[1,1,2,3,5,7,10,13,17,21,26,30,35,39,43,46,48,49,49,48,46,43,39,35,30,26,21,17,13,10,7,5,3,2,1,1],[1,1,2,3,5,7,11,13,18,22,28,32,39,42,48,51,55,55,58,55,55,51,48,42,39,32,28,22,18,13,11,7,5,3,2,1,1],[1,1,2,3,5,7,10,13,17,21,26,30,35,39,43,46,48,49,49,48,46,43,39,35,30,26,21,17,13,10,7,5,3,2,1,1],[1,1,2,3,5,6,9,11,15,17,21,23,27,28,31,31,33,31,31,28,27,23,21,17,15,11,9,6,5,3,2,1,1],[1,1,2,3,4,5,7,8,10,12,13,14,15,15,15,15,14,13,12,10,8,7,5,4,3,2,1,1],[1,1,2,2,3,3,4,4,5,5,6,5,5,4,4,3,3,2,2,1,1],[1,1,1,1,1,1,1,1,1,1,1,1],[1]],
 [[1],[1,1,1,1,1,1,1,1,1,1,1,1,1],[1,1,2,2,3,3,4,4,5,5,6,6,6,5,5,4,4,3,3,2,2,1,1],[1,1,2,3,4,5,7,8,10,12,14,15,17,17,18,18,18,17,17,15,14,12,10,8,7,5,4,3,2,1,1],[1,1,2,3,5,6,9,11,15,18,22,25,30,32,36,38,41,41,43,41,41,38,36,32,30,25,22,18,15,11,9,6,5,3,2,1,1],[1,1,2,3,5,7,10,13,18,22,28,33,40,45,52,57,63,66,70,71,73,71,70,66,63,57,52,45,40,33,28,22,18,13,10,7,5,3,2,1,1],[1,1,2,3,5,7,11,14,19,24,31,37,46,52,61,68,76,81,88,90,94,94,94,90,88,81,76,68,61,52,46,37,31,24,19,14,11,7,5,3,2,1,1],[1,1,2,3,5,7,11,14,19,24,31,37,46,52,61,68,76,81,88,90,94,94,94,90,88,81,76,68,61,52,46,37,31,24,19,14,11,7,5,3,2,1,1],[1,1,2,3,5,7,10,13,18,22,28,33,40,45,52,57,63,66,70,71,73,71,70,66,63,57,52,45,40,33,28,22,18,13,10,7,5,3,2,1,1],[1,1,2,3,5,6,9,11,15,18,22,25,30,32,36,38,41,41,43,41,41,38,36,32,30,25,22,18,15,11,9,6,5,3,2,1,1],[1,1,2,3,4,5,7,8,10,12,14,15,17,17,18,18,18,17,17,15,14,12,10,8,7,5,4,3,2,1,1],[1,1,2,2,3,3,4,4,5,5,6,6,6,5,5,4,4,3,3,2,2,1,1],[1,1,1,1,1,1,1,1,1,1,1,1,1],[1]],
 [[1],[1,1,1,1,1,1,1,1,1,1,1,1,1,1],[1,1,2,2,3,3,4,4,5,5,6,6,7,6,6,5,5,4,4,3,3,2,2,1,1],[1,1,2,3,4,5,7,8,10,12,14,16,18,19,20,21,21,21,21,20,19,18,16,14,12,10,8,7,5,4,3,2,1,1],[1,1,2,3,5,6,9,11,15,18,23,26,32,35,40,43,48,49,53,53,55,53,53,49,48,43,40,35,32,26,23,18,15,11,9,6,5,3,2,1,1],[1,1,2,3,5,7,10,13,18,23,29,35,43,50,58,66,74,81,88,93,98,101,102,102,101,98,93,88,81,74,66,58,50,43,35,29,23,18,13,10,7,5,3,2,1,1],[1,1,2,3,5,7,11,14,20,25,33,40,51,59,71,81,94,103,116,123,134,139,146,147,151,147,146,139,134,123,116,103,94,81,71,59,51,40,33,25,20,14,11,7,5,3,2,1,1],[1,1,2,3,5,7,11,15,20,26,34,42,53,63,75,87,100,112,125,136,146,155,162,166,169,169,166,162,155,146,136,125,112,100,87,75,63,53,42,34,26,20,15,11,7,5,3,2,1,1],[1,1,2,3,5,7,11,14,20,25,33,40,51,59,71,81,94,103,116,123,134,139,146,147,151,147,146,139,134,123,116,103,94,81,71,59,51,40,33,25,20,14,11,7,5,3,2,1,1],[1,1,2,3,5,7,10,13,18,23,29,35,43,50,58,66,74,81,88,93,98,101,102,102,101,98,93,88,81,74,66,58,50,43,35,29,23,18,13,10,7,5,3,2,1,1],[1,1,2,3,5,6,9,11,15,18,23,26,32,35,40,43,48,49,53,53,55,53,53,49,48,43,40,35,32,26,23,18,15,11,9,6,5,3,2,1,1],[1,1,2,3,4,5,7,8,10,12,14,16,18,19,20,21,21,21,21,20,19,18,16,14,12,10,8,7,5,4,3,2,1,1],[1,1,2,2,3,3,4,4,5,5,6,6,7,6,6,5,5,4,4,3,3,2,2,1,1],[1,1,1,1,1,1,1,1,1,1,1,1,1,1],[1]]]
def arT:List (List Int):=[[1],[1],[1,1],[1,2,1,1],[1,3,3,3,2,1,1],[1,4,6,7,7,5,5,3,2,1,1],[1,5,10,14,17,16,16,14,11,9,7,5,3,2,1,1],[1,6,15,25,35,40,43,44,40,37,32,28,22,18,13,11,7,5,3,2,1,1],[1,7,21,41,65,86,102,115,118,118,113,106,96,85,73,63,53,42,34,26,20,15,11,7,5,3,2,1,1]]
def OX:List (List Int):=[[1],[1],[1,0,1],[1,0,1,1,1,0,1],[1,0,1,1,2,1,2,1,2,1,1,0,1],[1,0,1,1,2,2,3,2,4,3,4,3,4,2,3,2,2,1,1,0,1],[1,0,1,1,2,2,4,3,5,5,7,6,9,7,9,8,9,7,9,6,7,5,5,3,4,2,2,1,1,0,1],[1,0,1,1,2,2,4,4,6,6,9,9,13,12,16,16,19,18,22,20,23,21,23,20,22,18,19,16,16,12,13,9,9,6,6,4,4,2,2,1,1,0,1]]
def bnT:List (List Int):=[[1],[1,1],[1,2,1],[1,3,3,1],[1,4,6,4,1],[1,5,10,10,5,1],[1,6,15,20,15,6,1],[1,7,21,35,35,21,7,1],[1,8,28,56,70,56,28,8,1],[1,9,36,84,126,126,84,36,9,1],[1,10,45,120,210,252,210,120,45,10,1],[1,11,55,165,330,462,462,330,165,55,11,1],[1,12,66,220,495,792,924,792,495,220,66,12,1],[1,13,78,286,715,1287,1716,1716,1287,715,286,78,13,1],[1,14,91,364,1001,2002,3003,3432,3003,2002,1001,364,91,14,1]]
def gs(n k:Nat):List Int:=(gsT.getD n []).getD k []
def M1(a b:List Int)(s i:Nat):Int:=AB a i+(if s<=i then AB b ((i-s:Nat):Int)else 0)
theorem gs0:BR 15 (λn=>BR (n+1) λk=>decide ((gs n k).length=k*(n-k)+1)&&(gs n k).all (AR 0 10000)&&decide (gs n (n-k)=gs n k))=true:=by kernel_rfl
theorem AAO:BR 15 (λn=>decide (gs n 0=[1]/\gs n n=[1]))=true:=by kernel_rfl
theorem gsS0:BR 14 (λm=>BR (m+2) λk=>(decide (k=0\/k=m+1))||decide ((List.range (k*(m+1-k)+1)).map (M1 (gs m k) (gs m (k-1)) (m+1-k))=gs (m+1) k))=true:=by kernel_rfl
theorem IN{n k:Nat}(h:n<=14)(H:k<=n):(gs n k).length=k*(n-k)+1:=by have:=BY (BY gs0 n (by omega)) k (by omega);simp only[AV,Aa]at this;exact this.1.1
theorem Rg{n k:Nat}(h:n<=14)(H:k<=n)(i:Nat):0<=AB (gs n k) i/\AB (gs n k) i<=10000:=by have:=BY (BY gs0 n (by omega)) k (by omega);simp only[AV,Aa,Ao]at this;rcases BS i (gs n k).length with c|c;exact A5.1 (this.1.2 _ (by simp[AB,c]));rw[Lf c];omega
theorem Qr{n:Nat}(h:n<=14):gs n 0=[1]:=by have:=BY AAO n (by omega);simp only[Aa]at this;exact this.1
theorem Vy{n:Nat}(h:n<=14):gs n n=[1]:=by have:=BY AAO n (by omega);simp only[Aa]at this;exact this.2
theorem AMB{m k:Nat}(h:m<=13)(h0:0<k)(b:k<=m)(i:Nat):M1 (gs m k) (gs m (k-1)) (m+1-k) i=AB (gs (m+1) k) i:=by
 have H:=BY (BY gsS0 m (by omega)) k (by omega);simp only[Bool.or_eq_true,Aa]at H;have H:(List.range (k*(m+1-k)+1)).map (M1 (gs m k) (gs m (k-1)) (m+1-k))=gs (m+1) k:=by rcases H with H|H;omega;exact H
 have l:=IN (n:=m+1) (k:=k) (by omega) (by omega);rcases BS i (gs (m+1) k).length with c|c;rw[<-H];have:i<k*(m+1-k)+1:=by omega
 simp[AB,this];rw[Lf c,M1];have L:=IN (n:=m) (k:=k) (by omega) (by omega);have f:=IN (n:=m) (k:=k-1) (by omega) (by omega);have e:k*(m+1-k)=k*(m-k)+k:=by rw[show m+1-k=(m-k)+1 by omega,Nat.mul_succ]
 have a:(k-1)*(m-(k-1))+(m+1-k)=k*(m+1-k):=by obtain⟨j,rfl⟩:∃j,k=j+1:=⟨k-1,by omega⟩;rw[Nat.add_sub_cancel,Nat.succ_mul,show m+1-(j+1)=m-j by omega]
 rw[Lf (by omega)];split;rw[Lf (by omega)]<;>rfl;rfl
theorem Rb{n k:Nat}(h:n<=14)(H:k<=n):k*(n-k)<=196:=by have:k*(n-k)<=14*14:=Nat.mul_le_mul (by omega) (by omega);omega
theorem UY[HA K]:∀(n k:Nat),n<=14->k<=n->K 466 [.n n,.n k] [LI (gs n k)]
 |n,k,H,R=>by
  refine qb I466 ?_
  by_cases h0:k=0
  subst h0
  rw[Qr H]
  simp(disch:=try exact dV) only[AD,L4]
  by_cases C:k=n
  subst C
  rw[Vy H]
  simp(disch:=try exact dV) only[AD,L4]
  obtain⟨m,rfl⟩:∃m,n=m+1:=⟨n-1,by omega⟩
  have l:=UY m k (by omega) (by omega)
  have e:=UY m (k-1) (by omega) (by omega)
  have s:((k-1:Nat):Int)=(k:Int)-1:=by omega
  rw[s]at e
  have O:((m+1:Nat):Int)-1=m:=by omega
  have L:=IN (n:=m) (k:=k) (by omega) (by omega)
  have F:=IN (n:=m) (k:=k-1) (by omega) (by omega)
  have I:=IN (n:=m+1) (k:=k) (by omega) (by omega)
  have T:=Rb (n:=m+1) (k:=k) (by omega) (by omega)
  have N:k*(m+1-k)=k*(m-k)+k:=by
   rw[show m+1-k=(m-k)+1 by omega,Nat.mul_succ]
  have M:(k-1)*(m-(k-1))+(m+1-k)=k*(m+1-k):=by
   obtain⟨j,rfl⟩:∃j,k=j+1:=⟨k-1,by omega⟩
   rw[Nat.add_sub_cancel,Nat.succ_mul,show m+1-(j+1)=m-j by omega]
  have b1:=Rg (n:=m) (k:=k) (by omega) (by omega)
  have b2:=Rg (n:=m) (k:=k-1) (by omega) (by omega)
  have r:=AMB (m:=m) (k:=k) (by omega) (by omega) (by omega)
  generalize gs m k=a at l L b1 r
  generalize gs m (k-1)=b at e F b2 r
  generalize gs (m+1) k=c at I r|-
  have x:max (a.length:Int) ((b.length:Int)+((m:Int)+1)-(k:Int))=(c.length:Nat):=by omega
  simp(disch:=try exact dV) only[AD,Bm]
  refine cB l ?_
  simp(disch:=try exact dV) only[AD,Bm]
  refine cB e ?_
  simp(disch:=try exact dV) only[AD,x]
  refine Aj (λi (o:List Int)=>o.length=c.length/\∀j:Nat,j<c.length->AB o j=if j<i then AB a j else 0) (λi o=>[.n ((m:Int)+1),.n k,.u,.u,LI b,LI o,.u,.u,.u,.u,.u,LI a,.n a.length,.n i,.u,.u,.u,.u,.u]) a.length (rep (c.length:Nat) 0) ⟨by simp[rep],λj h=>by simp[AB,rep,h]⟩ rfl (λi o hi P=>?_) (λo P=>?_)
  obtain⟨G,g⟩:=P
  refine wW ?_
  refine⟨_,⟨by rw[DO,G],λj h=>?_⟩,rfl⟩
  rw[H6 (by omega)]
  by_cases q:i=j
  subst q;rw[if_pos rfl,if_pos (by omega)]
  rw[if_neg q,g j h]
  by_cases Q:j<i
  rw[if_pos Q,if_pos (by omega)]
  rw[if_neg Q,if_neg (by omega)]
  obtain⟨G,g⟩:=P
  have g:∀j:Nat,j<c.length->AB o j=AB a j:=by
   intro j h
   rw[g j h]
   split
   rfl
   rw[Lf (by omega)]
  refine wW ?_
  refine Aj (λi (o:List Int)=>o.length=c.length/\∀j:Nat,j<c.length->AB o j=AB a j+(if m+1-k<=j/\j<m+1-k+i then AB b ((j-(m+1-k):Nat):Int)else 0)) (λi o=>[.n ((m:Int)+1),.n k,.u,.u,.u,LI o,.u,.u,.u,.u,.u,.u,.u,.u,.u,LI b,.n b.length,.n i,.u]) b.length o ⟨G,λj h=>by rw[g j h,if_neg (by omega)];omega⟩ rfl (λi o hi P=>?_) (λo P=>?_)
  obtain⟨G,g⟩:=P
  have B:(i:Int)+((m:Int)+1)-(k:Int)=((m+1-k+i:Nat):Int):=by omega
  have f:=g (m+1-k+i) (by omega)
  rw[if_neg (by omega)]at f
  have J:=b1 (m+1-k+i)
  have c2:=b2 i
  simp(disch:=try exact dV) only[AD,B]
  refine⟨_,⟨by rw[DO,G],λj h=>?_⟩,rfl⟩
  rw[H6 (by omega)]
  by_cases q:m+1-k+i=j
  subst q
  rw[if_pos rfl,if_pos (by omega),f,show m+1-k+i-(m+1-k)=i by omega];omega
  rw[if_neg q,g j h]
  by_cases Q:m+1-k<=j/\j<m+1-k+i
  rw[if_pos Q,if_pos (by omega)]
  rw[if_neg Q,if_neg (by omega)]
  obtain⟨G,g⟩:=P
  refine wW ?_
  refine Dl (HW G.symm λj h=>?_)
  rw[g j h,<-r j,M1]
  by_cases q:m+1-k<=j
  rw[if_pos q]
  by_cases Q:j<m+1-k+b.length
  rw[if_pos ⟨q,Q⟩]
  rw[if_neg (by omega),Lf (p:=b) (by omega)]
  rw[if_neg q,if_neg (by omega)]
attribute [irreducible] gs gsT OX arT bnT
end Go.Cat
namespace Go.Cat
set_option maxRecDepth 100000
variable{K:Nat->List D->List D->Prop}
def Dg(m k:Nat):List (List Int):=(List.range (min m k+1)).map (gs m)
theorem SM{m k:Nat}:(Dg m k).length=min m k+1:=by simp[Dg]
theorem VH{m k j:Nat}(h:j<=min m k):AF (Dg m k) j=gs m j:=by
 have:j<min m k+1:=by omega
 simp[Dg,AF,this]
theorem AaN:D.l []=LL []:=rfl
theorem Vh{a b:List (List Int)}(h:a.length+b.length<=1099511627776):ED false (LL a) (LL b)=some (LL (a++b)):=KA ⟨h,rfl⟩
theorem AeM{m k j:Nat}(h:j<=min m k):(Dg m k).take (j+1)=(Dg m k).take j++[gs m j]:=by have l:=SM (m:=m) (k:=k);rw[CP (by omega)];simp[Dg]
set_option maxHeartbeats 2000000 in
theorem Af6[HA K]{n k:Nat}(hn:n<=14)(hk:k<=n):K 467 [.n n,.n k] [LI (gs n k)]:=by
 refine qb I467 ?_;have F:Dg 0 k=[[1]]:=by simp[Dg,Qr (n:=0) (by omega)]
 simp(disch:=try exact dV) only[AD,L4,GB];refine AN (λ_=>True) (λi=>[.n n,.n k,.u,LL (Dg i k),.n ((i:Int)+1),.u,.u,.u,.u,.u,.u,.u,.u,.u,.u,.u]) n trivial (by rw[F];rfl) (λi hi _=>?_) (λ_=>?_);have hl:=SM (m:=i) (k:=k);have hl1:=SM (m:=i+1) (k:=k);have s:min ((i:Int)+1) (k:Int)=((min (i+1) k:Nat):Int):=by omega
 simp(disch:=try exact dV) only[AD,AaN];refine AN (λ_=>True) (λj=>[.n n,.n k,.u,LL (Dg i k),.n ((i:Int)+1),LL ((Dg (i+1) k).take j),.n j,.u,.u,.u,.u,.u,.u,.u,.u,.u]) (min (i+1) k+1) trivial (by simp) (λj hj _=>?_) (λ_=>?_);have J:((Dg (i+1) k).take j).length=j:=by simp;omega
 have N:=AeM (m:=i+1) (k:=k) (j:=j) (by omega);have U:=IN (n:=i+1) (k:=j) (by omega) (by omega);have hm:=Rb (n:=i+1) (k:=j) (by omega) (by omega);obtain⟨M,hM⟩:∃M,M=j*(i+1-j):=⟨_,rfl⟩;have Y:((j:Int)*((i:Int)+1-j))=(M:Nat):=by rw[hM,show(i:Int)+1-j=((i+1-j:Nat):Int) by omega];exact(Int.natCast_mul _ _).symm
 have b1:=λ(q:j<=i)=>Rg (n:=i) (k:=j) (by omega) q;have b2:=λ(q:0<j)=>Rg (n:=i) (k:=j-1) (by omega) (by omega);have l1:=λ(q:j<=i)=>IN (n:=i) (k:=j) (by omega) q;have V:=λ(q:0<j)=>IN (n:=i) (k:=j-1) (by omega) (by omega);have f3:j<=i->j*(i+1-j)=j*(i-j)+j:=by intro q;rw[show i+1-j=(i-j)+1 by omega,Nat.mul_succ]
 have T:0<j->(j-1)*(i-(j-1))+(i+1-j)=j*(i+1-j):=by intro q;obtain⟨c,rfl⟩:∃c,j=c+1:=⟨j-1,by omega⟩;rw[Nat.add_sub_cancel,Nat.succ_mul,show i+1-(c+1)=i-c by omega]
 have r:=λ(q:0<j)(Q:j<=i)=>AMB (m:=i) (k:=j) (by omega) q Q;have z0:j=0->gs (i+1) j=[1]/\gs i j=[1]:=by intro q;subst q;exact⟨Qr (by omega),Qr (by omega)⟩
 have zn:j=i+1->gs (i+1) j=[1]/\gs i (j-1)=[1]:=by intro q;subst q;exact⟨Vy (by omega),by rw[Nat.add_sub_cancel];exact Vy (by omega)⟩
 obtain⟨L,hL⟩:∃L,L=j*(i+1-j)+1:=⟨_,rfl⟩;have Z:((M:Nat):Int)+1=(L:Nat):=by omega
 have B:j<=i->AF (Dg i k) j=gs i j:=λq=>VH (by omega);have f:0<j->AF (Dg i k) ((j:Int)-1)=gs i (j-1):=λq=>by rw[show(j:Int)-1=((j-1:Nat):Int) by omega];exact VH (by omega)
 have whole:∀(o:List Int),o.length=L->(∀t:Nat,t<L->AB o t=(if j<=i then AB (gs i j) t else 0)+(if 0<j/\i+1-j<=t then AB (gs i (j-1)) ((t-(i+1-j):Nat):Int)else 0))->o=gs (i+1) j:=by
  intro o h1 h2;refine HW (by omega) λt h3=>?_;rw[h2 t (by omega)];by_cases q:j=0;have z:=z0 q;rw[if_pos (by omega),if_neg (by omega),z.1,z.2];omega;by_cases Q:j=i+1;have z:=zn Q;have hL1:L=1:=by rw[hL,Q];simp
  have:t=0:=by omega
  subst this;rw[if_neg (by omega),if_pos (by omega),z.1,z.2];simp[AB];have:=r (by omega) (by omega) t;rw[M1]at this;rw[if_pos (by omega),<-this];by_cases x:i+1-j<=t;rw[if_pos ⟨by omega,x⟩,if_pos x];rw[if_neg (λq=>x q.2),if_neg x]
 rw[N];simp(disch:=try exact dV) only[AD,s,Y,Z];by_cases a:j<=i;have k1:=l1 a;have R:=b1 a;have O:=B a;have k3:=f3 a;refine wW ?_;refine Aj (λt (o:List Int)=>o.length=L/\∀u:Nat,u<L->AB o u=if u<t then AB (gs i j) u else 0) (λt o=>[.n n,.n k,.u,LL (Dg i k),.n ((i:Int)+1),LL ((Dg (i+1) k).take j),.n j,LI o,.n t,.u,.u,.u,.u,.u,.u,.u]) (gs i j).length (rep (L:Nat) 0) ⟨by simp[rep],λu H=>by simp[AB,rep,H]⟩ rfl (λt o J P=>?_) (λo P=>?_);obtain⟨G,g⟩:=P;have b:=g t (by omega);rw[if_neg (by omega)]at b;have c2:=R t;simp(disch:=try exact dV) only[AD,O,b];refine⟨_,⟨by rw[DO,G],λu H=>?_⟩,rfl⟩;rw[H6 (by omega)];by_cases q:t=u;subst q;rw[if_pos rfl,if_pos (by omega)];omega;rw[if_neg q,g u H];by_cases Q:u<t;rw[if_pos Q,if_pos (by omega)];rw[if_neg Q,if_neg (by omega)];obtain⟨G,g⟩:=P;have g:∀u:Nat,u<L->AB o u=AB (gs i j) u:=by intro u H;rw[g u H];by_cases q:u<(gs i j).length;rw[if_pos q];rw[if_neg q];exact(Lf (by omega)).symm
 simp(disch:=try exact dV) only[AD,O];by_cases h:0<j;have k2:=V h;have C:=b2 h;have a2:=f h;have k4:=T h;refine wW ?_;refine Aj (λt (o:List Int)=>o.length=L/\∀u:Nat,u<L->AB o u=AB (gs i j) u+(if i+1-j<=u/\u<i+1-j+t then AB (gs i (j-1)) ((u-(i+1-j):Nat):Int)else 0)) (λt o=>[.n n,.n k,.u,LL (Dg i k),.n ((i:Int)+1),LL ((Dg (i+1) k).take j),.n j,LI o,.u,.n t,.u,.u,.u,.u,.u,.u]) (gs i (j-1)).length o ⟨G,λu H=>by rw[g u H,if_neg (by omega)];omega⟩ rfl (λt o J P=>?_) (λo P=>?_);obtain⟨G,g⟩:=P;have I:(t:Int)+((i:Int)+1)-(j:Int)=((i+1-j+t:Nat):Int):=by omega
 have b:=g (i+1-j+t) (by omega);rw[if_neg (by omega)]at b;have c2:=R (i+1-j+t);have W:=C t;simp(disch:=try exact dV) only[AD,a2,I];refine⟨_,⟨by rw[DO,G],λu H=>?_⟩,rfl⟩;rw[H6 (by omega)];by_cases q:i+1-j+t=u;subst q;rw[if_pos rfl,if_pos (by omega),b,show i+1-j+t-(i+1-j)=t by omega];omega;rw[if_neg q,g u H];by_cases Q:i+1-j<=u/\u<i+1-j+t;rw[if_pos Q,if_pos (by omega)];rw[if_neg Q,if_neg (by omega)];obtain⟨G,g⟩:=P;have l:=whole o G λu H=>by rw[g u H,if_pos a];by_cases q:i+1-j<=u;rw[if_pos ⟨q,by omega⟩,if_pos ⟨h,q⟩];rw[if_neg (by omega),if_neg (by omega)]
 subst l;simp(disch:=try exact dV) only[AD,a2,GB,Vh];have l:=whole o G λu H=>by rw[g u H,if_pos a,if_neg (by omega)];omega
 subst l;simp(disch:=try exact dV) only[AD,GB,Vh];have h:0<j:=by omega
 have k2:=V h;have C:=b2 h;have a2:=f h;have k4:=T h;refine wW ?_;refine Aj (λt (o:List Int)=>o.length=L/\∀u:Nat,u<L->AB o u=(if i+1-j<=u/\u<i+1-j+t then AB (gs i (j-1)) ((u-(i+1-j):Nat):Int)else 0)) (λt o=>[.n n,.n k,.u,LL (Dg i k),.n ((i:Int)+1),LL ((Dg (i+1) k).take j),.n j,LI o,.u,.n t,.u,.u,.u,.u,.u,.u]) (gs i (j-1)).length (rep (L:Nat) 0) ⟨by simp[rep],λu H=>by rw[if_neg (by omega)];simp[AB,rep,H]⟩ rfl (λt o J P=>?_) (λo P=>?_);obtain⟨G,g⟩:=P;have I:(t:Int)+((i:Int)+1)-(j:Int)=((i+1-j+t:Nat):Int):=by omega
 have b:=g (i+1-j+t) (by omega);rw[if_neg (by omega)]at b;have W:=C t;simp(disch:=try exact dV) only[AD,a2,I,b];refine⟨_,⟨by rw[DO,G],λu H=>?_⟩,rfl⟩;rw[H6 (by omega)];by_cases q:i+1-j+t=u;subst q;rw[if_pos rfl,if_pos (by omega),show i+1-j+t-(i+1-j)=t by omega];omega;rw[if_neg q,g u H];by_cases Q:i+1-j<=u/\u<i+1-j+t;rw[if_pos Q,if_pos (by omega)];rw[if_neg Q,if_neg (by omega)];obtain⟨G,g⟩:=P;have l:=whole o G λu H=>by rw[g u H,if_neg a];by_cases q:i+1-j<=u;rw[if_pos ⟨q,by omega⟩,if_pos ⟨h,q⟩];omega;rw[if_neg (by omega),if_neg (by omega)];omega
 subst l;simp(disch:=try exact dV) only[AD,a2,GB,Vh];have e:(Dg (i+1) k).take (min (i+1) k+1)=Dg (i+1) k:=List.take_of_length_le (by omega);rw[e];simp(disch:=try exact dV) only[AD,s];have hl:=SM (m:=n) (k:=k);have e:=VH (m:=n) (k:=k) (j:=k) (by omega);simp(disch:=try exact dV) only[AD,e]
def Lx(n k:Int):Bool:=AR 0 14 n&&AR 0 n k
def M5(n k:Int):List Int:=if Lx n k=true then gs n.toNat k.toNat else []
theorem AhC[HA K]{n k:Int}:K 412 [.n n,.n k] [LI (M5 n k),.b (Lx n k)]:=by
 refine qw I412 ?_;refine cB Bq ?_
 cases h1:AR 0 14 n;simp(disch:=try exact dV) only[AD,E3];simp[M5,Lx,h1];refine wW ?_;refine cB Bq ?_
 cases h2:AR 0 n k;simp(disch:=try exact dV) only[AD,E3];simp[M5,Lx,h2];have b1:=A5.1 h1;have b2:=A5.1 h2;obtain⟨m,rfl⟩:=CE b1.1;obtain⟨c,rfl⟩:=CE b2.1;refine wW ?_;refine cW (UY m c (by omega) (by omega)) ?_;simp[M5,Lx,h1,h2]
def B6(n:Int):List Int:=if AR 0 7 n=true then OX.getD n.toNat []else []
theorem cp0:BR 8 (λn=>match Jr (gs (2*n) n) (rep ((n+1:Nat):Int) 1)with|some x=>decide (x.1=OX.getD n [])|none=>false)=true:=by kernel_rfl
theorem cp1:BR 8 (λn=>decide (DL (Iy (rep ((n+1:Nat):Int) 1) (Bh (gs (2*n) n) (rep ((n+1:Nat):Int) 1)) (gs (2*n) n,rep (Bh (gs (2*n) n) (rep ((n+1:Nat):Int) 1):Nat) 0)).2=OX.getD n []))=true:=by kernel_rfl
theorem AQC[HA K]{n:Int}:K 408 [.n n] [LI (B6 n),.b (AR 0 7 n)]:=by
 refine qw I408 ?_;refine cB Bq ?_
 cases h1:AR 0 7 n;simp(disch:=try exact dV) only[AD,E3];simp[B6,h1];have b1:=A5.1 h1;obtain⟨m,rfl⟩:=CE b1.1;have T:(2*(m:Int)).toNat=2*m:=by omega
 have e:=AhC (K:=K) (n:=2*(m:Int)) (k:=m);have o:Lx (2*(m:Int)) m=true:=by simp only[Lx,AV];exact⟨A5.2 (by omega),A5.2 (by omega)⟩
 have R:M5 (2*(m:Int)) m=gs (2*m) m:=by simp only[M5,o,if_true,BM,T]
 rw[o,R]at e;have g:=np_i (K:=K) (n:=(m:Int)+1);have O:OO ((m:Int)+1)=true:=A5.2 (by omega);have i:QC ((m:Int)+1)=rep ((m+1:Nat):Int) 1:=by simp only[QC,O,if_true];rfl
 rw[O,i]at g;have l:=IN (n:=2*m) (k:=m) (by omega) (by omega);have H:=Rb (n:=2*m) (k:=m) (by omega) (by omega);have j:(rep ((m+1:Nat):Int) (1:Int)).length=m+1:=by rw[LV];omega
 have f:=dv_i (K:=K) (a:=gs (2*m) m) (b:=rep ((m+1:Nat):Int) 1) (by omega) (by omega);have c:=BY cp0 m (by omega)
 cases hq:Jr (gs (2*m) m) (rep ((m+1:Nat):Int) 1)with
 |none=>rw[hq]at c;cases c
 |some y=>
  rw[hq]at f c
  simp only[Aa]at c
  have h:B6 (m:Int)=y.1:=by simp only[B6,h1,if_true,BM,c]
  rw[h]
  refine wW ?_
  refine cW e ?_
  refine cW g ?_
  exact cZ f
theorem AC1[HA K]{n:Int}:K 425 [.n n] [LI (B6 n),.b (AR 0 7 n)]:=by
 refine qw I425 ?_;refine cB Bt ?_
 cases h1:AR 0 7 n;simp(disch:=try exact dV) only[AD,E3];simp[B6,h1];have b1:=A5.1 h1;obtain⟨m,rfl⟩:=CE b1.1;have e:=Af6 (K:=K) (n:=2*m) (k:=m) (by omega) (by omega);have f:=Ab7 (K:=K) (n:=m+1) (by omega);rw[show((2*m:Nat):Int)=2*(m:Int) by omega]at e;rw[show((m+1:Nat):Int)=(m:Int)+1 by omega]at f;have l:=IN (n:=2*m) (k:=m) (by omega) (by omega);have H:=Rb (n:=2*m) (k:=m) (by omega) (by omega);have i:(rep ((m+1:Nat):Int) (1:Int)).length=m+1:=by rw[LV];omega
 have h:=VY (K:=K) (a:=gs (2*m) m) (b:=rep ((m+1:Nat):Int) 1) (by omega) (by omega) (by omega);have c:=BY cp1 m (by omega);simp only[Aa]at c;have g:B6 (m:Int)=OX.getD m []:=by simp only[B6,h1,if_true,BM]
 rw[g,<-c];refine wW ?_;refine cW e ?_;refine cW f ?_;exact cZ h
end Go.Cat
