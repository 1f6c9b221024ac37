/-
 Triangulations: the triangles that the reference finds are those of the tree; by the kernel, over all triangulations.
-/
import Derived.Test.YtnjjceodpbhlmaaGreatPfCkA
import Derived.Test.YtnjjceodpbhlmaaGreatPfBT
set_option linter.unusedSimpArgs false
set_option linter.unusedVariables false
namespace Go.Cat
variable {K:Nat→List D→List D→Prop}
set_option maxRecDepth 100000
def C0:Nat→List (List Int)
 | 3=>[]
 | 4=>[[0,2],[1,3]]
 | 5=>[[0,2],[0,3],[1,3],[1,4],[2,4]]
 | 6=>[[0,2],[0,3],[0,4],[1,3],[1,4],[1,5],[2,4],[2,5],[3,5]]
 | 7=>[[0,2],[0,3],[0,4],[0,5],[1,3],[1,4],[1,5],[1,6],[2,4],[2,5],[2,6],[3,5],[3,6],[4,6]]
 | 8=>[[0,2],[0,3],[0,4],[0,5],[0,6],[1,3],[1,4],[1,5],[1,6],[1,7],[2,4],[2,5],[2,6],[2,7],[3,5],[3,6],[3,7],[4,6],[4,7],[5,7]]
 | 9=>[[0,2],[0,3],[0,4],[0,5],[0,6],[0,7],[1,3],[1,4],[1,5],[1,6],[1,7],[1,8],[2,4],[2,5],[2,6],[2,7],[2,8],[3,5],[3,6],[3,7],[3,8],[4,6],[4,7],[4,8],[5,7],[5,8],[6,8]]
 | 10=>[[0,2],[0,3],[0,4],[0,5],[0,6],[0,7],[0,8],[1,3],[1,4],[1,5],[1,6],[1,7],[1,8],[1,9],[2,4],[2,5],[2,6],[2,7],[2,8],[2,9],[3,5],[3,6],[3,7],[3,8],[3,9],[4,6],[4,7],[4,8],[4,9],[5,7],[5,8],[5,9],[6,8],[6,9],[7,9]]
 | _=>[]
theorem AMS:∀ n,n<11→(C0 n).Pairwise (fun x y=>BL x y=true):=by decide
theorem AKB:Ez 11 (fun n=>Ez 10 fun a=>Ez 10 fun b=>!Dh (n:Nat) [(a:Nat),(b:Nat)] || decide ([((a:Nat):Int),((b:Nat):Int)]∈C0 n))=true:=by kernel_rfl
theorem AR5 {n a b:Nat} (hn:n<11) (ha:a<10) (hb:b<10) (h:Dh n [(a:Int),(b:Int)]=true):[(a:Int),(b:Int)]∈C0 n:=by
 have:=Ep (Ep (Ep AKB n hn) a ha) b hb
 rw [h] at this
 simpa using this
theorem AR9 {cs:List (List Int)}:∀ {d:List (List Int)},cs.Pairwise (fun x y=>BL x y=true)→d.Pairwise (fun x y=>BL x y=true)→(∀ r∈d,r∈cs)→d.Sublist cs:=by
 induction cs with
 | nil=>
  intro d _ _ h
  cases d with
  | nil=>exact .slnil
  | cons r t=>exact absurd (h r (by simp)) (by simp)
 | cons c cs ih=>
  intro d hc hd h
  rw [List.pairwise_cons] at hc
  cases d with
  | nil=>exact List.nil_sublist _
  | cons r t=>
   rw [List.pairwise_cons] at hd
   by_cases e:r=c
   ·subst e
    refine (ih hc.2 hd.2 fun x hx=>?_).cons_cons r
    rcases A5.1 (h x (by simp [hx])) with q | q
    ·have:=hd.1 x hx
     rw [q] at this
     have h2:=M3 this
     rw [this] at h2; cases h2
    ·exact q
   ·have hr:r∈cs:=(A5.1 (h r (by simp))).resolve_left e
    have hcr:=hc.1 r hr
    refine (ih hc.2 (List.pairwise_cons.2 hd) fun x hx=>?_).cons c
    rcases A5.1 (h x hx) with q | q
    ·rcases A5.1 hx with p | p
     ·rw [p]; exact hr
     ·have:=hd.1 x p
      rw [q] at this
      have h2:=M3 this
      rw [hcr] at h2; cases h2
    ·exact q
def KD (c:List Int):List (List Int)→(List (List Int)→Bool)→Bool
 | [],k=>k []
 | x::t,k=>match BY c x with
  | true=>KD c t k
  | false=>KD c t fun t'=>k (x::t')
theorem R0 {c:List Int}:∀ {l:List (List Int)} {k:List (List Int)→Bool},KD c l k=k (l.filter fun x=>!BY c x)
 | [],k=>rfl
 | x::t,k=>by
  rw [KD]
  cases h:BY c x
  ·simp only [R0]; simp [h]
  ·simp only [R0]; simp [h]
def Oq:List (List Int)→List (List Int)→(List (List Int)→Bool)→Bool
 | [],acc,k=>k acc
 | x::t,acc,k=>Oq t (x::acc) k
theorem AB9:∀ {l acc:List (List Int)} {k:List (List Int)→Bool},Oq l acc k=k (l.reverse++acc)
 | [],acc,k=>rfl
 | x::t,acc,k=>by rw [Oq,AB9]; simp
def C1 (P:List (List Int)→Bool):Nat→Nat→List (List Int)→List (List Int)→Bool
 | _,0,pre,_=>Oq pre [] P
 | 0,_+1,_,_=>true
 | _+1,_+1,_,[]=>true
 | f+1,k+1,pre,c::cs=>if cs.length<k then true else (KD c cs fun cs'=>C1 P f k (c::pre) cs')&&C1 P f (k+1) pre cs
theorem TD {P:List (List Int)→Bool}:∀ {f k:Nat} {pre cs d:List (List Int)},cs.length≤f→d.length=k→d.Sublist cs→d.Pairwise (fun x y=>BY x y=false)→C1 P f k pre cs=true→P (pre.reverse++d)=true
 | f,0,pre,cs,d,_,hd,_,_,h=>by
  have:d=[]:=List.length_eq_zero_iff.1 hd
  subst this
  unfold C1 at h
  rw [AB9] at h
  exact h
 | 0,k+1,pre,cs,d,hf,hd,hs,_,_=>by
  have:=hs.length_le
  omega
 | f+1,k+1,pre,[],d,hf,hd,hs,_,_=>by
  have:=hs.length_le
  rw [Aq] at this
  omega
 | f+1,k+1,pre,c::cs,d,hf,hd,hs,hp,h=>by
  have hl:=hs.length_le
  simp only [A6] at hl hf
  rw [C1,if_neg (by omega),R0,Ac] at h
  cases hs with
  | cons _ hs=>
   exact TD (by omega) hd hs hp h.2
  | cons_cons _ hs=>
   rename_i t
   rw [List.pairwise_cons] at hp
   have hfl:t.filter (fun x=>!BY c x)=t:=List.filter_eq_self.2 fun x hx=>by rw [hp.1 x hx]; rfl
   have hs2:=hs.filter (fun x=>!BY c x)
   rw [hfl] at hs2
   have:=TD (P:=P) (f:=f) (k:=k) (pre:=c::pre) (d:=t) (by have:=List.length_filter_le (fun x=>!BY c x) cs; omega) (by simpa using hd) hs2 hp.2 h.1
   simpa using this
theorem ET {P:List (List Int)→Bool} {n:Nat} {d:List (List Int)} (h:Bh n d=true) (h3:3≤n) (hk:C1 P 40 (n-3) [] (C0 n)=true):P d=true:=by
 obtain ⟨h1,h2,hok⟩:=FP h
 have hl:d.length=n-3:=by omega
 have hn:n<11:=by omega
 have hok2:∀ i:Nat,i<d.length→DX n (AH d i)=true∧(i=0∨BL (AH d ((i:Int)-1)) (AH d i)=true)∧∀ k:Nat,k<i→BY (AH d k) (AH d i)=false:=fun i hi=>by
  have:=hok i hi
  simp only [DN,Ac,Bool.or_eq_true,Aj] at this
  refine ⟨this.1,this.2.1,fun k hki=>?_⟩
  have h4:=this.2.2
  rw [Kf (by omega),Aj] at h4
  simpa using h4 k hki
 have hlt:∀ i j:Nat,j<i→i<d.length→BL (AH d j) (AH d i)=true:=fun i=>by
  induction i with
  | zero=>intro j hj; omega
  | succ i ih=>
   intro j hj hi
   have h5:=(hok2 (i+1) hi).2.1.resolve_left (by omega)
   rw [show ((i+1:Nat):Int)-1=(i:Int) by omega] at h5
   by_cases e:j=i
   ·rw [e]; exact h5
   ·exact AH4 (ih j (by omega) (by omega)) h5
 have eA:∀ (i:Nat) (hi:i<d.length),AH d i=d[i]:=fun i hi=>by simp [AH,hi]
 have hsub:d.Sublist (C0 n):=by
  refine AR9 (AMS n hn) ?_ fun r hr=>?_
  ·rw [List.pairwise_iff_getElem]
   intro i j hi hj hij
   rw [← eA i hi,← eA j hj]
   exact hlt j i hij hj
  ·obtain ⟨i,hi,rfl⟩:=List.mem_iff_getElem.1 hr
   have hx:=(hok2 i hi).1
   rw [eA i hi] at hx
   have hrw:=Jx h1 hx
   simp only [DX,Ac,Aj] at hx
   have e2:=S1 hrw.1
   have hd:=hx.2
   simp only [Dh,Ac] at hd
   have b0:=BG.1 hd.1.1
   have b1:=BG.1 hd.1.2
   generalize d[i]=r at hx e2 b0 b1
   obtain ⟨a,ha⟩:∃ a:Nat,AD r 0=a:=⟨(AD r 0).toNat,by omega⟩
   obtain ⟨b,hb⟩:∃ b:Nat,AD r 1=b:=⟨(AD r 1).toNat,by omega⟩
   rw [ha,hb] at e2
   rw [e2] at hx ⊢
   exact AR5 hn (by omega) (by omega) hx.2
 have hpw:d.Pairwise (fun x y=>BY x y=false):=by
  rw [List.pairwise_iff_getElem]
  intro i j hi hj hij
  rw [← eA i hi,← eA j hj]
  exact (hok2 j hj).2.2 i hij
 have hcl:∀ n,n<11→(C0 n).length≤40:=by decide
 have:=TD (f:=40) (pre:=[]) (hcl n hn) hl hsub hpw hk
 simpa using this
def oC (n:Int) (d:List (List Int)) (a b k:Nat):List (List Int):=if CY n d a b=true then (List.range k).flatMap (fun (i:Nat)=>if CY n d b (b+1+i:Nat)=true then (if CY n d a (b+1+i:Nat)=true then [[(a:Int),(b:Int),((b+1+i:Nat):Int)]] else []) else []) else []
def oB (n:Int) (d:List (List Int)) (N a k:Nat):List (List Int):=(List.range k).flatMap fun i=>oC n d a (a+1+i) (N-(a+1+i)-1)
def oA (n:Int) (d:List (List Int)) (N k:Nat):List (List Int):=(List.range k).flatMap fun i=>oB n d N i (N-i-1)
theorem AEM {n:Int} {d:List (List Int)} {a b k:Nat}:oC n d a b (k+1)=oC n d a b k++(if CY n d a b=true then (if CY n d b (b+1+k:Nat)=true then (if CY n d a (b+1+k:Nat)=true then [[(a:Int),(b:Int),((b+1+k:Nat):Int)]] else []) else []) else []):=by
 unfold oC
 split
 ·rw [List.range_succ,List.flatMap_append]; simp
 ·rfl
theorem AFI {n:Int} {d:List (List Int)} {N a k:Nat}:oB n d N a (k+1)=oB n d N a k++oC n d a (a+1+k) (N-(a+1+k)-1):=by
 unfold oB
 rw [List.range_succ,List.flatMap_append]; simp
theorem Yl {n:Int} {d:List (List Int)} {N k:Nat}:oA n d N (k+1)=oA n d N k++oB n d N k (N-k-1):=by
 unfold oA
 rw [List.range_succ,List.flatMap_append]; simp
def LH (r:List Int):Prop:=∃ a b c:Nat,r=[(a:Int),(b:Int),(c:Int)]∧a<b∧b<c
theorem ARN {n:Int} {d:List (List Int)} {a b k:Nat} (h:a<b):∀ r∈oC n d a b k,LH r:=by
 intro r hr
 unfold oC at hr
 split at hr
 ·obtain ⟨i,_,hi⟩:=List.mem_flatMap.1 hr
  split at hi
  ·split at hi
   ·rw [List.mem_singleton] at hi
    exact ⟨a,b,b+1+i,hi,h,by omega⟩
   ·simp at hi
  ·simp at hi
 ·simp at hr
theorem ARZ {n:Int} {d:List (List Int)} {N k:Nat}:∀ r∈oA n d N k,LH r:=by
 intro r hr
 obtain ⟨i,_,hi⟩:=List.mem_flatMap.1 hr
 obtain ⟨j,_,hj⟩:=List.mem_flatMap.1 hi
 exact ARN (by omega) r hj
theorem RV {n:Int} {d:List (List Int)} {a b:Nat}:∀ k,(oC n d a b k).length≤k
 | 0=>by unfold oC; split <;> simp
 | k+1=>by
  rw [AEM,Ad]
  have:=RV (n:=n) (d:=d) (a:=a) (b:=b) k
  split
  ·split
   ·split <;> simp <;> omega
   ·simp; omega
  ·simp; omega
theorem Sr {n:Int} {d:List (List Int)} {N a:Nat}:∀ k,(oB n d N a k).length≤k*N
 | 0=>by simp [oB]
 | k+1=>by
  rw [AFI,Ad,Nat.succ_mul]
  have:=Sr (n:=n) (d:=d) (N:=N) (a:=a) k
  have:=RV (n:=n) (d:=d) (a:=a) (b:=a+1+k) (N-(a+1+k)-1)
  omega
def FV (n:Nat) (d:List (List Int)):Bool:=decide ((Dw n d).n+2=n)&&(oA n d n n).isPerm (DR (Dw n d) 0 ((n:Int)-1))
theorem AM2:C1 (FV 3) 40 0 [] (C0 3)=true:=by kernel_rfl
theorem AOP:C1 (FV 4) 40 1 [] (C0 4)=true:=by kernel_rfl
theorem AOL:C1 (FV 5) 40 2 [] (C0 5)=true:=by kernel_rfl
theorem AJB:C1 (FV 6) 40 3 [] (C0 6)=true:=by kernel_rfl
theorem AHX:C1 (FV 7) 40 4 [] (C0 7)=true:=by kernel_rfl
theorem AGU:C1 (FV 8) 40 5 [] (C0 8)=true:=by kernel_rfl
theorem ARM:C1 (FV 9) 40 6 [] (C0 9)=true:=by kernel_rfl
def Fc (n k f i:Nat):Bool:=match (C0 n).drop i with
 | []=>true
 | c::cs=>KD c cs fun cs'=>C1 (FV n) (f-i-1) k [c] cs'
theorem ZN {n k f:Nat} (h:∀ i,i<f→Fc n k f i=true):∀ j i,i+j=f→C1 (FV n) j (k+1) [] ((C0 n).drop i)=true
 | 0,i,e=>by rw [C1]
 | j+1,i,e=>by
  have h1:=h i (by omega)
  have h2:=ZN h j (i+1) (by omega)
  unfold Fc at h1
  have hd:(C0 n).drop (i+1)=((C0 n).drop i).drop 1:=by rw [List.drop_drop]
  rw [hd] at h2
  generalize (C0 n).drop i=l at h1 h2 ⊢
  cases l with
  | nil=>rw [C1]
  | cons c cs=>
   rw [C1]
   split
   ·rfl
   ·rw [show f-i-1=j by omega] at h1
    simp only [Ac]
    exact ⟨h1,h2⟩
theorem AG9:Fc 10 6 40 0=true:=by kernel_rfl
theorem AME:(Fc 10 6 40 1&&Fc 10 6 40 2&&Fc 10 6 40 3)=true:=by kernel_rfl
theorem AGD:(Fc 10 6 40 4&&Fc 10 6 40 5&&Fc 10 6 40 6&&Fc 10 6 40 7)=true:=by kernel_rfl
theorem AG5:Ez 32 (fun i=>Fc 10 6 40 (8+i))=true:=by kernel_rfl
theorem AI5:C1 (FV 10) 40 7 [] (C0 10)=true:=ZN (f:=40) (fun i hi=>by
 have b:=AME
 have c:=AGD
 simp only [Ac] at b c
 by_cases h8:i<8
 ·have:i=0∨i=1∨i=2∨i=3∨i=4∨i=5∨i=6∨i=7:=by omega
  rcases this with rfl | rfl | rfl | rfl | rfl | rfl | rfl | rfl
  ·exact AG9
  ·exact b.1.1
  ·exact b.1.2
  ·exact b.2
  ·exact c.1.1.1
  ·exact c.1.1.2
  ·exact c.1.2
  ·exact c.2
 ·have:=Ep AG5 (i-8) (by omega)
  rwa [show 8+(i-8)=i by omega] at this) 40 0 rfl
theorem AEQ {n:Nat} {d:List (List Int)} (h:Bh n d=true) (h3:3≤n):(Dw n d).n+2=n∧(oA n d n n).Perm (DR (Dw n d) 0 ((n:Int)-1)):=by
 have hk:FV n d=true:=by
  have hn:=(FP h).1
  have:n=3∨n=4∨n=5∨n=6∨n=7∨n=8∨n=9∨n=10:=by omega
  rcases this with rfl | rfl | rfl | rfl | rfl | rfl | rfl | rfl
  ·exact ET h h3 AM2
  ·exact ET h h3 AOP
  ·exact ET h h3 AOL
  ·exact ET h h3 AJB
  ·exact ET h h3 AHX
  ·exact ET h h3 AGU
  ·exact ET h h3 ARM
  ·exact ET h h3 AI5
 simp only [FV,Ac,Aj,List.isPerm_iff] at hk
 exact hk
end Go.Cat
