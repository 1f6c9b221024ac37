/-
 Triangulations: the triangles that the reference finds are those of the tree; by the kernel, over all triangulations.
-/
import Derived.Test.YtihgdjeahjfhfaaGreatPfCkA
import Derived.Test.YtihgdjeahjfhfaaGreatPfTri
set_option linter.unusedSimpArgs false
set_option linter.unusedVariables false
namespace Go.Cat
variable {K:Nat→List D→List D→Prop}
set_option maxRecDepth 100000
def cdL:Nat→List (List Int)
 | 3=>[]
 | 4=>[[0,2],[1,3]]
 | 5=>[[0,2],[0,3],[1,3],[1,4],[2,4]]
 | 6=>[[0,2],[0,3],[0,4],[1,3],[1,4],[1,5],[2,4],[2,5],[3,5]]
 | 7=>[[0,2],[0,3],[0,4],[0,5],[1,3],[1,4],[1,5],[1,6],[2,4],[2,5],[2,6],[3,5],[3,6],[4,6]]
 | 8=>[[0,2],[0,3],[0,4],[0,5],[0,6],[1,3],[1,4],[1,5],[1,6],[1,7],[2,4],[2,5],[2,6],[2,7],[3,5],[3,6],[3,7],[4,6],[4,7],[5,7]]
 | 9=>[[0,2],[0,3],[0,4],[0,5],[0,6],[0,7],[1,3],[1,4],[1,5],[1,6],[1,7],[1,8],[2,4],[2,5],[2,6],[2,7],[2,8],[3,5],[3,6],[3,7],[3,8],[4,6],[4,7],[4,8],[5,7],[5,8],[6,8]]
 | 10=>[[0,2],[0,3],[0,4],[0,5],[0,6],[0,7],[0,8],[1,3],[1,4],[1,5],[1,6],[1,7],[1,8],[1,9],[2,4],[2,5],[2,6],[2,7],[2,8],[2,9],[3,5],[3,6],[3,7],[3,8],[3,9],[4,6],[4,7],[4,8],[4,9],[5,7],[5,8],[5,9],[6,8],[6,9],[7,9]]
 | _=>[]
theorem cd_sorted:∀ n,n<11→(cdL n).Pairwise (fun x y=>ltR x y=true):=by decide
theorem cd_all0:allB 11 (fun n=>allB 10 fun a=>allB 10 fun b=>!dgOK (n:Nat) [(a:Nat),(b:Nat)] || decide ([((a:Nat):Int),((b:Nat):Int)]∈cdL n))=true:=by kernel_rfl
theorem cd_all {n a b:Nat} (hn:n<11) (ha:a<10) (hb:b<10) (h:dgOK n [(a:Int),(b:Int)]=true):[(a:Int),(b:Int)]∈cdL n:=by
 have:=allB_spec (allB_spec (allB_spec cd_all0 n hn) a ha) b hb
 rw [h] at this
 simpa using this
theorem sub_of {cs:List (List Int)}:∀ {d:List (List Int)},cs.Pairwise (fun x y=>ltR x y=true)→d.Pairwise (fun x y=>ltR x y=true)→(∀ r∈d,r∈cs)→d.Sublist cs:=by
 induction cs with
 | nil=>
  intro d _ _ h
  cases d with
  | nil=>exact .slnil
  | cons r t=>exact absurd (h r (by simp)) (by simp)
 | cons c cs ih=>
  intro d hc hd h
  rw [List.pairwise_cons] at hc
  cases d with
  | nil=>exact List.nil_sublist _
  | cons r t=>
   rw [List.pairwise_cons] at hd
   by_cases e:r=c
   ·subst e
    refine (ih hc.2 hd.2 fun x hx=>?_).cons_cons r
    rcases qmn.1 (h x (by simp [hx])) with q | q
    ·have:=hd.1 x hx
     rw [q] at this
     have h2:=ltR_as this
     rw [this] at h2; cases h2
    ·exact q
   ·have hr:r∈cs:=(qmn.1 (h r (by simp))).resolve_left e
    have hcr:=hc.1 r hr
    refine (ih hc.2 (List.pairwise_cons.2 hd) fun x hx=>?_).cons c
    rcases qmn.1 (h x hx) with q | q
    ·rcases qmn.1 hx with p | p
     ·rw [p]; exact hr
     ·have:=hd.1 x p
      rw [q] at this
      have h2:=ltR_as this
      rw [hcr] at h2; cases h2
    ·exact q
def fltC (c:List Int):List (List Int)→(List (List Int)→Bool)→Bool
 | [],k=>k []
 | x::t,k=>match crR c x with
  | true=>fltC c t k
  | false=>fltC c t fun t'=>k (x::t')
theorem fltC_eq {c:List Int}:∀ {l:List (List Int)} {k:List (List Int)→Bool},fltC c l k=k (l.filter fun x=>!crR c x)
 | [],k=>rfl
 | x::t,k=>by
  rw [fltC]
  cases h:crR c x
  ·simp only [fltC_eq]; simp [h]
  ·simp only [fltC_eq]; simp [h]
def revK:List (List Int)→List (List Int)→(List (List Int)→Bool)→Bool
 | [],acc,k=>k acc
 | x::t,acc,k=>revK t (x::acc) k
theorem revK_eq:∀ {l acc:List (List Int)} {k:List (List Int)→Bool},revK l acc k=k (l.reverse++acc)
 | [],acc,k=>rfl
 | x::t,acc,k=>by rw [revK,revK_eq]; simp
def dfsT (P:List (List Int)→Bool):Nat→Nat→List (List Int)→List (List Int)→Bool
 | _,0,pre,_=>revK pre [] P
 | 0,_+1,_,_=>true
 | _+1,_+1,_,[]=>true
 | f+1,k+1,pre,c::cs=>if cs.length<k then true else (fltC c cs fun cs'=>dfsT P f k (c::pre) cs')&&dfsT P f (k+1) pre cs
theorem dfsT_ok {P:List (List Int)→Bool}:∀ {f k:Nat} {pre cs d:List (List Int)},cs.length≤f→d.length=k→d.Sublist cs→d.Pairwise (fun x y=>crR x y=false)→dfsT P f k pre cs=true→P (pre.reverse++d)=true
 | f,0,pre,cs,d,_,hd,_,_,h=>by
  have:d=[]:=List.length_eq_zero_iff.1 hd
  subst this
  unfold dfsT at h
  rw [revK_eq] at h
  exact h
 | 0,k+1,pre,cs,d,hf,hd,hs,_,_=>by
  have:=hs.length_le
  omega
 | f+1,k+1,pre,[],d,hf,hd,hs,_,_=>by
  have:=hs.length_le
  rw [qln] at this
  omega
 | f+1,k+1,pre,c::cs,d,hf,hd,hs,hp,h=>by
  have hl:=hs.length_le
  simp only [qlc] at hl hf
  rw [dfsT,if_neg (by omega),fltC_eq,qba] at h
  cases hs with
  | cons _ hs=>
   exact dfsT_ok (by omega) hd hs hp h.2
  | cons_cons _ hs=>
   rename_i t
   rw [List.pairwise_cons] at hp
   have hfl:t.filter (fun x=>!crR c x)=t:=List.filter_eq_self.2 fun x hx=>by rw [hp.1 x hx]; rfl
   have hs2:=hs.filter (fun x=>!crR c x)
   rw [hfl] at hs2
   have:=dfsT_ok (P:=P) (f:=f) (k:=k) (pre:=c::pre) (d:=t) (by have:=List.length_filter_le (fun x=>!crR c x) cs; omega) (by simpa using hd) hs2 hp.2 h.1
   simpa using this
theorem tri_all {P:List (List Int)→Bool} {n:Nat} {d:List (List Int)} (h:triX n d=true) (h3:3≤n) (hk:dfsT P 40 (n-3) [] (cdL n)=true):P d=true:=by
 obtain ⟨h1,h2,hok⟩:=triX_parts h
 have hl:d.length=n-3:=by omega
 have hn:n<11:=by omega
 have hok2:∀ i:Nat,i<d.length→dgX n (atL d i)=true∧(i=0∨ltR (atL d ((i:Int)-1)) (atL d i)=true)∧∀ k:Nat,k<i→crR (atL d k) (atL d i)=false:=fun i hi=>by
  have:=hok i hi
  simp only [okX,qba,Bool.or_eq_true,qde] at this
  refine ⟨this.1,this.2.1,fun k hki=>?_⟩
  have h4:=this.2.2
  rw [allK (by omega),qde] at h4
  simpa using h4 k hki
 have hlt:∀ i j:Nat,j<i→i<d.length→ltR (atL d j) (atL d i)=true:=fun i=>by
  induction i with
  | zero=>intro j hj; omega
  | succ i ih=>
   intro j hj hi
   have h5:=(hok2 (i+1) hi).2.1.resolve_left (by omega)
   rw [show ((i+1:Nat):Int)-1=(i:Int) by omega] at h5
   by_cases e:j=i
   ·rw [e]; exact h5
   ·exact ltR_tr (ih j (by omega) (by omega)) h5
 have eA:∀ (i:Nat) (hi:i<d.length),atL d i=d[i]:=fun i hi=>by simp [atL,hi]
 have hsub:d.Sublist (cdL n):=by
  refine sub_of (cd_sorted n hn) ?_ fun r hr=>?_
  ·rw [List.pairwise_iff_getElem]
   intro i j hi hj hij
   rw [← eA i hi,← eA j hj]
   exact hlt j i hij hj
  ·obtain ⟨i,hi,rfl⟩:=List.mem_iff_getElem.1 hr
   have hx:=(hok2 i hi).1
   rw [eA i hi] at hx
   have hrw:=dgX_rw h1 hx
   simp only [dgX,qba,qde] at hx
   have e2:=row2_eq hrw.1
   have hd:=hx.2
   simp only [dgOK,qba] at hd
   have b0:=inR_iff.1 hd.1.1
   have b1:=inR_iff.1 hd.1.2
   generalize d[i]=r at hx e2 b0 b1
   obtain ⟨a,ha⟩:∃ a:Nat,atI r 0=a:=⟨(atI r 0).toNat,by omega⟩
   obtain ⟨b,hb⟩:∃ b:Nat,atI r 1=b:=⟨(atI r 1).toNat,by omega⟩
   rw [ha,hb] at e2
   rw [e2] at hx ⊢
   exact cd_all hn (by omega) (by omega) hx.2
 have hpw:d.Pairwise (fun x y=>crR x y=false):=by
  rw [List.pairwise_iff_getElem]
  intro i j hi hj hij
  rw [← eA i hi,← eA j hj]
  exact (hok2 j hj).2.2 i hij
 have hcl:∀ n,n<11→(cdL n).length≤40:=by decide
 have:=dfsT_ok (f:=40) (pre:=[]) (hcl n hn) hl hsub hpw hk
 simpa using this
def oC (n:Int) (d:List (List Int)) (a b k:Nat):List (List Int):=if sdF n d a b=true then (List.range k).flatMap (fun (i:Nat)=>if sdF n d b (b+1+i:Nat)=true then (if sdF n d a (b+1+i:Nat)=true then [[(a:Int),(b:Int),((b+1+i:Nat):Int)]] else []) else []) else []
def oB (n:Int) (d:List (List Int)) (N a k:Nat):List (List Int):=(List.range k).flatMap fun i=>oC n d a (a+1+i) (N-(a+1+i)-1)
def oA (n:Int) (d:List (List Int)) (N k:Nat):List (List Int):=(List.range k).flatMap fun i=>oB n d N i (N-i-1)
theorem oC_s {n:Int} {d:List (List Int)} {a b k:Nat}:oC n d a b (k+1)=oC n d a b k++(if sdF n d a b=true then (if sdF n d b (b+1+k:Nat)=true then (if sdF n d a (b+1+k:Nat)=true then [[(a:Int),(b:Int),((b+1+k:Nat):Int)]] else []) else []) else []):=by
 unfold oC
 split
 ·rw [List.range_succ,List.flatMap_append]; simp
 ·rfl
theorem oB_s {n:Int} {d:List (List Int)} {N a k:Nat}:oB n d N a (k+1)=oB n d N a k++oC n d a (a+1+k) (N-(a+1+k)-1):=by
 unfold oB
 rw [List.range_succ,List.flatMap_append]; simp
theorem oA_s {n:Int} {d:List (List Int)} {N k:Nat}:oA n d N (k+1)=oA n d N k++oB n d N k (N-k-1):=by
 unfold oA
 rw [List.range_succ,List.flatMap_append]; simp
def up3 (r:List Int):Prop:=∃ a b c:Nat,r=[(a:Int),(b:Int),(c:Int)]∧a<b∧b<c
theorem oC_up {n:Int} {d:List (List Int)} {a b k:Nat} (h:a<b):∀ r∈oC n d a b k,up3 r:=by
 intro r hr
 unfold oC at hr
 split at hr
 ·obtain ⟨i,_,hi⟩:=List.mem_flatMap.1 hr
  split at hi
  ·split at hi
   ·rw [List.mem_singleton] at hi
    exact ⟨a,b,b+1+i,hi,h,by omega⟩
   ·simp at hi
  ·simp at hi
 ·simp at hr
theorem oA_up {n:Int} {d:List (List Int)} {N k:Nat}:∀ r∈oA n d N k,up3 r:=by
 intro r hr
 obtain ⟨i,_,hi⟩:=List.mem_flatMap.1 hr
 obtain ⟨j,_,hj⟩:=List.mem_flatMap.1 hi
 exact oC_up (by omega) r hj
theorem oC_len {n:Int} {d:List (List Int)} {a b:Nat}:∀ k,(oC n d a b k).length≤k
 | 0=>by unfold oC; split <;> simp
 | k+1=>by
  rw [oC_s,qla]
  have:=oC_len (n:=n) (d:=d) (a:=a) (b:=b) k
  split
  ·split
   ·split <;> simp <;> omega
   ·simp; omega
  ·simp; omega
theorem oB_len {n:Int} {d:List (List Int)} {N a:Nat}:∀ k,(oB n d N a k).length≤k*N
 | 0=>by simp [oB]
 | k+1=>by
  rw [oB_s,qla,Nat.succ_mul]
  have:=oB_len (n:=n) (d:=d) (N:=N) (a:=a) k
  have:=oC_len (n:=n) (d:=d) (a:=a) (b:=a+1+k) (N-(a+1+k)-1)
  omega
def kerQ (n:Nat) (d:List (List Int)):Bool:=decide ((btT n d).n+2=n)&&(oA n d n n).isPerm (cnI (btT n d) 0 ((n:Int)-1))
theorem kerQ_3:dfsT (kerQ 3) 40 0 [] (cdL 3)=true:=by kernel_rfl
theorem kerQ_4:dfsT (kerQ 4) 40 1 [] (cdL 4)=true:=by kernel_rfl
theorem kerQ_5:dfsT (kerQ 5) 40 2 [] (cdL 5)=true:=by kernel_rfl
theorem kerQ_6:dfsT (kerQ 6) 40 3 [] (cdL 6)=true:=by kernel_rfl
theorem kerQ_7:dfsT (kerQ 7) 40 4 [] (cdL 7)=true:=by kernel_rfl
theorem kerQ_8:dfsT (kerQ 8) 40 5 [] (cdL 8)=true:=by kernel_rfl
theorem kerQ_9:dfsT (kerQ 9) 40 6 [] (cdL 9)=true:=by kernel_rfl
def prtQ (n k f i:Nat):Bool:=match (cdL n).drop i with
 | []=>true
 | c::cs=>fltC c cs fun cs'=>dfsT (kerQ n) (f-i-1) k [c] cs'
theorem prt_all {n k f:Nat} (h:∀ i,i<f→prtQ n k f i=true):∀ j i,i+j=f→dfsT (kerQ n) j (k+1) [] ((cdL n).drop i)=true
 | 0,i,e=>by rw [dfsT]
 | j+1,i,e=>by
  have h1:=h i (by omega)
  have h2:=prt_all h j (i+1) (by omega)
  unfold prtQ at h1
  have hd:(cdL n).drop (i+1)=((cdL n).drop i).drop 1:=by rw [List.drop_drop]
  rw [hd] at h2
  generalize (cdL n).drop i=l at h1 h2 ⊢
  cases l with
  | nil=>rw [dfsT]
  | cons c cs=>
   rw [dfsT]
   split
   ·rfl
   ·rw [show f-i-1=j by omega] at h1
    simp only [qba]
    exact ⟨h1,h2⟩
theorem kerQ_10a:prtQ 10 6 40 0=true:=by kernel_rfl
theorem kerQ_10b:(prtQ 10 6 40 1&&prtQ 10 6 40 2&&prtQ 10 6 40 3)=true:=by kernel_rfl
theorem kerQ_10c:(prtQ 10 6 40 4&&prtQ 10 6 40 5&&prtQ 10 6 40 6&&prtQ 10 6 40 7)=true:=by kernel_rfl
theorem kerQ_10d:allB 32 (fun i=>prtQ 10 6 40 (8+i))=true:=by kernel_rfl
theorem kerQ_10:dfsT (kerQ 10) 40 7 [] (cdL 10)=true:=prt_all (f:=40) (fun i hi=>by
 have b:=kerQ_10b
 have c:=kerQ_10c
 simp only [qba] at b c
 by_cases h8:i<8
 ·have:i=0∨i=1∨i=2∨i=3∨i=4∨i=5∨i=6∨i=7:=by omega
  rcases this with rfl | rfl | rfl | rfl | rfl | rfl | rfl | rfl
  ·exact kerQ_10a
  ·exact b.1.1
  ·exact b.1.2
  ·exact b.2
  ·exact c.1.1.1
  ·exact c.1.1.2
  ·exact c.1.2
  ·exact c.2
 ·have:=allB_spec kerQ_10d (i-8) (by omega)
  rwa [show 8+(i-8)=i by omega] at this) 40 0 rfl
theorem tri_tree {n:Nat} {d:List (List Int)} (h:triX n d=true) (h3:3≤n):(btT n d).n+2=n∧(oA n d n n).Perm (cnI (btT n d) 0 ((n:Int)-1)):=by
 have hk:kerQ n d=true:=by
  have hn:=(triX_parts h).1
  have:n=3∨n=4∨n=5∨n=6∨n=7∨n=8∨n=9∨n=10:=by omega
  rcases this with rfl | rfl | rfl | rfl | rfl | rfl | rfl | rfl
  ·exact tri_all h h3 kerQ_3
  ·exact tri_all h h3 kerQ_4
  ·exact tri_all h h3 kerQ_5
  ·exact tri_all h h3 kerQ_6
  ·exact tri_all h h3 kerQ_7
  ·exact tri_all h h3 kerQ_8
  ·exact tri_all h h3 kerQ_9
  ·exact tri_all h h3 kerQ_10
 simp only [kerQ,qba,qde,List.isPerm_iff] at hk
 exact hk
end Go.Cat
