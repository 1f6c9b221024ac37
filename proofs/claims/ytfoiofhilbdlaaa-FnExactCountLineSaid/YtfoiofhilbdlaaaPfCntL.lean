/-
 The table of loops, on both sides.
-/
import Derived.Test.YtfoiofhilbdlaaaPfCnt
import Derived.Test.YtfoiofhilbdlaaaPfMark
set_option linter.unusedSimpArgs false
set_option linter.unusedVariables false
namespace Go.Cat
set_option maxRecDepth 100000
variable {K:Nat→List D→List D→Prop}
def clA (a:List Int) (s:List Bool):Prop:=∀ j:Nat,j<a.length→atT s (j:Nat)=true→atT s (atI a (j:Nat))=true
theorem getD_set {s:List Bool} {i j:Nat} (hi:i<s.length):(s.set i true).getD j false=if i=j then true else s.getD j false:=by
 simp only [qgd,List.getElem?_set]
 by_cases h:i=j
 ·subst h; simp [hi]
 ·simp [h]
theorem cy_two {a:List Int} {s:List Bool} {n:Nat} (hm:matF a=true) (hs:s.length=a.length) (hn:n<a.length) (hc:clA a s) (hf:atT s (n:Nat)=false):
  fls (seT (seT s (n:Nat) true) (atI a (n:Nat)) true)+2=fls s∧clA a (seT (seT s (n:Nat) true) (atI a (n:Nat)) true):=by
 obtain ⟨q1,q2,q3⟩:=(matF_t hm).2 n hn
 have q1:=inR_iff.1 q1
 obtain ⟨k,hk⟩:=qoz q1.1
 rw [hk] at q2 q3 ⊢
 have hkn:k≠n:=fun e=>q2 (by rw [e])
 have hkl:k<s.length:=by omega
 have hfk:s.getD k false=false:=by
  cases h:s.getD k false with
  | false=>rfl
  | true=>
   have:=hc k (by omega) (by rw [atT_nat]; exact h)
   rw [q3,hf] at this
   cases this
 rw [atT_nat] at hf
 have e1:=fls_set (s:=s) (i:=n) (by omega) hf
 have e2:=fls_set (s:=s.set n true) (i:=k) (by rw [List.length_set]; omega) (by rw [getD_set (by omega),if_neg (fun e=>hkn e.symm)]; exact hfk)
 rw [seT_nat,seT_nat]
 refine ⟨by omega,fun j hj hjt=>?_⟩
 rw [atT_nat,getD_set (by rw [List.length_set]; omega),getD_set (by omega)] at hjt
 have g:∀ m:Nat,atT ((s.set n true).set k true) (m:Nat)=if k=m then true else if n=m then true else s.getD m false:=fun m=>by
  rw [atT_nat,getD_set (by rw [List.length_set]; omega),getD_set (by omega)]
 by_cases h1:k=j
 ·subst h1
  rw [q3,g]
  simp
 ·by_cases h2:n=j
  ·subst h2
   rw [hk,g]
   simp
  ·rw [if_neg h1,if_neg h2] at hjt
   have h3:=hc j hj (by rw [atT_nat]; exact hjt)
   have q4:=inR_iff.1 ((matF_t hm).2 j hj).1
   obtain ⟨m,hm2⟩:=qoz q4.1
   rw [hm2] at h3 ⊢
   rw [atT_nat] at h3
   rw [g,h3]
   simp
theorem cyW_cl {a b:List Int} (hm:matF a=true) (hb:inL b) (hab:b.length=a.length):∀ (f:Nat) (s:List Bool) (n:Nat),s.length=a.length→n<a.length→clA a s→
  clA a (cyW a b f s (n:Nat))∧fls (cyW a b f s (n:Nat))≤fls s∧(0<f→atT s (n:Nat)=false→fls (cyW a b f s (n:Nat))+2≤fls s)
 | 0,s,n,_,_,hc=>⟨hc,Nat.le_refl _,fun h=>absurd h (by omega)⟩
 | f+1,s,n,hs,hn,hc=>by
  simp only [cyW]
  cases hx:atT s (n:Nat) with
  | true=>
   simp only [if_true]
   exact ⟨hc,Nat.le_refl _,fun _ h=>by cases h⟩
  | false=>
   simp only [qft,if_false]
   obtain ⟨e1,e2⟩:=cy_two hm hs hn hc hx
   have hin:=inL_of hm n hn
   have hin2:=inL_at hb (x:=atI a (n:Nat)) (by omega)
   obtain ⟨m,hm2⟩:=qoz hin2.1
   rw [hm2] at hin2 ⊢
   have ih:=cyW_cl hm hb hab f (seT (seT s (n:Nat) true) (atI a (n:Nat)) true) m (by rw [seT_len,seT_len,hs]) (by omega) e2
   exact ⟨ih.1,by omega,fun _ _=>by omega⟩
theorem cyO_cl {a b:List Int} (hm:matF a=true) (hb:inL b) (hab:b.length=a.length):∀ i:Nat,i≤a.length→clA a (cyO a b i).1∧2*(cyO a b i).2+fls (cyO a b i).1≤a.length
 | 0,_=>by
  refine ⟨fun j hj h=>?_,?_⟩
  ·rw [atT_nat] at h
   simp [cyO,rep,hj] at h
  ·have:=List.countP_le_length (p:=fun b=>!b) (l:=rep a.length false)
   simp only [cyO,fls]
   have e:(rep a.length false).length=a.length:=by simp [rep]
   omega
 | i+1,hi=>by
  have ih:=cyO_cl hm hb hab i (by omega)
  have hl:=(cyO_len (a:=a) (b:=b) i).1
  unfold cyO
  cases hx:atT (cyO a b i).1 (i:Nat) with
  | true=>
   simp only [if_true]
   exact ih
  | false=>
   simp only [qft,if_false]
   have:=cyW_cl hm hb hab (a.length+1) (cyO a b i).1 i hl (by omega) ih.1
   have h2:=this.2.2 (by omega) hx
   exact ⟨this.1,by omega⟩
theorem cyN_le {a b:List Int} (hm:matF a=true) (hb:inL b) (hab:b.length=a.length):2*cyN a b≤a.length:=by
 have:=(cyO_cl hm hb hab a.length (Nat.le_refl _)).2
 simp only [cyN]
 omega
def lt1 (a:List Int) (ms:List (List Int)) (o:List Int):Nat→List Int
 | 0=>o
 | j+1=>seI (lt1 a ms o j) (cyN a (atL ms (j:Nat)):Nat) (atI (lt1 a ms o j) (cyN a (atL ms (j:Nat)):Nat)+1)
def lt2 (ms:List (List Int)) (n:Nat):Nat→List Int
 | 0=>rep (n+1) 0
 | i+1=>lt1 (atL ms (i:Nat)) ms (lt2 ms n i) ms.length
theorem lt1_len {a:List Int} {ms:List (List Int)} {o:List Int}:∀ j,(lt1 a ms o j).length=o.length
 | 0=>rfl
 | j+1=>by simp only [lt1,seI_len,lt1_len j]
theorem lt2_len {ms:List (List Int)} {n:Nat}:∀ i,(lt2 ms n i).length=n+1
 | 0=>by simp [lt2,rep]
 | i+1=>by simp only [lt2,lt1_len,lt2_len i]
def bdE (o:List Int) (k:Nat):Prop:=∀ j:Nat,j<o.length→0≤atI o (j:Nat)∧atI o (j:Nat)≤k
theorem lt1_bd {a:List Int} {ms:List (List Int)} {o:List Int} {k:Nat} (h:bdE o k) (hc:∀ j:Nat,j<ms.length→cyN a (atL ms (j:Nat))<o.length):∀ j,j≤ms.length→bdE (lt1 a ms o j) (k+j)
 | 0,_=>h
 | j+1,hj=>by
  have ih:=lt1_bd h hc j (by omega)
  have hcj:=hc j (by omega)
  have hl:=lt1_len (a:=a) (ms:=ms) (o:=o) j
  intro i hi
  simp only [lt1] at hi ⊢
  rw [seI_len] at hi
  rw [atI_set (by omega)]
  have h1:=ih i hi
  have h2:=ih (cyN a (atL ms (j:Nat))) (by omega)
  split <;> omega
theorem lt2_bd {ms:List (List Int)} {n:Nat} (hc:∀ i j:Nat,i<ms.length→j<ms.length→cyN (atL ms (i:Nat)) (atL ms (j:Nat))<n+1):∀ i,i≤ms.length→bdE (lt2 ms n i) (i*ms.length)
 | 0,_=>fun j hj=>by
  simp only [lt2,rep,List.length_replicate] at hj ⊢
  have e:(List.replicate (((n:Nat):Int)+1).toNat (0:Int))[j]?=some 0:=by rw [List.getElem?_replicate,if_pos hj]
  simp only [atI,qtn,qgd]
  rw [e]
  simp
 | i+1,hi=>by
  have ih:=lt2_bd hc i (by omega)
  have:=lt1_bd (a:=atL ms (i:Nat)) (ms:=ms) ih (fun j hj=>by rw [lt2_len]; exact hc i j (by omega) hj) ms.length (Nat.le_refl _)
  simp only [lt2,Nat.add_mul,Nat.one_mul]
  exact this
theorem prs42b:∀ n:Nat,n<6→(pathsR n).length≤42:=by decide
theorem PPs_eq {ws:List (List Nat)} {ms:List (List Int)} (h:PPs ws ms):∀ i:Nat,i<ms.length→PP (atS ws i) (atL ms i):=fun i hi=>PPs_at h i (by rw [← PPs_len h]; exact hi)
theorem lt_ok [HA K] {n:Nat} (h:n≤5):∃ l:List Int,l.length=n+1∧(∀ x∈l,0≤x∧x≤1764)∧K 493 [.n n] [LI l,.b true]∧K 488 [.n n] [LI l,.b true]:=by
 obtain ⟨_,⟨ms,rfl,hms⟩,k1⟩:=mats_i (K:=K) (n:=n) (by omega)
 have hlen:=PPs_len hms
 have h42:=prs42b n (by omega)
 have hin:inR 0 5 (n:Int)=true:=inR_iff.2 (by omega)
 have hdy:∀ i:Nat,i<ms.length→dyck (atS (pathsR n) i)=true∧(atS (pathsR n) i).length=2*n:=fun i hi=>apd (n:=n) (by omega) (atS_mem (ws:=pathsR n) (i:=i) (by omega))
 have hpp:∀ i:Nat,i<ms.length→PP (atS (pathsR n) i) (atL ms i):=PPs_eq hms
 have hnc:∀ i:Nat,i<ms.length→ncmF (atL ms i)=true∧(atL ms i).length=2*n:=fun i hi=>by
  have h1:=hdy i hi
  exact ⟨PP_ncm (by omega) (hpp i hi),by rw [(hpp i hi).1]; exact h1.2⟩
 have hmt:∀ i:Nat,i<ms.length→matF (atL ms i)=true:=fun i hi=>by
  have:=(hnc i hi).1
  simp [ncmF] at this
  exact this.1
 have hcy:∀ i j:Nat,i<ms.length→j<ms.length→cyN (atL ms (i:Nat)) (atL ms (j:Nat))<n+1:=fun i j hi hj=>by
  have:=cyN_le (hmt i hi) (inL_of (hmt j hj)) (by rw [(hnc i hi).2,(hnc j hj).2])
  rw [(hnc i hi).2] at this
  omega
 have hbd:∀ i,i≤ms.length→bdE (lt2 ms n i) 1764:=fun i hi j hj=>by
  have h1:=lt2_bd hcy i hi j hj
  have h2:i*ms.length≤42*42:=Nat.mul_le_mul (by omega) (by omega)
  omega
 refine ⟨lt2 ms n ms.length,lt2_len _,fun x hx=>?_,?_,?_⟩
 ·obtain ⟨j,hj,e⟩:=List.getElem_of_mem hx
  have:=hbd ms.length (Nat.le_refl _) j hj
  have e2:atI (lt2 ms n ms.length) (j:Nat)=x:=by simp [atI,hj,e]
  rw [e2] at this
  exact this
 ·refine body_by (f:=ir_impl_LoopTable) rfl ?_; simp only [ir_impl_LoopTable,zn,zs,zq,zi,zg,zp]
  simp (disch:=first|omega|simp only[vl];omega) only [vcd]
  refine call_by (within_ok (K:=K)) rfl ?_
  rw [hin]
  simp (disch:=first|omega|simp only[vl];omega) only [vcd]
  refine call_by (k1) rfl ?_
  simp (disch:=first|omega|simp only[vl];omega) only [vcd]
  refine loop_ix (fun _=>True) (fun i=>[.u,.u,.u,LI (lt2 ms n i),LL ms,.u,.u,.u,LL ms,.n ms.length,.n i,.u,.u,.u,.u,.u]) ms.length trivial ?_ (fun i hi _=>?_) (fun _=>?_)
  ·rfl
  ·have l2:=lt2_len (ms:=ms) (n:=n) i
   have b2:=hbd i (by omega)
   simp (disch:=first|omega|simp only[vl];omega) only [vcd]
   refine loop_ix (fun _=>True) (fun j=>[.u,.u,.u,LI (lt1 (atL ms (i:Nat)) ms (lt2 ms n i) j),LL ms,LI (atL ms (i:Nat)),.u,.u,LL ms,.n ms.length,.n i,.u,LL ms,.n ms.length,.n j,.u]) ms.length trivial rfl (fun j hj _=>?_) (fun _=>?_)
   ·have l1:=lt1_len (a:=atL ms (i:Nat)) (ms:=ms) (o:=lt2 ms n i) j
    have hci:=hcy i j hi hj
    have b1:=lt1_bd (a:=atL ms (i:Nat)) (ms:=ms) b2 (fun j hj=>by rw [l2]; exact hcy i j hi hj) j (by omega) (cyN (atL ms (i:Nat)) (atL ms (j:Nat))) (by omega)
    have h1:=hnc i hi
    have h2:=hnc j hj
    simp (disch:=first|omega|simp only[vl];omega) only [vcd]
    refine call_by (cyc_i (K:=K) (a:=atL ms (i:Nat)) (b:=atL ms (j:Nat)) (by omega) (by omega) (inL_of (hmt i hi)) (inL_of (hmt j hj))) rfl ?_
    simp (disch:=first|omega|simp only[vl];omega) only [vcd]
    rfl
   ·simp (disch:=first|omega|simp only[vl];omega) only [vcd]
    rfl
  ·simp (disch:=first|omega|simp only[vl];omega) only [vcd]
 ·have k2:=pl_s (K:=K) (n:=n) (by omega)
  refine body_by (f:=ir_spec_LoopTable) rfl ?_; simp only [ir_spec_LoopTable,zn,zs,zq,zi,zg,zp]
  simp (disch:=first|omega|simp only[vl];omega) only [vcd]
  refine call_by (l1In_ok (K:=K)) rfl ?_
  rw [hin]
  simp (disch:=first|omega|simp only[vl];omega) only [vcd]
  refine call_by (k2) rfl ?_
  simp (disch:=first|omega|simp only[vl];omega) only [vcd]
  refine loop_ix (fun _=>True) (fun i=>[.n n,.u,.u,LS (pathsR n),LL (ms.take i),.n i,.u,.u,.u,.u,.u,.u,.u,.u,.u]) (pathsR n).length trivial rfl (fun i hi _=>?_) (fun _=>?_)
  ·have hpi:=hpp i (by omega)
   have hdi:=hdy i (by omega)
   have et:(ms.take i).length=i:=by rw [List.length_take]; omega
   have et2:ms.take (i+1)=ms.take i++[atL ms (i:Nat)]:=by
    rw [qta (by omega)]
    simp [atL,show i<ms.length by omega]
   rw [et2]
   obtain ⟨zs,hz⟩:∃ zs,zs=ms.take i:=⟨_,rfl⟩
   rw [← hz] at et ⊢
   simp (disch:=first|omega|simp only[vl];omega) only [vcd]
   refine call_by (mto_s (K:=K) (w:=atS (pathsR n) (i:Nat)) (m:=atL ms (i:Nat)) hdi.1 hpi) rfl ?_
   simp (disch:=first|omega|simp only[vl];omega) only [vcd,LL_appP]
  ·rw [← hlen,List.take_length]
   simp (disch:=first|omega|simp only[vl];omega) only [vcd]
   refine loop_ix (fun _=>True) (fun i=>[.u,.u,.u,.u,LL ms,.u,.u,LI (lt2 ms n i),.n i,.u,.u,.u,.u,.u,.u]) ms.length trivial ?_ (fun i hi _=>?_) (fun _=>?_)
   ·rfl
   ·have l2:=lt2_len (ms:=ms) (n:=n) i
    have b2:=hbd i (by omega)
    simp (disch:=first|omega|simp only[vl];omega) only [vcd]
    refine loop_ix (fun _=>True) (fun j=>[.u,.u,.u,.u,LL ms,.u,.u,LI (lt1 (atL ms (i:Nat)) ms (lt2 ms n i) j),.n i,.n j,.u,.u,.u,.u,.u]) ms.length trivial rfl (fun j hj _=>?_) (fun _=>?_)
    ·have l1:=lt1_len (a:=atL ms (i:Nat)) (ms:=ms) (o:=lt2 ms n i) j
     have hci:=hcy i j hi hj
     have b1:=lt1_bd (a:=atL ms (i:Nat)) (ms:=ms) b2 (fun j hj=>by rw [l2]; exact hcy i j hi hj) j (by omega) (cyN (atL ms (i:Nat)) (atL ms (j:Nat))) (by omega)
     have h1:=hnc i hi
     have h2:=hnc j hj
     simp (disch:=first|omega|simp only[vl];omega) only [vcd]
     refine call_by (loops_s (K:=K) (a:=atL ms (i:Nat)) (b:=atL ms (j:Nat)) h1.1 h2.1 (by omega)) rfl ?_
     simp (disch:=first|omega|simp only[vl];omega) only [vcd]
     rfl
    ·simp (disch:=first|omega|simp only[vl];omega) only [vcd]
     rfl
   ·simp (disch:=first|omega|simp only[vl];omega) only [vcd]
end Go.Cat
