/-
 The sieve: orbits.
-/
import Derived.Test.YtdaefhflccndlaaGreatPfSvT
set_option linter.unusedSimpArgs false
set_option linter.unusedVariables false
namespace Go.Cat
variable {K:Nat→List D→List D→Prop}
def obL (f n:Nat):List Int:=(pathsR n).map fun w=>(((pathsR n).idxOf (t15 f n 1 w):Nat):Int)
def cvB (f n:Nat):Bool:=(List.range (pathsR n).length).all fun j=>decide ((pathsR n).idxOf (atS (pathsR n) j)=j)&&decide ((pathsR n).idxOf (t15 f n 1 (atS (pathsR n) j))<(pathsR n).length)
theorem cv0:allB 3 (fun f=>allB 4 fun n=>cvB f (n+1))=true:=by kernel_rfl
theorem cv5:allB 3 (fun f=>cvB f 5)=true:=by kernel_rfl
theorem cvB_ok {f n:Nat} (hf:f<3) (hn:1≤n∧n≤5) {j:Nat} (hj:j<(pathsR n).length):(pathsR n).idxOf (atS (pathsR n) j)=j∧(pathsR n).idxOf (t15 f n 1 (atS (pathsR n) j))<(pathsR n).length:=by
 have h:cvB f n=true:=by
  rcases qlg (n-1) 4 with q | q
  ·have:=allB_spec (allB_spec cv0 f hf) (n-1) q
   rwa [show n-1+1=n by omega] at this
  ·rw [show n=5 by omega]; exact allB_spec cv5 f hf
 have:=qat.1 h j (List.mem_range.2 hj)
 simpa using this
theorem ws_inj {n:Nat} (hn:1≤n∧n≤5) {i j:Nat} (hi:i<(pathsR n).length) (hj:j<(pathsR n).length) (h:atS (pathsR n) i=atS (pathsR n) j):i=j:=by
 rw [← (cvB_ok (f:=0) (by omega) hn hi).1,h,(cvB_ok (f:=0) (by omega) hn hj).1]
theorem obL_at {f n:Nat} (hf:f<3) (hn:1≤n∧n≤5) {j:Nat} (hj:j<(pathsR n).length):∃ k:Nat,atI (obL f n) j=k∧k<(pathsR n).length∧atS (pathsR n) k=t15 f n 1 (atS (pathsR n) j):=by
 have h:=(cvB_ok hf hn hj).2
 have e:atS (pathsR n) j=(pathsR n)[j]:=by simp [atS,hj]
 refine ⟨(pathsR n).idxOf (t15 f n 1 (atS (pathsR n) j)),?_,h,?_⟩
 ·rw [e]; simp [atI,obL,hj]
 ·have:=List.getElem_idxOf h
  rw [← this]
  have e2:∀ k,(hk:k<(pathsR n).length)→atS (pathsR n) (k:Int)=(pathsR n)[k]:=fun k hk=>by simp [atS,hk]
  rw [this]
  exact (e2 _ h).trans this
theorem obL_len {f n:Nat}:(obL f n).length=(pathsR n).length:=by simp [obL]
def orR (L:List Int):Nat→List Bool→Nat→Nat→List Bool×Nat
 | 0,B,_,s=>(B,s)
 | f+1,B,a,s=>if atT B a=true then (B,s) else orR L f (seT B a true) (atI L a).toNat (s+1)
def orT (L:List Int) (i:Nat) (x:List Int×List Bool):List Int×List Bool:=
 (if 0<(orR L L.length x.2 i 0).2 then x.1++[((orR L L.length x.2 i 0).2:Int)] else x.1,(orR L L.length x.2 i 0).1)
def orS (L:List Int):List Int:=(iter (orT L) L.length ([],List.replicate L.length false)).1
def unT (B:List Bool):Nat:=B.countP fun b=>!b
theorem unT_le {B:List Bool}:unT B≤B.length:=List.countP_le_length
theorem unT_rep:∀ k,unT (List.replicate k false)=k
 | 0=>rfl
 | k+1=>by
  have:=unT_rep k
  simp only [unT,List.replicate_succ,List.countP_cons] at this ⊢
  simp [this]
theorem unT_set:∀ {B:List Bool} {a:Nat},a<B.length→atT B a=false→unT (seT B a true)+1=unT B
 | b::B,0,_,h=>by
  have hb:b=false:=by simpa [atT] using h
  subst hb
  simp [unT,seT]
 | b::B,a+1,hl,h=>by
  have ih:=unT_set (B:=B) (a:=a) (by simpa using hl) (by simpa [atT] using h)
  simp only [unT,seT,qtn,List.set_cons_succ,List.countP_cons] at ih ⊢
  omega
 | [],_,hl,_=>by simp at hl
theorem orR_s {L:List Int} {f a s:Nat} {B:List Bool} (h:atT B a=true):orR L f B a s=(B,s):=by
 cases f with
 | zero=>rfl
 | succ f=>rw [orR,if_pos h]
theorem atT_se {B:List Bool} {i j:Nat} (h:i<B.length):atT (seT B i true) j=(decide (i=j) || atT B j):=by
 rw [atT_set h]
 by_cases q:i=j <;> simp [q]
def mkR (ws S:List (List Nat)) (B:List Bool):Prop:=B.length=ws.length∧S.length+unT B=ws.length∧∀ j,j<ws.length→S.contains (atS ws j)=atT B j
theorem mkR_add {n:Nat} (hn:1≤n∧n≤5) {S:List (List Nat)} {B:List Bool} (h:mkR (pathsR n) S B) {a:Nat} (ha:a<(pathsR n).length) (hb:atT B a=false):mkR (pathsR n) (S++[atS (pathsR n) a]) (seT B a true):=by
 obtain ⟨h1,h2,h3⟩:=h
 have hu:=unT_set (B:=B) (a:=a) (by omega) hb
 refine ⟨by rw [seT_len]; exact h1,by rw [qla,List.length_singleton]; omega,fun j hj=>?_⟩
 rw [atT_se (by omega),← h3 j hj]
 by_cases q:a=j
 ·subst q; simp
 ·have hne:atS (pathsR n) j≠atS (pathsR n) a:=fun e=>q (ws_inj hn hj ha e).symm
  simp [q,hne]
theorem orR_inv {L:List Int}:∀ {f a s:Nat} {B:List Bool},(orR L f B a s).1.length=B.length∧s≤(orR L f B a s).2∧(orR L f B a s).2≤s+f
 | 0,_,_,_=>⟨rfl,Nat.le_refl _,Nat.le_refl _⟩
 | f+1,a,s,B=>by
  rw [orR]
  split
  ·exact ⟨rfl,Nat.le_refl _,by simp only; omega⟩
  ·have ih:=orR_inv (L:=L) (f:=f) (a:=(atI L a).toNat) (s:=s+1) (B:=seT B a true)
   rw [seT_len] at ih
   exact ⟨ih.1,by omega,by omega⟩
theorem orb_s [HA K] {f n:Nat} (hf:f<3) (hn:1≤n∧n≤5):K 569 [.s (fmN f),.n n] [LI (orS (obL f n)),.b true]:=by
 have hp:=pathsR_132 (n:=n) (by omega)
 have hL:=obL_len (f:=f) (n:=n)
 refine body_by (f:=ir_spec_OrbitSizes) rfl ?_; simp only [ir_spec_OrbitSizes,zn,zs,zq,zi,zg,zp]
 simp (disch:=first|omega|simp only[vl];omega) only [vcd]
 refine call_by (ord_s (K:=K) hf hn) rfl ?_
 simp (disch:=first|omega|simp only[vl];omega) only [vcd]
 refine call_by (pl_s (K:=K) (n:=n) (by omega)) rfl ?_
 simp (disch:=first|omega|simp only[vl];omega) only [vcd]
 refine loop_up (fun i (x:List (List Nat)×(List Int×List Bool))=>x.2=iter (orT (obL f n)) i ([],List.replicate (obL f n).length false)∧mkR (pathsR n) x.1 x.2.2∧x.2.1.length≤i)
  (fun i x=>[.s (fmN f),.u,.u,.u,LI x.2.1,LS (pathsR n),LS x.1,.n i,.u,.u,.u,.u,.u,.u]) (pathsR n).length ([],([],List.replicate (obL f n).length false)) ⟨rfl,⟨by simp [hL],by rw [unT_rep,hL]; simp,fun j hj=>by simp [atT,hL,hj]⟩,by simp⟩ rfl (fun i x hi hP=>?_) (fun x hP=>?_)
 ·obtain ⟨S,out,B⟩:=x
  obtain ⟨p1,p2,p3⟩:=hP
  simp only at p1 p2 p3 ⊢
  obtain ⟨b1,b2,b3⟩:=p2
  simp (disch:=first|omega|simp only[vl];omega) only [vcd]
  refine call_by (has_s (K:=K) (l:=S) (x:=atS (pathsR n) i) (by omega)) rfl ?_
  rw [b3 i hi]
  cases hB:atT B i
  ·simp (disch:=first|omega|simp only[vl];omega) only [vcd]
   refine loop_wh (fun (y:Nat×List (List Nat)×List Bool×Nat×Nat)=>mkR (pathsR n) y.2.1 y.2.2.1∧y.2.2.2.1<(pathsR n).length∧unT y.2.2.1≤y.1∧y.2.2.2.2+y.1≤132∧orR (obL f n) y.1 y.2.2.1 y.2.2.2.1 y.2.2.2.2=orR (obL f n) (obL f n).length B i 0)
    (fun y=>[.s (fmN f),.u,.u,.u,LI out,LS (pathsR n),LS y.2.1,.n i,.n y.2.2.2.2,.s (atS (pathsR n) y.2.2.2.1),.u,.u,.u,.u]) (fun y=>y.1) ((obL f n).length,S,B,i,0) ⟨⟨b1,b2,b3⟩,hi,by have:=unT_le (B:=B); simp only; omega,by simp only; omega,rfl⟩ rfl ?_
   rintro ⟨g,S',B',a,s⟩ ⟨q1,q2,q3,q4,q5⟩
   simp only at q1 q2 q3 q4 q5 ⊢
   obtain ⟨r1,r2,r3⟩:=q1
   simp (disch:=first|omega|simp only[vl];omega) only [vcd]
   refine call_by (has_s (K:=K) (l:=S') (x:=atS (pathsR n) a) (by omega)) rfl ?_
   rw [r3 a q2]
   cases hB':atT B' a
   ·have hu:=unT_set (B:=B') (a:=a) (by omega) hB'
    cases g with
    | zero=>omega
    | succ g=>
     have hk:=l15t_s (K:=K) (f:=f) (k:=1) hf hn (atS_memP q2) (.inr rfl)
     obtain ⟨k,k1,k2,k3⟩:=obL_at hf hn q2
     simp (disch:=first|omega|simp only[vl];omega) only [vcd]
     refine call_by (hk) rfl ?_
     simp (disch:=first|omega|simp only[vl];omega) only [vcd]
     rw [← k3]
     refine ⟨(g,S'++[atS (pathsR n) a],seT B' a true,k,s+1),by simp,⟨mkR_add hn ⟨r1,r2,r3⟩ q2 hB',k2,by simp only; omega,by simp only; omega,?_⟩,by simp⟩
     rw [← q5,orR,if_neg (by rw [hB']; simp),k1]; rfl
   ·rw [orR_s hB'] at q5
    have hs:0<s:=by
     have e:=congrArg Prod.snd q5
     simp only at e
     rw [e]
     have hl0:(obL f n).length=((obL f n).length-1)+1:=by omega
     rw [hl0,orR,if_neg (by rw [hB]; simp)]
     have:=(orR_inv (L:=obL f n) (f:=(obL f n).length-1) (a:=(atI (obL f n) i).toNat) (s:=0+1) (B:=seT B i true)).2.1
     omega
    simp (disch:=first|omega|simp only[vl];omega) only [vcd]
    refine ⟨(S',orT (obL f n) i (out,B)),⟨?_,?_,?_⟩,?_⟩
    ·rw [iter,← p1]
    ·simp only [orT,← q5]; exact ⟨r1,r2,r3⟩
    ·simp only [orT,← q5,if_pos hs,qla,qlc,qln]; omega
    ·simp only [orT,← q5,if_pos hs]
  ·simp (disch:=first|omega|simp only[vl];omega) only [vcd]
   refine ⟨(S,orT (obL f n) i (out,B)),⟨?_,?_,?_⟩,?_⟩
   ·rw [iter,← p1]
   ·simp only [orT,orR_s hB]; exact ⟨b1,b2,b3⟩
   ·simp only [orT,orR_s hB,Nat.lt_irrefl,if_false]; omega
   ·simp only [orT,orR_s hB,Nat.lt_irrefl,if_false]
 ·obtain ⟨S,out,B⟩:=x
  obtain ⟨p1,p2,p3⟩:=hP
  simp (disch:=first|omega|simp only[vl];omega) only [vcd]
  have e:orS (obL f n)=(iter (orT (obL f n)) (pathsR n).length ([],List.replicate (obL f n).length false)).1:=by rw [← hL]; rfl
  simp only at p1 ⊢
  rw [e,← p1]
end Go.Cat
