/-
 What is counted at rotations; mirrors; weights.
-/
import Derived.Test.YtnjjceodpbhlmaaGreatPfRotA
import Derived.Test.YtnjjceodpbhlmaaGreatIrHas
import Derived.Test.YtnjjceodpbhlmaaGreatPfBT
import Derived.Test.YtnjjceodpbhlmaaGreatPfDrawP
import Derived.Test.YtnjjceodpbhlmaaGreatPfMWalk
import Derived.Test.YtnjjceodpbhlmaaGreatPfTri2
import Derived.Test.YtnjjceodpbhlmaaGreatPfCkT
import Derived.Test.YtnjjceodpbhlmaaGreatPfMatP
set_option linter.unusedSimpArgs false
set_option linter.unusedVariables false
namespace Go.Cat
variable {K:Nat→List D→List D→Prop}
def Bu (x:BT):List BT:=CV BB x x.n++CV Bk x x.n
theorem PF {x:BT}:(Bu x).length≤2*x.n:=by
 have h1:=Fj (f:=BB) (x:=x) (k:=x.n)
 have h2:=Fj (f:=Bk) (x:=x) (k:=x.n)
 rw [Bu,Ad]; omega
theorem AEE [HA K] [Cm K 201 C7] [HA K] [CZ K] {x:BT} (h:x.n≤8):K 173 [.s x.t] [G8 (Bu x)]:=by
 have h1:=Fj (f:=BB) (x:=x) (k:=x.n)
 have h2:=Fj (f:=Bk) (x:=x) (k:=x.n)
 refine AG (f:=Nj) rfl ?_; simp only [Nj,zu]
 simp (disch:=first|omega|simp only[vl];omega) only [AA]
 refine AE (AAD (K:=K) h) rfl ?_
 simp (disch:=first|omega|simp only[vl];omega) only [AA]
 refine AE (AR2 (K:=K) h) rfl ?_
 simp (disch:=first|omega|simp only[vl];omega) only [AA]
 rw [Bu,G8,List.map_append]
theorem ACF [HA K] {x:BT} (h:x.n≤8):K 166 [.s x.t] [G8 (Bu x)]:=by
 have h1:=Fj (f:=BB) (x:=x) (k:=x.n)
 have h2:=Fj (f:=Bk) (x:=x) (k:=x.n)
 refine AG (f:=Li) rfl ?_; simp only [Li,zu]
 simp (disch:=first|omega|simp only[vl];omega) only [AA]
 refine CK (fun i (r:List (List Nat))=>r=(CV BB x i).map BT.t) (fun i r=>[.s x.t,.u,LS r,.n i,.u,.u,.u,.u,.u,.u,.u,.u,.u]) x.n [] rfl rfl (fun i r hi hP=>?_) (fun r hP=>?_)
 ·have hl:=Fj (f:=BB) (x:=x) (k:=i)
  have hr:r.length≤i:=by rw [hP,List.length_map]; exact hl
  have k1:=T0 (K:=K) (x:=x) (v:=(i:Nat)) h (by omega)
  simp (disch:=first|omega|simp only[vl];omega) only [AA]
  refine AE (Ef (K:=K) h) rfl ?_
  simp (disch:=first|omega|simp only[vl];omega) only [AA]
  rw [Iu] at k1
  refine AE (k1) rfl ?_
  cases hy:BB x (i:Nat) with
  | none=>
   simp only [Option.isSome_none,Option.elim_none]
   simp (disch:=first|omega|simp only[vl];omega) only [AA]
   refine ⟨_,?_,rfl⟩
   rw [hP,Gl,hy]
   simp
  | some y=>
   simp only [Option.isSome_some,Option.elim_some]
   have tn:=BT.tl y
   have hn:=Dx hy
   simp (disch:=first|omega|simp only[vl];omega) only [AA]
   refine ⟨_,?_,rfl⟩
   rw [hP,Gl,hy]
   simp
 ·have hr0:r.length≤x.n:=by rw [hP,List.length_map]; exact h1
  simp (disch:=first|omega|simp only[vl];omega) only [AA]
  refine AE (Ef (K:=K) h) rfl ?_
  simp (disch:=first|omega|simp only[vl];omega) only [AA]
  refine CK (fun i (q:List (List Nat))=>q=r++(CV Bk x i).map BT.t) (fun i q=>[.s x.t,.u,LS q,.u,.u,.u,.n i,.u,.u,.u,.u,.u,.u]) x.n r (by simp [CV]) rfl (fun i q hi hQ=>?_) (fun q hQ=>?_)
  ·have hl:=Fj (f:=Bk) (x:=x) (k:=i)
   have hq:q.length≤x.n+i:=by rw [hQ,Ad,List.length_map]; omega
   have k1:=rl_s (K:=K) (x:=x) (v:=(i:Nat)) h (by omega)
   simp (disch:=first|omega|simp only[vl];omega) only [AA]
   refine AE (Ef (K:=K) h) rfl ?_
   simp (disch:=first|omega|simp only[vl];omega) only [AA]
   rw [Iu] at k1
   refine AE (k1) rfl ?_
   cases hy:Bk x (i:Nat) with
   | none=>
    simp only [Option.isSome_none,Option.elim_none]
    simp (disch:=first|omega|simp only[vl];omega) only [AA]
    refine ⟨_,?_,rfl⟩
    rw [hQ,Gl,hy]
    simp
   | some y=>
    simp only [Option.isSome_some,Option.elim_some]
    have tn:=BT.tl y
    have hn:=Hg hy
    simp (disch:=first|omega|simp only[vl];omega) only [AA]
    refine ⟨_,?_,rfl⟩
    rw [hQ,Gl,hy]
    simp
  ·simp (disch:=first|omega|simp only[vl];omega) only [AA]
   refine AE (Ef (K:=K) h) rfl ?_
   simp (disch:=first|omega|simp only[vl];omega) only [AA]
   rw [hQ,hP,Bu,G8,List.map_append]
def BT.mir:BT→BT
 | .lf=>.lf
 | .nd l r=>.nd r.mir l.mir
def BT.w:BT→List Int
 | .lf=>[]
 | .nd l r=>l.w++[(r.n:Int)]++r.w
theorem CJ:∀ {x:BT},x.w.length=x.n
 | .lf=>rfl
 | .nd l r=>by simp only [BT.w,BT.n,Ad,CJ (x:=l),CJ (x:=r),A6,Aq]; omega
theorem RZ [HA K]:∀ {x:BT} {o:List Int},x.n≤8→o.length+x.n≤100→K 199 [x.d,LI o] [LI (o++x.w)]
 | .lf,o,_,_=>by
  refine AG (f:=Hi) rfl ?_; simp only [Hi,zu]
  simp only [BT.d,BT.w,List.append_nil]
  simp (disch:=first|omega|simp only[vl];omega) only [AA]
 | .nd l r,o,h,ho=>by
  simp only [BT.n] at h ho
  have hw:=CJ (x:=l)
  have k1:=RZ (x:=l) (o:=o) (by omega) (by omega)
  have k2:=JC (K:=K) r (by omega)
  have k3:=RZ (x:=r) (o:=o++l.w++[(r.n:Int)]) (by omega) (by simp only [Ad,A6,Aq]; omega)
  refine AG (f:=Hi) rfl ?_; simp only [Hi,zu]
  simp only [BT.d,BT.w]
  simp (disch:=first|omega|simp only[vl];omega) only [AA,BT.Et,Ki]
  refine AE (k1) rfl ?_
  simp (disch:=first|omega|simp only[vl];omega) only [AA,BT.Et]
  refine AE (k2) rfl ?_
  simp (disch:=first|omega|simp only[vl];omega) only [AA,BT.Et]
  refine AE (k3) rfl ?_
  simp (disch:=first|omega|simp only[vl];omega) only [AA]
  simp
theorem w_i [HA K] {x:BT} (h:x.n≤8):K 171 [.s x.t] [LI x.w]:=by
 have k1:=RZ (K:=K) (x:=x) (o:=[]) h (by simp only [Aq]; omega)
 refine AG (f:=Km) rfl ?_; simp only [Km,zu]
 simp (disch:=omega) only [AA]
 refine AE (UH (K:=K) h) rfl ?_
 simp (disch:=omega) only [AA,BT.Et]
 refine AE (k1) rfl ?_
 simp (disch:=omega) only [AA]
def Fl:BT→Nat
 | .lf=>0
 | .nd _ r=>r.n
theorem CP:∀ {x:BT} {v:Nat},v<x.n→AD x.w (v:Nat)=Fl (x.at (v:Nat))
 | .lf,v,h=>by simp [BT.n] at h
 | .nd l r,v,h=>by
  simp only [BT.n] at h
  have hl:=CJ (x:=l)
  have hr:=CJ (x:=r)
  simp only [BT.w,BT.at]
  by_cases q:v<l.n
  ·rw [if_pos (by omega),← CP q]
   simp only [AD,CB,BP]
   rw [Bw,D4 (by omega)]
  ·rw [if_neg (by omega)]
   by_cases q2:l.n<v
   ·rw [if_pos (by omega),show ((v:Nat):Int)-l.n-1=((v-l.n-1:Nat):Int) by omega,← CP (x:=r) (v:=v-l.n-1) (by omega)]
    simp only [AD,CB,BP]
    rw [FI (by simp only [Ad,A6,Aq]; omega)]
    simp only [Ad,A6,Aq,hl]
    congr 2
   ·obtain rfl:v=l.n:=by omega
    rw [if_neg (by omega)]
    simp only [AD,CB,BP,Fl]
    rw [D4 (by simp only [Ad,A6,Aq]; omega),FI (by omega)]
    simp [hl]
theorem AK4 {a b:List Int} (h:a.length=b.length) (h2:∀ i:Nat,i<a.length→AD a i=AD b i):a=b:=by
 refine List.ext_getElem h fun i h3 h4=>?_
 have:=h2 i h3
 simpa [AD,h3,h4] using this
theorem ARE {x:BT} {i:Nat} (h:i<x.n):x.w.take (i+1)=x.w.take i++[AD x.w (i:Nat)]:=by
 have hl:=CJ (x:=x)
 rw [ED (by omega)]
 congr 1
 simp [AD,show i<x.w.length by omega]
theorem w_s [HA K] {x:BT} (h:x.n≤8):K 164 [.s x.t] [LI x.w]:=by
 have hw:=CJ (x:=x)
 refine AG (f:=Me) rfl ?_; simp only [Me,zu]
 simp (disch:=first|omega|simp only[vl];omega) only [AA]
 refine CK (fun i (r:List Int)=>r=x.w.take i) (fun i r=>[.s x.t,.u,LI r,.n i,.u,.u,.u]) x.n [] rfl rfl (fun i r hi hP=>?_) (fun r hP=>?_)
 ·have hr:r.length=i:=by rw [hP,List.length_take]; omega
  obtain ⟨a,b,hab⟩:=IG (x:=x) (v:=(i:Nat)) (by omega) (by omega)
  have k1:=Lc (K:=K) (x:=x) (v:=(i:Nat)) h (by omega) (by omega)
  have hn:=LW (x:=x) (v:=(i:Nat))
  have ha:=CP (x:=x) (v:=i) hi
  rw [hab] at k1 hn ha
  simp only [Fl] at ha
  have hn':=hn
  simp only [BT.n] at hn'
  have ta:=BT.tl a
  have tb:=BT.tl b
  have hl:=Ge (a:=a) (b:=b)
  have ke:=HY (K:=K) (a:=a) (b:=b) (by omega)
  have e1:((BT.nd a b).t.length:Int)-1-(1+(a.t.length:Int))-1=3*b.n:=by rw [hl]; omega
  have e2:(3*(b.n:Int)).tdiv 3=b.n:=by rw [Int.mul_comm]; exact Int.mul_tdiv_cancel _ (by omega)
  have e3:(3*(b.n:Int)) / 3=b.n:=by omega
  generalize hg:(BT.nd a b).t=w at hl ke e1
  rw [hg] at k1
  simp (disch:=first|omega|simp only[vl];omega) only [AA]
  refine AE (Ef (K:=K) h) rfl ?_
  simp (disch:=first|omega|simp only[vl];omega) only [AA]
  refine AE (k1) rfl ?_
  simp (disch:=first|omega|simp only[vl];omega) only [AA]
  refine AE (ke) rfl ?_
  simp (disch:=first|omega|simp only[vl];omega) only [AA,e1,e2,e3]
  refine ⟨_,?_,rfl⟩
  rw [ARE hi,ha,hP]
 ·simp (disch:=first|omega|simp only[vl];omega) only [AA]
  refine AE (Ef (K:=K) h) rfl ?_
  simp (disch:=first|omega|simp only[vl];omega) only [AA]
  rw [hP,List.take_of_length_le (by omega)]
end Go.Cat
namespace Go.Cat
variable {K:Nat→List D→List D→Prop}
set_option maxRecDepth 100000
theorem Ox:∀ (a b:List Nat) (h k:Int),Az a h=some k→Az (a++b) h=Az b k
 | [],b,h,k,e=>by
  simp only [Az] at e
  injection e with e
  rw [e]; rfl
 | c::a,b,h,k,e=>by
  simp only [Az,List.cons_append] at e ⊢
  split
  ·rename_i h1
   rw [if_pos h1] at e
   exact Ox a b _ k e
  ·rename_i h1
   rw [if_neg h1] at e
   split
   ·rename_i h2
    rw [if_pos h2] at e
    split
    ·rename_i h3
     rw [if_pos h3] at e; cases e
    ·rename_i h3
     rw [if_neg h3] at e
     exact Ox a b _ k e
   ·rename_i h2
    rw [if_neg h2] at e; cases e
theorem Pg [HA K] {d:D} (hd:BJ d) {n:Int} (hn:0≤n∧n≤8):∃ rs,(∃ x d',rs=[.s x,d']∧(BW x=true∧(x.length:Int)=2*n)∧BJ d')∧K 306 [d,.n n] rs:=by
 refine Bg (f:=I7) rfl ?_; simp only [I7,zu]
 simp (disch:=first|omega|simp only[vl];omega) only [AA]
 refine B9 (fun (q:D×List Nat×Int×Int)=>BJ q.1∧(q.2.2.1≤n∧0≤q.2.2.2∧q.2.2.2≤q.2.2.1)∧(q.2.1.length:Int)=q.2.2.1+q.2.2.2∧Az q.2.1 0=some (q.2.2.1-q.2.2.2)) (fun q=>[q.1,.n n,.u,.s q.2.1,.n q.2.2.1,.n q.2.2.2,.u,.u]) (fun q=>(2*n-q.2.2.1-q.2.2.2).toNat) (d,[],0,0) ⟨hd,by simp; omega,by simp,rfl⟩ rfl ?_
 rintro ⟨d1,x,u,v⟩ ⟨hd1,hr,hx,hw⟩
 simp only at hd1 hr hx hw ⊢
 have up:Az (x++[117]) 0=some (u+1-v):=by
  rw [Ox x [117] 0 _ hw]
  show some (u-v+1)=_
  congr 1; omega
 have dn:v<u→Az (x++[100]) 0=some (u-(v+1)):=fun q=>by
  rw [Ox x [100] 0 _ hw]
  simp only [Az]
  rw [if_neg (by omega),if_pos trivial,if_neg (by omega)]
  congr 1; omega
 by_cases h0:v<n
 ·by_cases h1:u<n
  ·by_cases h2:u=v
   ·simp (disch:=first|omega|simp only[vl];omega) only [AA,h2]
    exact ⟨(d1,x++[117],v+1,v),by simp only []; omega,⟨hd1,by simp only []; omega,by simp; omega,by rw [← h2]; rw [← h2] at up; exact up⟩,rfl⟩
   ·obtain ⟨_,⟨b,d2,rfl,hd2⟩,k2⟩:=Fw (K:=K) hd1 (n:=2)
    simp (disch:=first|omega|simp only[vl];omega) only [AA]
    refine AE (k2) rfl ?_
    cases b
    ·simp (disch:=first|omega|simp only[vl];omega) only [AA]
     exact ⟨(d2,x++[100],u,v+1),by simp only []; omega,⟨hd2,by simp only []; omega,by simp; omega,dn (by omega)⟩,rfl⟩
    ·simp (disch:=first|omega|simp only[vl];omega) only [AA]
     exact ⟨(d2,x++[117],u+1,v),by simp only []; omega,⟨hd2,by simp only []; omega,by simp; omega,up⟩,rfl⟩
  ·simp (disch:=first|omega|simp only[vl];omega) only [AA]
   exact ⟨(d1,x++[100],u,v+1),by simp only []; omega,⟨hd1,by simp only []; omega,by simp; omega,dn (by omega)⟩,rfl⟩
 ·simp (disch:=first|omega|simp only[vl];omega) only [AA]
  have e1:u=n:=by omega
  have e2:v=n:=by omega
  refine ⟨x,d1,rfl,⟨?_,by omega⟩,hd1⟩
  rw [e1,e2,Int.sub_self] at hw
  simp only [BW,hw,Ac,Aj]
  simp
  omega
theorem TJ [HA K] {d:D} (hd:BJ d):∃ rs,(∃ x d',rs=[.s x,d']∧(BW x=true∧x.length≤12)∧BJ d')∧K 317 [d] rs:=by
 refine Bg (f:=Is) rfl ?_; simp only [Is,zu]
 obtain ⟨_,⟨n,d1,rfl,hn,hd1⟩,k1⟩:=CQ (K:=K) hd (n:=7)
 have hn:=hn.2 (by omega)
 obtain ⟨_,⟨x,d2,rfl,hx,hd2⟩,k2⟩:=Pg (K:=K) hd1 (n:=n) (by omega)
 simp (disch:=first|omega|simp only[vl];omega) only [AA]
 refine AE (k1) rfl ?_
 simp (disch:=first|omega|simp only[vl];omega) only [AA]
 refine AE (k2) rfl ?_
 simp (disch:=first|omega|simp only[vl];omega) only [AA]
 exact ⟨_,_,rfl,⟨hx.1,by omega⟩,hd2⟩
theorem QT [HA K] {w:List Nat} (h:BW w=true):∃ x:BT,w.length=2*x.n∧x.n≤8∧K 513 [.s w] [.s x.t]:=by
 obtain ⟨x,rfl,hx⟩:=ex_p h
 exact ⟨x,BT.pl x,hx,SJ (K:=K) hx⟩
theorem AOM [HA K] {d:D} (hd:BJ d):∃ rs,(∃ x d',rs=[.s x,d']∧x.length≤100∧BJ d')∧K 653 [d] rs:=by
 refine Bg (f:=M9) rfl ?_; simp only [M9,zu]
 obtain ⟨_,⟨w,d1,rfl,hw,hd1⟩,k1⟩:=TJ (K:=K) hd
 obtain ⟨x,hxl,hx8,k2⟩:=QT (K:=K) hw.1
 have htl:=BT.tl x
 obtain ⟨_,⟨n,d2,rfl,hn,hd2⟩,k3⟩:=CQ (K:=K) hd1 (n:=12)
 have hn:=hn.2 (by omega)
 simp (disch:=first|omega|simp only[vl];omega) only [AA]
 refine AE (k1) rfl ?_
 simp (disch:=first|omega|simp only[vl];omega) only [AA]
 refine AE (k2) rfl ?_
 simp (disch:=first|omega|simp only[vl];omega) only [AA]
 refine AE (k3) rfl ?_
 simp (disch:=first|omega|simp only[vl];omega) only [AA]
 by_cases n0:n=0
 ·obtain ⟨_,⟨y,d3,rfl,hy,hd3⟩,k4⟩:=AIE (K:=K) hd2 (w:=x.t) (by omega)
  simp (disch:=first|omega|simp only[vl];omega) only [AA,n0]
  refine AE (k4) rfl ?_
  simp (disch:=first|omega|simp only[vl];omega) only [AA]
  exact ⟨_,_,rfl,by omega,hd3⟩
 ·by_cases n1:n=1
  ·obtain ⟨_,⟨y,d3,rfl,hy,hd3⟩,k4⟩:=AOA (K:=K) hd2 (l:=[[],[46],[40,46,46,41],[46,46],[40,46,41],[40,46,46,46,41],[40,46,46],[40,46,46,41,41]]) (by simp) (by simp)
   have hyl:y.length≤100:=by
    have:∀ z∈([[],[46],[40,46,46,41],[46,46],[40,46,41],[40,46,46,46,41],[40,46,46],[40,46,46,41,41]]:List (List Nat)),z.length≤100:=by decide
    exact this y hy
   simp (disch:=first|omega|simp only[vl];omega) only [AA,n1,AHR,AJD]
   refine AE (k4) rfl ?_
   simp (disch:=first|omega|simp only[vl];omega) only [AA]
   exact ⟨_,_,rfl,hyl,hd3⟩
  ·simp (disch:=first|omega|simp only[vl];omega) only [AA]
   exact ⟨_,_,rfl,by omega,hd2⟩
theorem S2 [HA K] {d:D} (hd:BJ d) {m:Int} (hm:0≤m∧m≤6):∃ rs,(∃ a b d',rs=[.s a,.s b,d']∧(a.length≤100∧b.length≤100)∧BJ d')∧K 649 [d,.n m] rs:=by
 refine Bg (f:=M6) rfl ?_; simp only [M6,zu]
 obtain ⟨_,⟨n,d1,rfl,hn,hd1⟩,k1⟩:=CQ (K:=K) hd (n:=m+1)
 have hn:=hn.2 (by omega)
 obtain ⟨_,⟨w,d2,rfl,hw,hd2⟩,k2⟩:=Pg (K:=K) hd1 (n:=n) (by omega)
 obtain ⟨x,hxl,hx8,k3⟩:=QT (K:=K) hw.1
 have htl:=BT.tl x
 obtain ⟨_,⟨b1,d3,rfl,hd3⟩,k4⟩:=Fw (K:=K) hd2 (n:=14)
 simp (disch:=first|omega|simp only[vl];omega) only [AA]
 refine AE (k1) rfl ?_
 simp (disch:=first|omega|simp only[vl];omega) only [AA]
 refine AE (k2) rfl ?_
 simp (disch:=first|omega|simp only[vl];omega) only [AA]
 refine AE (k3) rfl ?_
 simp (disch:=first|omega|simp only[vl];omega) only [AA]
 refine AE (k4) rfl ?_
 cases b1
 ·obtain ⟨_,⟨b2,d4,rfl,hd4⟩,k5⟩:=Fw (K:=K) hd3 (n:=2)
  simp (disch:=first|omega|simp only[vl];omega) only [AA]
  refine AE (k5) rfl ?_
  cases b2
  ·obtain ⟨_,⟨w2,d5,rfl,hw2,hd5⟩,k6⟩:=Pg (K:=K) hd4 (n:=n) (by omega)
   obtain ⟨y,hyl,hy8,k7⟩:=QT (K:=K) hw2.1
   have htl2:=BT.tl y
   simp (disch:=first|omega|simp only[vl];omega) only [AA]
   refine AE (k6) rfl ?_
   simp (disch:=first|omega|simp only[vl];omega) only [AA]
   refine AE (k7) rfl ?_
   simp (disch:=first|omega|simp only[vl];omega) only [AA]
   exact ⟨_,_,_,rfl,⟨by omega,by omega⟩,hd5⟩
  ·obtain ⟨_,⟨k,d5,rfl,hk,hd5⟩,k6⟩:=CQ (K:=K) hd4 (n:=4)
   have hk:=hk.2 (by omega)
   simp (disch:=first|omega|simp only[vl];omega) only [AA]
   refine AE (k6) rfl ?_
   simp (disch:=first|omega|simp only[vl];omega) only [AA]
   refine B9 (fun (q:D×BT×Int)=>BJ q.1∧q.2.1.n=x.n∧0≤q.2.2∧q.2.2≤4) (fun q=>[q.1,.u,.u,.u,.n n,.s x.t,.s q.2.1.t,.n q.2.2,.u,.u,.u,.u,.u,.u]) (fun q=>q.2.2.toNat) (d5,x,k) ⟨hd5,rfl,by simp only []; omega,by simp only []; omega⟩ rfl ?_
   rintro ⟨d6,y,j⟩ ⟨hd6,hy,hj0,hj4⟩
   simp only at hd6 hy hj0 hj4 ⊢
   have htl2:=BT.tl y
   by_cases j0:0<j
   ·by_cases n0:0<n
    ·obtain ⟨_,⟨v,d7,rfl,hv,hd7⟩,k7⟩:=CQ (K:=K) hd6 (n:=n)
     have hv:=hv.2 (by omega)
     have k8:=T0 (K:=K) (x:=y) (v:=v) (by omega) (by omega)
     simp (disch:=first|omega|simp only[vl];omega) only [AA]
     refine AE (k7) rfl ?_
     cases hz:BB y v with
     | none=>
      rw [hz] at k8
      simp only [Iu,Option.elim,Option.isSome] at k8
      simp (disch:=first|omega|simp only[vl];omega) only [AA]
      refine AE (k8) rfl ?_
      simp (disch:=first|omega|simp only[vl];omega) only [AA]
      exact ⟨(d7,y,j-1),by simp only []; omega,⟨hd7,hy,by simp only []; omega,by simp only []; omega⟩,rfl⟩
     | some z=>
      rw [hz] at k8
      simp only [Iu,Option.elim,Option.isSome] at k8
      simp (disch:=first|omega|simp only[vl];omega) only [AA]
      refine AE (k8) rfl ?_
      simp (disch:=first|omega|simp only[vl];omega) only [AA]
      exact ⟨(d7,z,j-1),by simp only []; omega,⟨hd7,by simp only []; rw [Dx hz]; exact hy,by simp only []; omega,by simp only []; omega⟩,rfl⟩
    ·simp (disch:=first|omega|simp only[vl];omega) only [AA]
     exact ⟨_,_,_,rfl,⟨by omega,by omega⟩,hd6⟩
   ·simp (disch:=first|omega|simp only[vl];omega) only [AA]
    exact ⟨_,_,_,rfl,⟨by omega,by omega⟩,hd6⟩
 ·obtain ⟨_,⟨y,d4,rfl,hy,hd4⟩,k5⟩:=AOM (K:=K) hd3
  simp (disch:=first|omega|simp only[vl];omega) only [AA]
  refine AE (k5) rfl ?_
  simp (disch:=first|omega|simp only[vl];omega) only [AA]
  exact ⟨_,_,_,rfl,⟨by omega,hy⟩,hd4⟩
end Go.Cat
