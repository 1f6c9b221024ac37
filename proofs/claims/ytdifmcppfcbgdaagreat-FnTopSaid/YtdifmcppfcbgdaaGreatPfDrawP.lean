/-
 Drawn paths.
-/
import Derived.Test.YtdifmcppfcbgdaaGreatPfDraw
import Derived.Test.YtdifmcppfcbgdaaGreatIrHas
import Derived.Test.YtdifmcppfcbgdaaGreatPfRankU
import Derived.Test.YtdifmcppfcbgdaaGreatPfNum
set_option linter.unusedSimpArgs false
set_option linter.unusedVariables false
namespace Go.Cat
variable {K:Nat→List D→List D→Prop}
theorem l2Draw_ok [HA K] {d:D} (hd:Cur d) {n:Int} (hn:n≤1000):∃ rs,(∃ x d',rs=[.s x,d']∧(x.length:Int)≤2*max n 0∧Cur d')∧K 306 [d,.n n] rs:=by
 refine body_ex (f:=ir_spec_l2Draw) rfl ?_; simp only [ir_spec_l2Draw,zn,zs,zq,zi,zg,zp]
 simp (disch:=first|omega|simp only[vl];omega) only [vcd]
 refine loop_wh (fun (q:D×List Nat×Int×Int)=>Cur q.1∧(0≤q.2.2.1∧q.2.2.1≤max n 0∧0≤q.2.2.2∧q.2.2.2≤max n 0)∧(q.2.1.length:Int)=q.2.2.1+q.2.2.2) (fun q=>[q.1,.n n,.u,.s q.2.1,.n q.2.2.1,.n q.2.2.2,.u,.u]) (fun q=>(2*max n 0-q.2.2.1-q.2.2.2).toNat) (d,[],0,0) ⟨hd,by simp; omega,by simp⟩ rfl ?_
 rintro ⟨d1,x,u,v⟩ ⟨hd1,hr,hx⟩
 simp only at hd1 hr hx ⊢
 by_cases h0:v<n
 ·by_cases h1:u<n
  ·by_cases h2:u=v
   ·simp (disch:=first|omega|simp only[vl];omega) only [vcd,h2]
    exact ⟨(d1,x++[117],v+1,v),by simp only []; omega,⟨hd1,by simp only []; omega,by simp; omega⟩,rfl⟩
   ·obtain ⟨_,⟨b,d2,rfl,hd2⟩,k2⟩:=l1Once_ok (K:=K) hd1 (n:=2)
    simp (disch:=first|omega|simp only[vl];omega) only [vcd]
    refine call_by (k2) rfl ?_
    cases b
    ·simp (disch:=first|omega|simp only[vl];omega) only [vcd]
     exact ⟨(d2,x++[100],u,v+1),by simp only []; omega,⟨hd2,by simp only []; omega,by simp; omega⟩,rfl⟩
    ·simp (disch:=first|omega|simp only[vl];omega) only [vcd]
     exact ⟨(d2,x++[117],u+1,v),by simp only []; omega,⟨hd2,by simp only []; omega,by simp; omega⟩,rfl⟩
  ·simp (disch:=first|omega|simp only[vl];omega) only [vcd]
   exact ⟨(d1,x++[100],u,v+1),by simp only []; omega,⟨hd1,by simp only []; omega,by simp; omega⟩,rfl⟩
 ·simp (disch:=first|omega|simp only[vl];omega) only [vcd]
  exact ⟨x,d1,rfl,by omega,hd1⟩
theorem l2Path_ok [HA K] {d:D} (hd:Cur d):∃ rs,(∃ x d',rs=[.s x,d']∧x.length≤12∧Cur d')∧K 317 [d] rs:=by
 refine body_ex (f:=ir_spec_l2Path) rfl ?_; simp only [ir_spec_l2Path,zn,zs,zq,zi,zg,zp]
 obtain ⟨_,⟨n,d1,rfl,hn,hd1⟩,k1⟩:=l1Below_ok (K:=K) hd (n:=7)
 have hn:=hn.2 (by omega)
 obtain ⟨_,⟨x,d2,rfl,hx,hd2⟩,k2⟩:=l2Draw_ok (K:=K) hd1 (n:=n) (by omega)
 simp (disch:=omega) only [vcd]
 refine call_by (k1) rfl ?_
 simp (disch:=omega) only [vcd]
 refine call_by (k2) rfl ?_
 simp (disch:=omega) only [vcd]
 exact ⟨_,_,rfl,by omega,hd2⟩
theorem l2Any_ok [HA K] {d:D} (hd:Cur d):∃ rs,(∃ x d',rs=[.s x,d']∧x.length≤20∧Cur d')∧K 290 [d] rs:=by
 refine body_ex (f:=ir_spec_l2Any) rfl ?_; simp only [ir_spec_l2Any,zn,zs,zq,zi,zg,zp]
 obtain ⟨_,⟨w,d1,rfl,hw,hd1⟩,k1⟩:=l2Path_ok (K:=K) hd
 obtain ⟨_,⟨y,d2,rfl,hy,hd2⟩,k2⟩:=l1Below_ok (K:=K) hd1 (n:=12)
 simp (disch:=omega) only [vcd]
 refine call_by (k1) rfl ?_
 simp (disch:=omega) only [vcd]
 refine call_by (k2) rfl ?_
 by_cases h1:y=0
 ·obtain ⟨_,⟨x,d3,rfl,hx,hd3⟩,k3⟩:=l1Spoil_ok (K:=K) hd2 (w:=w) (by omega)
  simp (disch:=omega) only [vcd,h1]
  refine call_by (k3) rfl ?_
  simp (disch:=omega) only [vcd]
  exact ⟨_,_,rfl,by omega,hd3⟩
 ·by_cases h2:y=1
  ·obtain ⟨_,⟨x,d3,rfl,hx,hd3⟩,k3⟩:=l1Pick_ok (K:=K) hd2 (l:=[[],[100,117],[117],[120],[117,117,117,117,117,117,117,117,117,100,100,100,100,100,100,100,100,100],[117,117,117,117,117,117,117,117,100,100,100,100,100,100,100,100]]) (by simp) (by simp)
   simp (disch:=omega) only [vcd,h2,liS_c,consS_LS]
   refine call_by (k3) rfl ?_
   simp (disch:=omega) only [vcd]
   refine ⟨_,_,rfl,?_,hd3⟩
   simp at hx
   rcases hx with rfl | rfl | rfl | rfl | rfl | rfl <;> simp
  ·simp (disch:=omega) only [vcd]
   exact ⟨_,_,rfl,by omega,hd2⟩
end Go.Cat
namespace Go.Cat
variable {K:Nat→List D→List D→Prop}
set_option maxRecDepth 100000
def pkF:List Nat→Nat
 | a::b::w=>(if a=117∧b=100 then 1 else 0)+pkF (b::w)
 | _=>0
def szR (w:List Nat):Int:=if dyck w=true then (w.length:Int) / 2 else -1
def rchk (m:Nat):List (List Nat)→Nat→Bool
 | [],_=>true
 | w::l,i=>dyck w&&decide (rkF w m m=i)&&decide (w.length=2*m)&&decide (pkF w<10)&&rchk m l (i+1)
theorem rchk_get {m:Nat}:∀ {l:List (List Nat)} {i:Nat},rchk m l i=true→∀ (j:Nat) (w:List Nat),l[j]?=some w→dyck w=true∧rkF w m m=i+j∧w.length=2*m∧pkF w<10
 | [],_,_,j,w,h=>by simp at h
 | x::l,i,h,j,w,hj=>by
  simp only [rchk,qba,qde] at h
  obtain ⟨⟨⟨⟨h1,h2⟩,h3⟩,h5⟩,h4⟩:=h
  cases j with
  | zero=>simp at hj; subst hj; exact ⟨h1,by omega,h3,h5⟩
  | succ j=>
   obtain ⟨q1,q2,q3⟩:=rchk_get h4 j w (by simpa using hj)
   exact ⟨q1,by omega,q3⟩
theorem rch0:allB 7 (fun m=>rchk m (pathsR m) 0&&decide ((pathsR m).length≤1000))=true:=by kernel_rfl
end Go.Cat
