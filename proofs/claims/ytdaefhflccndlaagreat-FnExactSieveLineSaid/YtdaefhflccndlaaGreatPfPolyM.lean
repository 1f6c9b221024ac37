/-
 Polynomials: products and quotients.
-/
import Derived.Test.YtdaefhflccndlaaGreatPfPoly
import Derived.Test.YtdaefhflccndlaaGreatPfStatB
set_option linter.unusedSimpArgs false
set_option linter.unusedVariables false
namespace Go.Cat
variable {K:Nat→List D→List D→Prop}
def dvI (b:List Int) (c:Int) (i k:Nat) (o:List Int):List Int:=seI o ((i:Int)+k) (IntKind.i64.wrap (atI o ((i:Int)+k)-IntKind.i64.wrap (c*atI b k)))
theorem dvI_len {b o:List Int} {c:Int} {i k:Nat}:(dvI b c i k o).length=o.length:=by simp [dvI,seI]
theorem dvI_lens {b o:List Int} {c:Int} {i n:Nat}:(iter (dvI b c i) n o).length=o.length:=iter_inv (fun (s:List Int)=>s.length=o.length) rfl (fun i s h=>by rw [dvI_len,h]) n
def dvS (b:List Int) (i:Nat) (x:List Int×List Int):List Int×List Int:=
 (iter (dvI b (atI x.1 ((i:Int)+b.length-1)) i) b.length x.1,seI x.2 i (atI x.1 ((i:Int)+b.length-1)))
def dvL (b:List Int):Nat→List Int×List Int→Option (List Int×List Int)
 | 0,x=>some x
 | i+1,x=>if inR (-1000000000) 1000000000 (atI x.1 ((i:Int)+b.length-1))=true then dvL b i (dvS b i x) else none
def dvT (b:List Int):Nat→List Int×List Int→List Int×List Int
 | 0,x=>x
 | i+1,x=>dvT b i (dvS b i x)
def dvN (a b:List Int):Nat:=a.length+1-b.length
def dvC (a b:List Int):Bool:=smlF a&&inR 1 13 b.length&&decide (atI b ((b.length:Int)-1)=1)&&b.all (inR (-1) 1)
def dvM (a b:List Int):Option (List Int×List Int):=if dvC a b=true then (dvL b (dvN a b) (a,rep (dvN a b:Nat) 0)).bind fun x=>if polF (trimF x.2)&&polF (trimF x.1) then some (trimF x.2,trimF x.1) else none else none
theorem dvL_len {b:List Int}:∀ {i:Nat} {x y:List Int×List Int},dvL b i x=some y→y.1.length=x.1.length∧y.2.length=x.2.length
 | 0,x,y,h=>by simp only [dvL,qsj] at h; subst h; exact ⟨rfl,rfl⟩
 | i+1,x,y,h=>by
  simp only [dvL] at h
  split at h
  ·have:=dvL_len h
   simp only [dvS,dvI_lens,seI_len] at this
   exact this
  ·cases h
theorem div_i [HA K] {a b:List Int} (h:a.length≤1048576) (h2:b.length≤1048576) (h0:1≤b.length):
  K 461 [LI a,LI b] (match dvL b (dvN a b) (a,rep (dvN a b:Nat) 0) with | some x=>[LI (trimF x.2),LI (trimF x.1),.b true] | none=>[LI [],LI [],.b false]):=by
 have hn:(max 0 ((a.length:Int)-(b.length:Int)+1))=(dvN a b:Nat):=by simp only [dvN]; omega
 refine body_by (f:=ir_impl_divide) rfl ?_; simp only [ir_impl_divide,zn,zs,zq,zi,zg,zp]
 simp (disch:=first|omega|simp only[vl];omega) only [vcd]
 refine call_by (copyInts_ok (K:=K) (p:=a) (by omega)) rfl ?_
 simp (disch:=first|omega|simp only[vl];omega) only [vcd,hn]
 refine loop_wh (fun (x:Nat×List Int×List Int)=>x.1≤dvN a b∧x.2.1.length=a.length∧x.2.2.length=dvN a b∧dvL b x.1 x.2=dvL b (dvN a b) (a,rep (dvN a b:Nat) 0)) (fun x=>[.u,LI b,.u,.u,.u,LI x.2.1,LI x.2.2,.n ((x.1:Int)-1),.u,.u,.u,.u,.u,.u,.u,.u,.u]) (fun x=>x.1) (dvN a b,a,rep (dvN a b:Nat) 0) ⟨Nat.le_refl _,rfl,by simp [rep],rfl⟩ (by simp [rep]) ?_
 rintro ⟨i,l,q⟩ ⟨g1,g2,g3,g4⟩
 simp only at g1 g2 g3 g4 ⊢
 have hdn:dvN a b=a.length+1-b.length:=rfl
 cases i with
 | zero=>
  have ht:=trimF_len (p:=l)
  have ht2:=trimF_len (p:=q)
  simp (disch:=first|omega|simp only[vl];omega) only [vcd]
  refine call_by (trim_i (K:=K) (p:=q) (by omega)) rfl ?_
  simp (disch:=first|omega|simp only[vl];omega) only [vcd]
  refine call_by (trim_i (K:=K) (p:=l) (by omega)) rfl ?_
  simp (disch:=first|omega|simp only[vl];omega) only [vcd]
  rw [← g4]; rfl
 | succ i=>
  have ei:((i+1:Nat):Int)-1=i:=by omega
  rw [ei]
  simp (disch:=first|omega|simp only[vl];omega) only [vcd]
  refine call_by (within_ok (K:=K)) rfl ?_
  cases hr:inR (-1000000000) 1000000000 (atI l ((i:Int)+b.length-1))
  ·simp (disch:=first|omega|simp only[vl];omega) only [vcd]
   rw [← g4]
   simp only [dvL,hr]
   rfl
  ·simp (disch:=first|omega|simp only[vl];omega) only [vcd]
   refine loop_fold (dvI b (atI l ((i:Int)+b.length-1)) i) (fun _ (o:List Int)=>o.length=a.length) (fun k o=>[.u,LI b,.u,.u,.u,LI o,LI (seI q i (atI l ((i:Int)+b.length-1))),.n i,.n (atI l ((i:Int)+b.length-1)),.u,.u,.u,.u,LI b,.n b.length,.n k,.u]) b.length l g2 rfl (fun k s _ hs=>by rw [dvI_len,hs]) (fun k o2 hk ho2 _=>?_) (fun o2 ho3 ho2=>?_)
   ·simp (disch:=first|omega|simp only[vl];omega) only [vcd,dvI]
   ·simp (disch:=first|omega|simp only[vl];omega) only [vcd]
    refine ⟨(i,o2,seI q i (atI l ((i:Int)+b.length-1))),by omega,⟨by omega,ho2,by rw [seI_len,g3],?_⟩,by simp⟩
    rw [← g4]
    simp only [dvL,hr,if_true]
    rw [ho3]; rfl
theorem dv_i [HA K] {a b:List Int} (h:a.length≤1048576) (h2:b.length≤1048576):
  K 403 [LI a,LI b] (match dvM a b with | some x=>[LI x.1,LI x.2,.b true] | none=>[LI [],LI [],.b false]):=by
 refine body_by (f:=ir_impl_DividePolynomials) rfl ?_; simp only [ir_impl_DividePolynomials,zn,zs,zq,zi,zg,zp]
 simp (disch:=first|omega|simp only[vl];omega) only [vcd]
 refine call_by (fac_i (K:=K) (p:=a) (by omega)) rfl ?_
 cases ha:smlF a
 ·simp (disch:=first|omega|simp only[vl];omega) only [vcd]
  refine loop_ix (fun _=>True) (fun i=>[LI a,LI b,.u,.u,.u,.b false,.u,.u,.u,.u,LI b,.n b.length,.n i,.u,.u,.u]) b.length trivial rfl (fun i hi _=>?_) (fun _=>?_)
  ·simp (disch:=first|omega|simp only[vl];omega) only [vcd]
  ·simp (disch:=first|omega|simp only[vl];omega) only [vcd,LI_nil]
   simp [dvM,dvC,ha]
 ·simp (disch:=first|omega|simp only[vl];omega) only [vcd]
  refine call_by (within_ok (K:=K)) rfl ?_
  cases hl:inR 1 13 b.length
  ·simp (disch:=first|omega|simp only[vl];omega) only [vcd]
   refine loop_ix (fun _=>True) (fun i=>[LI a,LI b,.u,.u,.u,.b false,.u,.u,.u,.u,LI b,.n b.length,.n i,.u,.u,.u]) b.length trivial rfl (fun i hi _=>?_) (fun _=>?_)
   ·simp (disch:=first|omega|simp only[vl];omega) only [vcd]
   ·simp (disch:=first|omega|simp only[vl];omega) only [vcd,LI_nil]
    simp [dvM,dvC,ha,hl]
  ·have hb:=inR_iff.1 hl
   by_cases hz:atI b ((b.length:Int)-1)=1
   ·simp (disch:=first|omega|simp only[vl];omega) only [vcd,hz]
    refine loop_up (fun i (x:Bool)=>(x=true→∀ j:Nat,j<i→inR (-1) 1 (atI b j)=true)∧(x=false→b.all (inR (-1) 1)=false)) (fun i x=>[LI a,LI b,.u,.u,.u,.b x,.u,.u,.u,.u,LI b,.n b.length,.n i,.u,.u,.u]) b.length true ⟨fun _=>by simp,by simp⟩ rfl (fun i x hi hP=>?_) (fun x hP=>?_)
    ·simp (disch:=first|omega|simp only[vl];omega) only [vcd]
     cases x
     ·simp (disch:=first|omega|simp only[vl];omega) only [vcd]
      exact ⟨false,⟨by simp,hP.2⟩,rfl⟩
     ·simp (disch:=first|omega|simp only[vl];omega) only [vcd]
      refine call_by (within_ok (K:=K)) rfl ?_
      cases hr:inR (-1) 1 (atI b i)
      ·simp (disch:=first|omega|simp only[vl];omega) only [vcd]
       exact ⟨false,⟨by simp,fun _=>all_f hi hr⟩,rfl⟩
      ·simp (disch:=first|omega|simp only[vl];omega) only [vcd]
       exact ⟨true,⟨fun _=>all_s (hP.1 rfl) hr,by simp⟩,rfl⟩
    ·cases x
     ·simp (disch:=first|omega|simp only[vl];omega) only [vcd,LI_nil]
      simp [dvM,dvC,hP.2 rfl]
     ·have hall:=all_t (hP.1 rfl)
      have hc:dvC a b=true:=by simp [dvC,ha,hl,hz,hall]
      have kd:=div_i (K:=K) h h2 (by omega)
      have hlen:=fun y=>dvL_len (b:=b) (i:=dvN a b) (x:=(a,rep (dvN a b:Nat) 0)) (y:=y)
      have hdn:dvN a b=a.length+1-b.length:=rfl
      simp only [dvM,hc,if_true]
      simp (disch:=first|omega|simp only[vl];omega) only [vcd]
      cases hq:dvL b (dvN a b) (a,rep (dvN a b:Nat) 0) with
      | none=>
       rw [hq] at kd
       refine call_by (kd) rfl ?_
       simp (disch:=first|omega|simp only[vl];omega) only [vcd,LI_nil]
       rfl
      | some y=>
       rw [hq] at kd
       obtain ⟨e1,e2⟩:=hlen y hq
       simp only [rep_len] at e1 e2
       have t1:=trimF_len (p:=y.1)
       have t2:=trimF_len (p:=y.2)
       have t3:=trN_le (p:=y.1) y.1.length
       have t4:=trN_le (p:=y.2) y.2.length
       refine call_by (kd) rfl ?_
       simp (disch:=first|omega|simp only[vl];omega) only [vcd]
       cases p1:polF (trimF y.2)
       ·repeat (first | (refine call_by (poly_i (K:=K) (p:=trimF y.2) (by omega)) rfl ?_; try simp (disch:=first|omega|simp only[vl];omega) only [vcd,p1,LI_nil]))
        all_goals rfl
       ·cases p2:polF (trimF y.1)
        ·repeat (first | (refine call_by (poly_i (K:=K) (p:=trimF y.2) (by omega)) rfl ?_; try simp (disch:=first|omega|simp only[vl];omega) only [vcd,p1,p2,LI_nil]) | (refine call_by (poly_i (K:=K) (p:=trimF y.1) (by omega)) rfl ?_; try simp (disch:=first|omega|simp only[vl];omega) only [vcd,p1,p2,LI_nil]))
         all_goals rfl
        ·repeat (first | (refine call_by (poly_i (K:=K) (p:=trimF y.2) (by omega)) rfl ?_; try simp (disch:=first|omega|simp only[vl];omega) only [vcd,p1,p2]) | (refine call_by (poly_i (K:=K) (p:=trimF y.1) (by omega)) rfl ?_; try simp (disch:=first|omega|simp only[vl];omega) only [vcd,p1,p2]))
         all_goals rfl
   ·simp (disch:=first|omega|simp only[vl];omega) only [vcd]
    refine loop_ix (fun _=>True) (fun i=>[LI a,LI b,.u,.u,.u,.b false,.u,.u,.u,.u,LI b,.n b.length,.n i,.u,.u,.u]) b.length trivial rfl (fun i hi _=>?_) (fun _=>?_)
    ·simp (disch:=first|omega|simp only[vl];omega) only [vcd]
    ·simp (disch:=first|omega|simp only[vl];omega) only [vcd,LI_nil]
     simp [dvM,dvC,hz]
end Go.Cat
