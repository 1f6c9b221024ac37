/-
 Polynomials: quotients of the reference, values, ones.
-/
import Derived.Test.YtdaefhflccndlaaGreatPfPolyM
import Derived.Test.YtdaefhflccndlaaGreatPfFmt
import Derived.Test.YtdaefhflccndlaaGreatPfTxt
set_option linter.unusedSimpArgs false
set_option linter.unusedVariables false
namespace Go.Cat
variable {K:Nat→List D→List D→Prop}
theorem ldv_s [HA K] {a b:List Int} (h:a.length≤1048576) (h2:b.length≤1048576) (h0:1≤b.length):
  K 471 [LI a,LI b] [LI (trimF (dvT b (dvN a b) (a,rep (dvN a b:Nat) 0)).2),LI (trimF (dvT b (dvN a b) (a,rep (dvN a b:Nat) 0)).1)]:=by
 have hn:(max 0 ((a.length:Int)-(b.length:Int)+1))=(dvN a b:Nat):=by simp only [dvN]; omega
 have hdn:dvN a b=a.length+1-b.length:=rfl
 refine body_by (f:=ir_spec_l14Divide) rfl ?_; simp only [ir_spec_l14Divide,zn,zs,zq,zi,zg,zp]
 simp (disch:=first|omega|simp only[vl];omega) only [vcd,LI_nil,hn]
 refine loop_wh (fun (x:Nat×List Int×List Int)=>x.1≤dvN a b∧x.2.1.length=a.length∧x.2.2.length=dvN a b∧dvT b x.1 x.2=dvT b (dvN a b) (a,rep (dvN a b:Nat) 0)) (fun x=>[.u,LI b,.u,.u,LI x.2.1,LI x.2.2,.n ((x.1:Int)-1),.u,.u,.u,.u]) (fun x=>x.1) (dvN a b,a,rep (dvN a b:Nat) 0) ⟨Nat.le_refl _,rfl,by simp [rep],rfl⟩ (by simp [rep]) ?_
 rintro ⟨i,l,q⟩ ⟨g1,g2,g3,g4⟩
 simp only at g1 g2 g3 g4 ⊢
 cases i with
 | zero=>
  simp (disch:=first|omega|simp only[vl];omega) only [vcd]
  refine call_by (trim_s (K:=K) (p:=q) (by omega)) rfl ?_
  simp (disch:=first|omega|simp only[vl];omega) only [vcd]
  refine call_by (trim_s (K:=K) (p:=l) (by omega)) rfl ?_
  simp (disch:=first|omega|simp only[vl];omega) only [vcd]
  rw [← g4]; rfl
 | succ i=>
  have ei:((i+1:Nat):Int)-1=i:=by omega
  rw [ei]
  simp (disch:=first|omega|simp only[vl];omega) only [vcd]
  refine loop_fold (dvI b (atI l ((i:Int)+b.length-1)) i) (fun _ (o:List Int)=>o.length=a.length) (fun k o=>[.u,LI b,.u,.u,LI o,LI (seI q i (atI l ((i:Int)+b.length-1))),.n i,.n (atI l ((i:Int)+b.length-1)),.n k,.u,.u]) b.length l g2 rfl (fun k s _ hs=>by rw [dvI_len,hs]) (fun k o2 hk ho2 _=>?_) (fun o2 ho3 ho2=>?_)
  ·simp (disch:=first|omega|simp only[vl];omega) only [vcd,dvI]
  ·simp (disch:=first|omega|simp only[vl];omega) only [vcd]
   refine ⟨(i,o2,seI q i (atI l ((i:Int)+b.length-1))),by omega,⟨by omega,ho2,by rw [seI_len,g3],?_⟩,by simp⟩
   rw [← g4]
   simp only [dvT]
   rw [ho3]; rfl
theorem npo_s [HA K] {n:Nat} (h:n≤1000):K 470 [.n n] [LI (rep (n:Nat) 1)]:=by
 refine body_by (f:=ir_spec_l14Number) rfl ?_; simp only [ir_spec_l14Number,zn,zs,zq,zi,zg,zp]
 simp (disch:=first|omega|simp only[vl];omega) only [vcd,LI_nil]
 refine loop_ix (fun _=>True) (fun i=>[.n n,.u,LI (rep (i:Nat) 1),.n i,.u]) n trivial (by simp [rep]) (fun i hi _=>?_) (fun _=>?_)
 ·have e:rep ((i:Int)+1) (1:Int)=rep (i:Nat) 1++[1]:=by rw [show (i:Int)+1=((i+1:Nat):Int) by omega]; simp only [rep_n]; rw [List.replicate_succ']
  simp (disch:=first|omega|simp only[vl];omega) only [vcd]
  rw [e]
 ·simp (disch:=first|omega|simp only[vl];omega) only [vcd]
def npO (n:Int):Bool:=inR 0 20 n
def npR (n:Int):List Int:=if npO n=true then rep n 1 else []
theorem np_i [HA K] {n:Int}:K 422 [.n n] [LI (npR n),.b (npO n)]:=by
 refine body_by (f:=ir_impl_NumberPolynomial) rfl ?_; simp only [ir_impl_NumberPolynomial,zn,zs,zq,zi,zg,zp]
 simp (disch:=first|omega|simp only[vl];omega) only [vcd]
 refine call_by (within_ok (K:=K)) rfl ?_
 cases h:inR 0 20 n
 ·simp (disch:=first|omega|simp only[vl];omega) only [vcd,LI_nil]
  simp [npR,npO,h]
 ·have hb:=inR_iff.1 h
  obtain ⟨m,rfl⟩:=qoz hb.1
  simp (disch:=first|omega|simp only[vl];omega) only [vcd,LI_nil]
  refine loop_ix (fun _=>True) (fun i=>[.u,.u,.u,LI (rep (i:Nat) 1),.u,.n m,.n i,.u]) m trivial (by simp [rep]) (fun i hi _=>?_) (fun _=>?_)
  ·have e:rep ((i:Int)+1) (1:Int)=rep (i:Nat) 1++[1]:=by rw [show (i:Int)+1=((i+1:Nat):Int) by omega]; simp only [rep_n]; rw [List.replicate_succ']
   simp (disch:=first|omega|simp only[vl];omega) only [vcd]
   rw [e]
  ·simp (disch:=first|omega|simp only[vl];omega) only [vcd]
   simp [npR,npO,h]
def fpW (p:List Int):List (List Nat):=p.map fmtI
def fpF (p:List Int):List Nat:=if p.length=0∨polF p=false then [48] else glue [44] (fpW p)
theorem fpW_b {p:List Int} (h:polF p=true):∀ x∈fpW p,x.length≤20:=by
 intro x hx
 obtain ⟨y,hy,rfl⟩:=List.mem_map.1 hx
 obtain ⟨j,hj,rfl⟩:=List.mem_iff_getElem.1 hy
 have:=polF_at h hj
 refine fmt_len ?_
 simp only [atI,qtn,qgd,qge hj,Option.getD_some] at this
 omega
theorem fpW_at {p:List Int} {i:Nat} (h:i<p.length):atS (fpW p) i=fmtI (atI p i):=by simp [atS,fpW,atI,h]
theorem fpW_take {p:List Int} {i:Nat} (h:i<p.length):(fpW p).take (i+1)=(fpW p).take i++[fmtI (atI p i)]:=by
 rw [qta (by simpa [fpW] using h)]; simp [fpW,atI,h]
theorem fpW_len {p:List Int}:(fpW p).length=p.length:=by simp [fpW]
theorem fpol_i [HA K] {p:List Int} (h:p.length≤1048576):K 430 [LI p] [.s (fpF p)]:=by
 refine body_by (f:=ir_impl_FormatPolynomial) rfl ?_; simp only [ir_impl_FormatPolynomial,zn,zs,zq,zi,zg,zp]
 by_cases h0:p.length=0
 ·simp (disch:=first|omega|simp only[vl];omega) only [vcd,h0]
  simp [fpF,h0]
 ·simp (disch:=first|omega|simp only[vl];omega) only [vcd]
  cases hp:polF p
  ·repeat (first | (refine call_by (poly_i (K:=K) (p:=p) (by omega)) rfl ?_; try simp (disch:=first|omega|simp only[vl];omega) only [vcd,hp]))
   simp [fpF,hp]
  ·have hl:=polF_len hp
   have hw:=fpW_len (p:=p)
   repeat (first | (refine call_by (poly_i (K:=K) (p:=p) (by omega)) rfl ?_; try simp (disch:=first|omega|simp only[vl];omega) only [vcd,hp]))
   rw [LS_nilT]
   refine loop_ix (fun _=>True) (fun i=>[.u,.u,LS ((fpW p).take i),.u,.u,LI p,.n p.length,.n i,.u]) p.length trivial (by simp) (fun i hi _=>?_) (fun _=>?_)
   ·have ht:((fpW p).take i).length=i:=by simp; omega
    have hb:=polF_at hp hi
    rw [fpW_take hi]
    simp (disch:=first|omega|simp only[vl];omega) only [vcd]
    refine call_by (fmt_i (K:=K) (n:=atI p i) (by omega)) rfl ?_
    simp (disch:=first|omega|simp only[vl];omega) only [vcd]
   ·rw [List.take_of_length_le (by omega)]
    simp (disch:=first|omega|simp only[vl];omega) only [vcd]
    have kg:=glued_ok (K:=K) (ws:=fpW p) (sep:=[44]) (by omega) (fun x hx=>by have:=fpW_b hp x hx; omega) (by simp)
    refine call_by (kg) rfl ?_
    simp (disch:=first|omega|simp only[vl];omega) only [vcd]
    simp [fpF,h0,hp]
theorem fmtI_ne {n:Int}:fmtI n≠[]:=by
 unfold fmtI
 split
 ·simp
 ·split
  ·simp
  ·rename_i h0 _
   rw [digs_s (by omega)]; simp
theorem fpol_s [HA K] {p:List Int} (h:p.length≤1048576):K 431 [LI p] [.s (fpF p)]:=by
 refine body_by (f:=ir_spec_FormatPolynomial) rfl ?_; simp only [ir_spec_FormatPolynomial,zn,zs,zq,zi,zg,zp]
 simp (disch:=first|omega|simp only[vl];omega) only [vcd]
 cases hp:polF p
 ·by_cases h0:p.length=0
  ·refine loop_wh (fun (_:Unit)=>True) (fun _=>[LI p,.u,.s [],.n 0,.u,.u,.u]) (fun _=>0) () trivial rfl (fun _ _=>?_)
   simp (disch:=first|omega|simp only[vl];omega) only [vcd,h0]
   simp [fpF,h0]
  ·refine loop_wh (fun (_:Unit)=>True) (fun _=>[LI p,.u,.s [],.n 0,.u,.u,.u]) (fun _=>0) () trivial rfl (fun _ _=>?_)
   simp (disch:=first|omega|simp only[vl];omega) only [vcd]
   repeat (first | (refine call_by (poly_s (K:=K) (p:=p) (by omega)) rfl ?_; try simp (disch:=first|omega|simp only[vl];omega) only [vcd,hp]))
   simp [fpF,hp]
 ·have hl:=polF_len hp
  have hw:=fpW_len (p:=p)
  refine loop_ix (fun _=>True) (fun i=>[LI p,.u,.s (glT [44] (fpW p) i),.n i,.u,.u,.u]) p.length trivial rfl (fun i hi _=>?_) (fun _=>?_)
  ·have hb:=polF_at hp hi
   have b1:=glT_len (sep:=[44]) (fpW_b hp) i
   have b2:=fmt_len (n:=atI p i) (by omega)
   have b3:i*(20+[44].length)≤61*21:=Nat.mul_le_mul (by omega) (by simp)
   have e:=fpW_at hi
   simp (disch:=first|omega|simp only[vl];omega) only [vcd]
   refine call_by (poly_s (K:=K) (p:=p) (by omega)) rfl ?_
   by_cases q:0<i
   ·simp (disch:=first|omega|simp only[vl];omega) only [vcd,hp]
    refine call_by (fmt_s (K:=K) (n:=atI p i) (by omega)) rfl ?_
    simp (disch:=first|omega|simp only[vl];omega) only [vcd]
    simp only [glT,if_pos q,e]
   ·simp (disch:=first|omega|simp only[vl];omega) only [vcd,hp]
    refine call_by (fmt_s (K:=K) (n:=atI p i) (by omega)) rfl ?_
    simp (disch:=first|omega|simp only[vl];omega) only [vcd]
    simp only [glT,if_neg q,e,List.append_nil]
  ·by_cases h0:p.length=0
   ·have e:glT [44] (fpW p) p.length=[]:=by rw [h0]; rfl
    rw [e]
    simp (disch:=first|omega|simp only[vl];omega) only [vcd,h0]
    simp [fpF,h0]
   ·have e:(glT [44] (fpW p) p.length == [])=false:=by
     refine beq_eq_false_iff_ne.2 ?_
     obtain ⟨m,hm⟩:∃ m,p.length=m+1:=⟨p.length-1,by omega⟩
     rw [hm,glT,fpW_at (by omega)]
     intro q
     have:=congrArg List.length q
     simp only [qla,qln] at this
     have h2:=fmtI_ne (n:=atI p m)
     have h3:(fmtI (atI p m)).length≠0:=fun q=>h2 (qez q)
     omega
    simp (disch:=first|omega|simp only[vl];omega) only [vcd,e]
    have hg:glue [44] (fpW p)=glT [44] (fpW p) p.length:=by rw [glue,hw]
    simp [fpF,h0,hp,hg]
end Go.Cat
