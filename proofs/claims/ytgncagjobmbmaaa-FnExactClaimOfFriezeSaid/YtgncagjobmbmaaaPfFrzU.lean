/-
 The triangulation of a quiddity.
-/
import Derived.Test.YtgncagjobmbmaaaPfFrzT
set_option linter.unusedSimpArgs false
set_option linter.unusedVariables false
namespace Go.Cat
variable {K:Nat→List D→List D→Prop}
theorem dgQ_row {n:Nat} {c:List Int} {j:Nat}:row2 (dgQ n c j):=rfl
theorem ctO_app:∀ {f:Nat} {l c:List Int} {o:List (List Int)} {x:List (List Int)×List Int},ctO f l c o=some x→x.1.length=o.length+f∧((∀ y∈o,row2 y)→∀ y∈x.1,row2 y)
 | 0,l,c,o,x=>fun h=>by
  simp only [ctO,qsj] at h
  subst h
  exact ⟨rfl,fun h=>h⟩
 | f+1,l,c,o,x=>fun h=>by
  simp only [ctO] at h
  split at h
  ·obtain ⟨h1,h2⟩:=ctO_app h
   refine ⟨by rw [h1,qla]; simp only [qlc,qln]; omega,fun ho=>h2 fun y hy=>?_⟩
   rcases qma.1 hy with q | q
   ·exact ho y q
   ·rw [List.mem_singleton.1 q]; exact dgQ_row
  ·cases h
theorem ctR_len {q:List Int}:(ctL (ctR q)).length≤7∧∀ y∈ctL (ctR q),row2 y:=by
 unfold ctR
 split
 ·rename_i h
  obtain ⟨_,z2,z3⟩:=fzB_iff.1 h
  cases hx:ctO (q.length-3) q (rnQ q.length) [] with
  | none=>simp [ctL]
  | some x=>
   obtain ⟨h1,h2⟩:=ctO_app hx
   simp only [ctL]
   exact ⟨by rw [h1]; simp only [qln]; omega,h2 (by simp)⟩
 ·simp [ctL]
def tqF (q:List Int):List (List Int):=if ctB (ctR q)=true then srfF (ctL (ctR q)) else []
theorem srfF_row {d:List (List Int)} (h:∀ y∈d,row2 y):∀ y∈srfF d,row2 y:=by
 have key:∀ (n:Nat) (d:List (List Int)),d.length=n→(∀ y∈d,row2 y)→∀ y∈srfF d,row2 y:=by
  intro n
  induction n with
  | zero=>
   intro d hd _ y hy
   rw [List.length_eq_zero_iff.1 hd] at hy
   simp [srfF,srtV] at hy
  | succ n ih=>
   intro d hd hr y hy
   obtain ⟨e,x,rfl⟩:∃ e x,d=e++[x]:=⟨d.dropLast,d.getLast (by rintro rfl; simp at hd),(List.dropLast_concat_getLast _).symm⟩
   rw [srf_snoc,List.mem_reverse] at hy
   rcases insV_mem.1 hy with q | q
   ·rw [q]; exact hr x (by simp)
   ·exact ih e (by simpa using hd) (fun z hz=>hr z (by simp [hz])) y (List.mem_reverse.1 q)
 exact key _ d rfl h
theorem f1Q_lt {l:List Int} {k:Nat} (h:k<f1Q l):atI l k≠1:=by
 intro h1
 have hl:k<l.length:=Nat.lt_of_lt_of_le h List.findIdx_le_length
 have:=List.not_of_lt_findIdx h
 have e:l[k]'hl=atI l k:=by simp [atI,hl]
 rw [e,h1] at this
 cases this
theorem triq_s [HA K] {q:List Int} (h:q.length≤1048576):K 345 [LI q] [LL (tqF q),.b (ctB (ctR q))]:=by
 refine body_by (f:=ir_spec_TriangulationOfQuiddity) rfl ?_; simp only [ir_spec_TriangulationOfQuiddity,zn,zs,zq,zi,zg,zp]
 simp (disch:=first|omega|simp only[vl];omega) only [vcd]
 refine call_by (isq_s (K:=K) h) rfl ?_
 cases hb:ctB (ctR q)
 ·simp (disch:=first|omega|simp only[vl];omega) only [vcd]
  simp [tqF,hb,LL]
 have hz:fzB q=true:=by
  cases hz:fzB q with
  | true=>rfl
  | false=>rw [ctR_f hz] at hb; cases hb
 obtain ⟨z1,z2,z3⟩:=fzB_iff.1 hz
 have eR:ctR q=ctO (q.length-3) q (rnQ q.length) []:=by rw [ctR,if_pos hz]
 have hq0:ctQ (q.length-3) q=true:=by rw [← ctR_b hz]; exact hb
 simp (disch:=first|omega|simp only[vl];omega) only [vcd,appZ]
 refine loop_up (fun i (r:List Int)=>r=rnQ i) (fun i r=>[LI q,.u,.u,.l [],LI q,LI r,.n i,.u,.u,.u,.u,.u,.u,.u,.u]) q.length [] rfl rfl (fun i r hi hP=>?_) (fun r hP=>?_)
 ·have hr:r.length=i:=by rw [hP]; simp [rnQ]
  simp (disch:=first|omega|simp only[vl];omega) only [vcd]
  refine ⟨_,?_,rfl⟩
  rw [hP,rnQ,rnQ,map_snocQ]
 subst hP
 simp (disch:=first|omega|simp only[vl];omega) only [vcd]
 refine loop_wh (fun (x:(Nat×List Int×List Int×List (List Int))×D×D)=>x.1.2.1.length=x.1.1+3∧x.1.2.2.1.length=x.1.1+3∧x.1.1≤7∧(∀ y∈x.1.2.1,(x.1.1:Int)-10≤y∧y≤100)∧x.1.2.2.2.length+x.1.1≤7∧(∀ y∈x.1.2.2.2,row2 y)∧ctQ x.1.1 x.1.2.1=true∧ctO x.1.1 x.1.2.1 x.1.2.2.1 x.1.2.2.2=ctR q)
  (fun x=>[x.2.1,.u,.u,LL (srfF x.1.2.2.2),LI x.1.2.1,LI x.1.2.2.1,x.2.2,.u,.u,.u,.u,.u,.u,.u,.u]) (fun x=>x.1.1) ((q.length-3,q,rnQ q.length,[]),LI q,.n q.length) ⟨by simp only; omega,by simp [rnQ]; omega,by simp only; omega,fun y hy=>by have:=z1 y hy; simp only; omega,by simp only [qln]; omega,by simp,hq0,eR.symm⟩ rfl ?_
 rintro ⟨⟨f,l,c,o⟩,d0,d6⟩ ⟨g1,g2,g3,g4,g5,gr,g7,g6⟩
 simp only at g1 g2 g3 g4 g5 gr g7 g6 ⊢
 cases f with
 | zero=>
  simp only [ctO] at g6
  simp (disch:=first|omega|simp only[vl];omega) only [vcd]
  rw [tqF,if_pos hb,← g6]
  rfl
 | succ f=>
  simp only [ctQ,qba,qde] at g7
  obtain ⟨hj,g8⟩:=g7
  simp (disch:=first|omega|simp only[vl];omega) only [vcd]
  refine loop_wh (fun (x:Nat)=>x≤f1Q l) (fun x=>[.u,.u,.u,LL (srfF o),LI l,LI c,.u,.n (x:Nat),.u,.u,.u,.u,.u,.u,.u]) (fun x=>f1Q l-x) 0 (Nat.zero_le _) rfl ?_
  intro k hk
  by_cases hk2:k=f1Q l
  ·subst hk2
   have h1:=f1Q_at hj
   have e1:((f1Q l:Int)+l.length-1) % (l.length:Int)=(pvQ l.length (f1Q l):Nat):=by
    rw [show (f1Q l:Int)+l.length-1=((f1Q l+l.length-1:Nat):Int) by omega]; simp [pvQ,Int.natCast_emod]
   have e2:((f1Q l:Int)+1) % (l.length:Int)=(nxQ l.length (f1Q l):Nat):=by simp [nxQ,Int.natCast_emod]
   have p1:pvQ l.length (f1Q l)<l.length:=Nat.mod_lt _ (by omega)
   have p2:nxQ l.length (f1Q l)<l.length:=Nat.mod_lt _ (by omega)
   have m1:=g4 _ (atI_memQ p2)
   have p3:pvQ l.length (f1Q l)<(seI l (nxQ l.length (f1Q l):Nat) (atI l (nxQ l.length (f1Q l):Nat)-1)).length:=by rw [seI_lenQ]; exact p1
   have m2:(f:Int)-10≤atI (seI l (nxQ l.length (f1Q l):Nat) (atI l (nxQ l.length (f1Q l):Nat)-1)) (pvQ l.length (f1Q l):Nat)∧atI (seI l (nxQ l.length (f1Q l):Nat) (atI l (nxQ l.length (f1Q l):Nat)-1)) (pvQ l.length (f1Q l):Nat)≤100:=by
    rcases seI_mem (atI_memQ p3) with q | q
    ·rw [q]; omega
    ·have:=g4 _ q; omega
   have hd:seI (seI l (nxQ l.length (f1Q l):Nat) (atI l (nxQ l.length (f1Q l):Nat)-1)) (pvQ l.length (f1Q l):Nat) (atI (seI l (nxQ l.length (f1Q l):Nat) (atI l (nxQ l.length (f1Q l):Nat)-1)) (pvQ l.length (f1Q l):Nat)-1)=dcR l (f1Q l):=rfl
   have hdl:(dcR l (f1Q l)).length=l.length:=by simp [dcR,seI]
   have s1:=sub_l1 (l:=dcR l (f1Q l)) (j:=f1Q l) (by omega)
   have s2:=sub_l2 (l:=dcR l (f1Q l)) (j:=f1Q l) (by omega)
   have s3:=sub_rm (l:=dcR l (f1Q l)) (j:=f1Q l) (by omega)
   have s4:=cutR_eq (l:=l) (j:=f1Q l) (by omega) hj
   have t1:=sub_l1 (l:=c) (j:=f1Q l) (by omega)
   have t2:=sub_l2 (l:=c) (j:=f1Q l) (by omega)
   have t3:=sub_rm (l:=c) (j:=f1Q l) (by omega)
   have el:c.length=l.length:=by omega
   rw [hdl] at s2 s3
   rw [el] at t2 t3
   have hx:[min (atI c (nxQ l.length (f1Q l):Nat)) (atI c (pvQ l.length (f1Q l):Nat)),max (atI c (nxQ l.length (f1Q l):Nat)) (atI c (pvQ l.length (f1Q l):Nat))]=dgQ l.length c (f1Q l):=by
    rw [dgQ,Int.min_comm,Int.max_comm]
   have hp:=put_s (K:=K) (l:=srfF o) (x:=dgQ l.length c (f1Q l)) (by rw [srfF,List.length_reverse,srtV_len]; omega) (srfF_row gr) dgQ_row
   rw [← srf_snoc] at hp
   simp (disch:=first|omega|simp only[vl];omega) only [vcd,h1,e1,e2,seI_lenQ]
   trace_state
   rw [hx]
   refine call_by (hp) rfl ?_
   simp (disch:=first|omega|simp only[vl];omega) only [vcd,h1,e1,e2,seI_lenQ,hd,hdl,appF,el]
   trace_state
   have k1:(cutQ l (f1Q l)).length=f+3:=by rw [cutQ_len hj]; omega
   have k2:(rmQ c (f1Q l)).length=f+3:=by rw [rmQ_len (by omega)]; omega
   have k3:ctO f (cutQ l (f1Q l)) (rmQ c (f1Q l)) (o++[dgQ l.length c (f1Q l)])=ctR q:=by
    rw [← g6,ctO,if_pos hj]
   refine ⟨((f,cutQ l (f1Q l),rmQ c (f1Q l),o++[dgQ l.length c (f1Q l)]),.u,.u),by simp,⟨k1,k2,by simp only; omega,?_,by simp only [qla,qlc,qln]; omega,?_,g8,k3⟩,?_⟩
   ·show ∀ x∈cutQ l (f1Q l),(f:Int)-10≤x∧x≤100
    exact cutQ_bd (by omega) hj fun x hx=>by have:=g4 x hx; omega
   ·intro y hy
    rcases qma.1 hy with q | q
    ·exact gr y q
    ·rw [List.mem_singleton.1 q]; exact dgQ_row
   ·rw [s3,s4,t3]
  ·have h1:atI l k≠1:=f1Q_lt (by omega)
   simp (disch:=first|omega|simp only[vl];omega) only [vcd]
   refine ⟨k+1,by omega,by omega,?_⟩
   simp
end Go.Cat
