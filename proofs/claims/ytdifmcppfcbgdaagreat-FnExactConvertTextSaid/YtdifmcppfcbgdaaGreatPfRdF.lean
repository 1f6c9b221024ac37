/-
 ReadAs, PlaceIn, ConvertText: both sides.
-/
import Derived.Test.YtdifmcppfcbgdaaGreatPfRdE2
import Derived.Test.YtdifmcppfcbgdaaGreatPfRdE4
import Derived.Test.YtdifmcppfcbgdaaGreatPfRdE6
import Derived.Test.YtdifmcppfcbgdaaGreatPfRdE7
import Derived.Test.YtdifmcppfcbgdaaGreatPfLWr
import Derived.Test.YtdifmcppfcbgdaaGreatIrHas
set_option linter.unusedSimpArgs false
set_option linter.unusedVariables false
namespace Go.Cat
set_option maxRecDepth 100000
variable {K:Nat→List D→List D→Prop}
theorem BT.tpre:∀ {x y:BT} {a b:List Nat},x.t++a=y.t++b→x=y∧a=b
 | .lf,.lf,a,b,h=>by simpa [BT.t] using h
 | .lf,.nd _ _,a,b,h=>by simp [BT.t] at h
 | .nd _ _,.lf,a,b,h=>by simp [BT.t] at h
 | .nd l r,.nd l' r',a,b,h=>by
  simp only [BT.t,List.cons_append,qaa,List.cons.injEq,true_and,List.nil_append] at h
  obtain ⟨h1,h2⟩:=BT.tpre h
  obtain ⟨h3,h4⟩:=BT.tpre h2
  subst h1; subst h3
  simp only [List.cons.injEq,true_and] at h4
  exact ⟨rfl,h4⟩
theorem BT.tinj {x y:BT} (h:x.t=y.t):x=y:=(BT.tpre (a:=[]) (b:=[]) (by rw [h])).1
open Classical in
noncomputable def btOf (s:List Nat):List Nat:=if h:∃ x:BT,x.n≤8∧s=x.t then h.choose.p else []
theorem btOf_t {x:BT} (h:x.n≤8):btOf x.t=x.p:=by
 have e:∃ y:BT,y.n≤8∧x.t=y.t:=⟨x,h,rfl⟩
 simp only [btOf,dif_pos e]
 rw [← BT.tinj e.choose_spec.2]
theorem btOf_no {s:List Nat} (h:isB s=false):btOf s=[]:=by
 have:¬ ∃ x:BT,x.n≤8∧s=x.t:=by
  rintro ⟨x,hx,rfl⟩
  rw [isB_yes hx] at h; cases h
 simp only [btOf,dif_neg this]
theorem pbinA_s [HA K] {s:List Nat}:K 577 [.s s] [.s (btOf s),.b (isB s)]:=by
 cases h:isB s
 ·rw [btOf_no h]; exact pbin_s0 h
 ·obtain ⟨x,rfl,hx⟩:=isB_t h
  rw [btOf_t hx]; exact pbin_s hx
theorem pbinA_i [HA K] {s:List Nat}:K 560 [.s s] [.s (btOf s),.b (isB s)]:=by
 cases h:isB s
 ·rw [btOf_no h]; exact pbin_i0 h
 ·obtain ⟨x,rfl,hx⟩:=isB_t h
  rw [btOf_t hx]; exact pbin_i hx
def rdN (s:List Nat):Bool:=numO (cutF 58 s)&&decide ((numR (cutF 58 s)).length=2)
def rdP (s:List Nat):List Int:=s.map fun (c:Nat)=>(c:Int)-49
noncomputable def rdT:Nat→List Nat→List Nat
 | 0,s=>s
 | 1,s=>pbR s
 | 2,s=>if isPl (numR (cutF 44 s))=true then ppF (numR (cutF 44 s)) else []
 | 3,s=>btOf s
 | 4,s=>dgTR s
 | 5,s=>ptoR (ptSR s)
 | 6,s=>pomR (mtSR s)
 | 7,s=>pathRR (rdP s)
 | 8,s=>if rdN s=true then unRR (atI (numR (cutF 58 s)) 0) (atI (numR (cutF 58 s)) 1) else []
 | _,_=>[]
noncomputable def rdO:Nat→List Nat→Bool
 | 0,s=>dyck s
 | 1,s=>pbO s
 | 2,s=>isPl (numR (cutF 44 s))&&numO (cutF 44 s)
 | 3,s=>isB s
 | 4,s=>dgTO s
 | 5,s=>ncF (ptSR s)&&ptSO s
 | 6,s=>ncmF (mtSR s)&&mtSO s
 | 7,s=>pathO (rdP s)
 | 8,s=>rdN s&&unO (atI (numR (cutF 58 s)) 0) (atI (numR (cutF 58 s)) 1)
 | _,_=>false
theorem rd_8 {w:List Nat} (hd:dyck w=true):cutF 58 (txW w 8)=[fmtI ((w.length / 2:Nat):Int),fmtI (rkR w)]∧(0≤rkR w∧rkR w≤1430)∧unO ((w.length / 2:Nat):Int) (rkR w)=true∧unRR ((w.length / 2:Nat):Int) (rkR w)=w∧(txW w 8).length≤100:=by
 obtain ⟨n,r,h1,h2,h3,h4,h5,h6,h7⟩:=rk_good hd
 have hb:=rk_bd hd
 have e:w.length / 2=n:=by omega
 have e1:(w.length:Int) / 2=(n:Int):=by omega
 rw [e,txW,e1]
 refine ⟨cut_two (fmt_no rfl (by omega)) (fmt_no rfl (by omega)),by omega,by rw [h3]; exact h7,by rw [h3]; exact h6,?_⟩
 have k1:=fmt_k (x:=(n:Int)) (k:=2) (by omega) (by omega) (by omega)
 have k2:=fmt_k (x:=rkR w) (k:=4) (by omega) (by omega) (by omega)
 simp only [qla,qlc,qln]; omega
theorem rd_ok {w:List Nat} (hd:dyck w=true):∀ i:Nat,i<9→rdO i (txW w i)=true∧rdT i (txW w i)=w∧(txW w i).length≤100
 | 0,_=>by
  have hl:=(DY_of hd).l
  exact ⟨hd,rfl,by simp only [txW]; omega⟩
 | 1,_=>by
  have hl:=(DY_of hd).l
  obtain ⟨h1,h2⟩:=pbO_br hd
  have:=brF_len (w:=w)
  exact ⟨h1,h2,by simp only [txW]; omega⟩
 | 2,_=>by
  obtain ⟨⟨h1,h2⟩,⟨h3,h4⟩,_,h5⟩:=rd_2 hd
  refine ⟨?_,?_,h5⟩
  ·simp only [rdO,h1,h2,h3,Bool.and_self]
  ·simp only [rdT,h2,h3,h4,if_true]
 | 3,_=>by
  obtain ⟨x,rfl,hx⟩:=ex_p hd
  have:=BT.tl x
  refine ⟨?_,?_,?_⟩
  ·simp only [txW,rdO,btF_p,isB_yes hx]
  ·simp only [txW,rdT,btF_p,btOf_t hx]
  ·simp only [txW,btF_p]; omega
 | 4,_=>by
  obtain ⟨h1,_,h3⟩:=rd_4 hd
  refine ⟨?_,?_,h3⟩
  ·simp only [rdO,dgTO,h1,Option.isSome_some]
  ·simp only [rdT,dgTR,h1,Option.getD_some]
 | 5,_=>by
  obtain ⟨h1,⟨h2,h3⟩,_,h4⟩:=rd_5 hd
  refine ⟨?_,?_,h4⟩
  ·simp only [rdO,ptSO,ptSR,h1,h2,Option.isSome_some,Option.getD_some,Bool.and_self]
  ·simp only [rdT,ptSR,h1,h3,Option.getD_some]
 | 6,_=>by
  obtain ⟨h1,⟨h2,h3⟩,_,h4⟩:=rd_6 hd
  refine ⟨?_,?_,h4⟩
  ·simp only [rdO,mtSO,mtSR,h1,h2,Option.isSome_some,Option.getD_some,Bool.and_self]
  ·simp only [rdT,mtSR,h1,h3,Option.getD_some]
 | 7,_=>by
  have hl:=(DY_of hd).l
  obtain ⟨h1,⟨h2,h3⟩,h4⟩:=rd_7 hd
  refine ⟨?_,?_,by omega⟩
  ·simp only [rdO,rdP,h1,h2]
  ·simp only [rdT,rdP,h1,h3]
 | 8,_=>by
  have hl:=(DY_of hd).l
  obtain ⟨h1,hb,h2,h3,h4⟩:=rd_8 hd
  have hm:0≤((w.length / 2:Nat):Int)∧((w.length / 2:Nat):Int)≤8:=by omega
  generalize ((w.length / 2:Nat):Int)=m at h1 h2 h3 hm
  have hO:numO [fmtI m,fmtI (rkR w)]=true:=by
   simp [numO,pOK_fmt (n:=m) (by omega),pOK_fmt (n:=rkR w) (by omega)]
  have hR:numR [fmtI m,fmtI (rkR w)]=[m,rkR w]:=by
   rw [numR,if_pos hO]; simp [fmt_pv]
  have hN:rdN (txW w 8)=true:=by simp only [rdN,h1,hO,hR]; rfl
  have a0:atI [m,rkR w] 0=m:=rfl
  have a1:atI [m,rkR w] 1=rkR w:=rfl
  refine ⟨?_,?_,h4⟩
  ·simp only [rdO,hN,h1,hR,a0,a1,h2,Bool.and_self]
  ·simp only [rdT,hN,h1,hR,a0,a1,h3,if_true]
 | i+9,h=>absurd h (by omega)
theorem txW_inj {w v:List Nat} (hw:dyck w=true) (hv:dyck v=true) {i:Nat} (hi:i<9) (h:txW w i=txW v i):w=v:=by
 have h1:=(rd_ok hw i hi).2.1
 have h2:=(rd_ok hv i hi).2.1
 rw [← h1,h,h2]
open Classical in
noncomputable def rdAs (k s:List Nat):Option (List Nat):=if h:∃ w,dyck w=true∧kix k<9∧txW w (kix k)=s then some h.choose else none
theorem rdAs_some {k w:List Nat} (hd:dyck w=true) (hk:kix k<9):rdAs k (txW w (kix k))=some w:=by
 have e:∃ v,dyck v=true∧kix k<9∧txW v (kix k)=txW w (kix k):=⟨w,hd,hk,rfl⟩
 simp only [rdAs,dif_pos e]
 rw [txW_inj e.choose_spec.1 hd hk e.choose_spec.2.2]
theorem rdAs_t {k s w:List Nat} (h:rdAs k s=some w):dyck w=true∧kix k<9∧txW w (kix k)=s:=by
 unfold rdAs at h
 split at h
 ·rename_i e
  injection h with h
  rw [← h]; exact e.choose_spec
 ·cases h
theorem rdAs_no {k s:List Nat} (h:∀ w,dyck w=true→kix k<9→txW w (kix k)≠s):rdAs k s=none:=by
 cases e:rdAs k s with
 | none=>rfl
 | some w=>
  obtain ⟨h1,h2,h3⟩:=rdAs_t e
  exact absurd h3 (h w h1 h2)
noncomputable def raO (k s:List Nat):Bool:=(rdAs k s).isSome
noncomputable def raR (k s:List Nat):List Nat:=(rdAs k s).getD []
theorem ra_some {k w:List Nat} (hd:dyck w=true) (hk:kix k<9):raO k (txW w (kix k))=true∧raR k (txW w (kix k))=w:=by
 simp [raO,raR,rdAs_some hd hk]
theorem ra_t {k s:List Nat} (h:raO k s=true):dyck (raR k s)=true∧kix k<9∧txW (raR k s) (kix k)=s:=by
 unfold raO raR at*
 cases e:rdAs k s with
 | none=>rw [e] at h; cases h
 | some w=>exact rdAs_t e
theorem ra_no {k s:List Nat} (h:∀ w,dyck w=true→kix k<9→txW w (kix k)≠s):raO k s=false∧raR k s=[]:=by
 simp [raO,raR,rdAs_no h]
theorem ra_by {k s T:List Nat} (hr:∀ w,dyck w=true→kix k<9→txW w (kix k)=s→T=w):raO k s=(waO k T&&(waR k T == s))∧(raO k s=true→raR k s=T)∧(raO k s=false→raR k s=[]):=by
 cases hO:raO k s
 ·refine ⟨?_,(fun h=>by cases h),(fun _=>?_)⟩
  ·cases hw:waO k T
   ·rfl
   ·cases hq:waR k T == s
    ·rfl
    ·exfalso
     simp only [waO,qba,qde] at hw
     have e:waR k T=txW T (kix k):=by simp [waR,waO,hw.1,hw.2]
     rw [e,beq_iff_eq] at hq
     have:=(ra_some hw.1 hw.2).1
     rw [hq,hO] at this; cases this
  ·unfold raO at hO
   unfold raR
   cases e:rdAs k s with
   | none=>rfl
   | some w=>rw [e] at hO; cases hO
 ·obtain ⟨h1,h2,h3⟩:=ra_t hO
  have e:=hr _ h1 h2 h3
  have ew:waO k T=true:=by rw [e]; simp [waO,h1,h2]
  refine ⟨?_,(fun _=>e.symm),(fun h=>by cases h)⟩
  have er:waR k T=s:=by
   simp only [waR,ew,if_true]; rw [e]; exact h3
  rw [ew,er]; simp
theorem numR_len {ps:List (List Nat)}:(numR ps).length≤ps.length:=by
 unfold numR
 split <;> simp
theorem ll0_s [HA K] {s:List Nat} (h:s.length≤1000):K 559 [.s (atS kdN 0),.s s] [.s (rdT 0 s),.b (rdO 0 s)]:=by
 show K 559 [.s [112,97,116,104],.s s] [.s s,.b (dyck s)]
 refine body_by (f:=ir_spec_l32Read) rfl ?_; simp only [ir_spec_l32Read,zn,zs,zq,zi,zg,zp]
 simp (disch:=omega) only [vcd,bq_f,bq_t,bq_n]
 refine call_by (dyck_s (K:=K) (w:=s) (by omega)) rfl ?_
 simp (disch:=omega) only [vcd,bq_f,bq_t,bq_n]
 try rfl
theorem ll1_s [HA K] {s:List Nat} (h:s.length≤1000):K 559 [.s (atS kdN 1),.s s] [.s (rdT 1 s),.b (rdO 1 s)]:=by
 show K 559 [.s [98,114,97,99,107,101,116,115],.s s] [.s (pbR s),.b (pbO s)]
 refine body_by (f:=ir_spec_l32Read) rfl ?_; simp only [ir_spec_l32Read,zn,zs,zq,zi,zg,zp]
 simp (disch:=omega) only [vcd,bq_f,bq_t,bq_n]
 refine call_by (pba_s (K:=K) (s:=s) (by omega)) rfl ?_
 simp (disch:=omega) only [vcd,bq_f,bq_t,bq_n]
 try rfl
theorem ll2_s [HA K] {s:List Nat} (h:s.length≤1000):K 559 [.s (atS kdN 2),.s s] [.s (rdT 2 s),.b (rdO 2 s)]:=by
 have hl:=numR_len (ps:=cutF 44 s)
 have hl2:=(cutA_len (b:=44) (s:=s) (acc:=[])).2
 have kp:=pop_s (K:=K) (p:=numR (cutF 44 s)) (by simp only [cutF] at *; omega)
 have kn:=nums_s (K:=K) (s:=s) (b:=44) (by omega)
 show K 559 [.s [112,108,97,110,101],.s s] [.s (if isPl (numR (cutF 44 s))=true then ppF (numR (cutF 44 s)) else []),.b (isPl (numR (cutF 44 s))&&numO (cutF 44 s))]
 generalize numR (cutF 44 s)=p at*
 generalize numO (cutF 44 s)=o at*
 refine body_by (f:=ir_spec_l32Read) rfl ?_; simp only [ir_spec_l32Read,zn,zs,zq,zi,zg,zp]
 simp (disch:=omega) only [vcd,bq_f,bq_t,bq_n]
 refine call_by (kn) rfl ?_
 simp (disch:=omega) only [vcd,bq_f,bq_t,bq_n]
 refine call_by (kp) rfl ?_
 cases o
 ·simp (disch:=omega) only [vcd]
  try first | rfl | simp
 ·simp (disch:=omega) only [vcd]
  try first | rfl | simp
theorem ll3_s [HA K] {s:List Nat}:K 559 [.s (atS kdN 3),.s s] [.s (rdT 3 s),.b (rdO 3 s)]:=by
 show K 559 [.s [98,105,110,97,114,121],.s s] [.s (btOf s),.b (isB s)]
 refine body_by (f:=ir_spec_l32Read) rfl ?_; simp only [ir_spec_l32Read,zn,zs,zq,zi,zg,zp]
 simp (disch:=omega) only [vcd,bq_f,bq_t,bq_n]
 refine call_by (pbinA_s (K:=K) (s:=s)) rfl ?_
 simp (disch:=omega) only [vcd,bq_f,bq_t,bq_n]
 try rfl
theorem ll4_s [HA K] {s:List Nat} (h:s.length≤1000) (h8:∀ c∈s,c<256):K 559 [.s (atS kdN 4),.s s] [.s (rdT 4 s),.b (rdO 4 s)]:=by
 show K 559 [.s [100,105,97,103,111,110,97,108,115],.s s] [.s (dgTR s),.b (dgTO s)]
 refine body_by (f:=ir_spec_l32Read) rfl ?_; simp only [ir_spec_l32Read,zn,zs,zq,zi,zg,zp]
 simp (disch:=omega) only [vcd,bq_f,bq_t,bq_n]
 refine call_by (dia_s (K:=K) (s:=s) h h8) rfl ?_
 simp (disch:=omega) only [vcd,bq_f,bq_t,bq_n]
 try rfl
theorem ll5_s [HA K] {s:List Nat} (h:s.length≤1000) (h8:∀ c∈s,c<256):K 559 [.s (atS kdN 5),.s s] [.s (rdT 5 s),.b (rdO 5 s)]:=by
 have kn:=pts_s (K:=K) (s:=s) (by omega) h8
 have hb:(ptSR s).length≤8:=by
  have hX:∀ (n:Int) (t:List Nat) (p:List Int) (b:Int) {q:List Int},ptX n t p b=some q→q.length=p.length:=by
   intro n t
   induction t with
   | nil=>intro p b q hq; simp only [ptX,qsj] at hq; rw [hq]
   | cons c t ih=>
    intro p b q hq
    rw [ptX] at hq
    split at hq
    ·exact ih _ _ hq
    ·split at hq
     ·have:=ih _ _ hq
      rwa [seI_len] at this
     ·cases hq
  unfold ptSR ptS
  split
  ·simp
  ·rename_i h8
   cases e:ptX (ptN s) s (List.replicate (ptN s) (-1)) 0 with
   | none=>simp
   | some q=>
    have:=hX _ _ _ _ e
    simp only [List.length_replicate] at this
    simp only [Option.getD_some]; omega
 have kp:=pto_s (K:=K) (p:=ptSR s) (by omega)
 show K 559 [.s [112,97,114,116,105,116,105,111,110],.s s] [.s (ptoR (ptSR s)),.b (ncF (ptSR s)&&ptSO s)]
 generalize ptSR s=p at*
 generalize ptSO s=o at*
 refine body_by (f:=ir_spec_l32Read) rfl ?_; simp only [ir_spec_l32Read,zn,zs,zq,zi,zg,zp]
 simp (disch:=omega) only [vcd,bq_f,bq_t,bq_n]
 refine call_by (kn) rfl ?_
 simp (disch:=omega) only [vcd,bq_f,bq_t,bq_n]
 refine call_by (kp) rfl ?_
 cases o
 ·simp (disch:=omega) only [vcd]
  try first | rfl | simp
 ·simp (disch:=omega) only [vcd]
  try first | rfl | simp
theorem mtSR_len {s:List Nat}:(mtSR s).length≤2*(s.length+1):=by
 have hX:∀ (n:Int) (t:List (List Int)) (p:List Int) {q:List Int},mtX n t p=some q→q.length=p.length:=by
  intro n t
  induction t with
  | nil=>intro p q hq; simp only [mtX,qsj] at hq; rw [hq]
  | cons c t ih=>
   intro p q hq
   rw [mtX] at hq
   split at hq
   ·have:=ih _ hq
    rwa [seI_len,seI_len] at this
   ·cases hq
 have hc:=(cutA_len (b:=32) (s:=s) (acc:=[])).2
 unfold mtSR mtS
 split
 ·simp
 ·split
  ·cases e:mtX (2*(cutF 32 s).length:Nat) ((cutF 32 s).map mtRow) (List.replicate (2*(cutF 32 s).length) 0) with
   | none=>simp
   | some q=>
    have:=hX _ _ _ e
    simp only [List.length_replicate,cutF] at this
    simp only [Option.getD_some]; omega
  ·simp
theorem ll6_s [HA K] {s:List Nat} (h:s.length≤1000):K 559 [.s (atS kdN 6),.s s] [.s (rdT 6 s),.b (rdO 6 s)]:=by
 have kn:=mts_s (K:=K) (s:=s) (by omega)
 have hb:=mtSR_len (s:=s)
 have kp:=pom_s (K:=K) (m:=mtSR s) (by omega)
 show K 559 [.s [109,97,116,99,104,105,110,103],.s s] [.s (pomR (mtSR s)),.b (ncmF (mtSR s)&&mtSO s)]
 generalize mtSR s=p at*
 generalize mtSO s=o at*
 refine body_by (f:=ir_spec_l32Read) rfl ?_; simp only [ir_spec_l32Read,zn,zs,zq,zi,zg,zp]
 simp (disch:=omega) only [vcd,bq_f,bq_t,bq_n]
 refine call_by (kn) rfl ?_
 simp (disch:=omega) only [vcd,bq_f,bq_t,bq_n]
 refine call_by (kp) rfl ?_
 cases o
 ·simp (disch:=omega) only [vcd]
  try first | rfl | simp
 ·simp (disch:=omega) only [vcd]
  try first | rfl | simp
theorem ll7_s [HA K] {s:List Nat} (h:s.length≤1000) (h8:∀ c∈s,c<256):K 559 [.s (atS kdN 7),.s s] [.s (rdT 7 s),.b (rdO 7 s)]:=by
 have kp:=path_s (K:=K) (p:=rdP s) (by simpa [rdP] using h)
 show K 559 [.s [112,101,114,109,117,116,97,116,105,111,110],.s s] [.s (pathRR (rdP s)),.b (pathO (rdP s))]
 refine body_by (f:=ir_spec_l32Read) rfl ?_; simp only [ir_spec_l32Read,zn,zs,zq,zi,zg,zp]
 simp (disch:=first|omega|simp only[vl];omega) only [vcd,LI_nilM,bq_f,bq_t,bq_n]
 refine loop_ix (fun _=>True) (fun i=>[.u,.s s,.u,.u,.u,.u,.u,.u,.u,.u,.u,.u,.u,.u,.u,.u,LI (rdP (s.take i)),.n i,.u,.u,.u,.u,.u,.u,.u,.u,.u,.u,.u,.u,.u,.u,.u,.u,.u,.u,.u,.u,.u]) s.length trivial (by rfl) (fun i hi _=>?_) (fun _=>?_)
 ·have hb:=atB_lt h8 (i:=(i:Int))
  have hl:(rdP (s.take i)).length=i:=by simp [rdP]; omega
  have et:rdP (s.take (i+1))=rdP (s.take i)++[(atB s i:Int)-49]:=by
   rw [takeB hi]; simp [rdP]
  rw [et]
  simp (disch:=first|omega|simp only[vl];omega) only [vcd,bq_f,bq_t,bq_n]
 ·rw [List.take_length]
  simp (disch:=first|omega|simp only[vl];omega) only [vcd,bq_f,bq_t,bq_n]
  refine call_by (kp) rfl ?_
  simp (disch:=first|omega|simp only[vl];omega) only [vcd,bq_f,bq_t,bq_n]
  try rfl
theorem ll8_s [HA K] {s:List Nat} (h:s.length≤1000):K 559 [.s (atS kdN 8),.s s] [.s (rdT 8 s),.b (rdO 8 s)]:=by
 have kn:=nums_s (K:=K) (s:=s) (b:=58) (by omega)
 have hl:=numR_len (ps:=cutF 58 s)
 have hl2:=(cutA_len (b:=58) (s:=s) (acc:=[])).2
 have hl3:(numR (cutF 58 s)).length≤2000:=by simp only [cutF] at *; omega
 have ku:=un_s (K:=K) (a:=atI (numR (cutF 58 s)) 0) (b:=atI (numR (cutF 58 s)) 1)
 show K 559 [.s [114,97,110,107],.s s] [.s (if (numO (cutF 58 s)&&decide ((numR (cutF 58 s)).length=2))=true then unRR (atI (numR (cutF 58 s)) 0) (atI (numR (cutF 58 s)) 1) else []),.b ((numO (cutF 58 s)&&decide ((numR (cutF 58 s)).length=2))&&unO (atI (numR (cutF 58 s)) 0) (atI (numR (cutF 58 s)) 1))]
 clear hl hl2
 generalize numR (cutF 58 s)=p at*
 generalize numO (cutF 58 s)=o at*
 refine body_by (f:=ir_spec_l32Read) rfl ?_; simp only [ir_spec_l32Read,zn,zs,zq,zi,zg,zp]
 simp (disch:=omega) only [vcd,bq_f,bq_t,bq_n]
 refine call_by (kn) rfl ?_
 cases o
 ·simp (disch:=omega) only [vcd]
  try rfl
 ·by_cases h2:p.length=2
  ·simp (disch:=omega) only [vcd,h2]
   refine call_by (ku) rfl ?_
   simp (disch:=omega) only [vcd,bq_f,bq_t,bq_n]
   try simp [h2]
  ·simp (disch:=omega) only [vcd,h2]
   try simp [h2]
theorem lli_s [HA K] {s:List Nat} (h:s.length≤1000) (h8:∀ c∈s,c<256):∀ i:Nat,i<9→K 559 [.s (atS kdN i),.s s] [.s (rdT i s),.b (rdO i s)]
 | 0,_=>ll0_s h
 | 1,_=>ll1_s h
 | 2,_=>ll2_s h
 | 3,_=>ll3_s
 | 4,_=>ll4_s h h8
 | 5,_=>ll5_s h h8
 | 6,_=>ll6_s h
 | 7,_=>ll7_s h h8
 | 8,_=>ll8_s h
 | i+9,q=>absurd q (by omega)
theorem popN_len:∀ {st:List Int} {n:Int},(popN st n).1.length+(popN st n).2.1.length=st.length
 | [],_=>rfl
 | y::st,n=>by
  have ih:=popN_len (st:=st) (n:=n+1)
  unfold popN
  split
  ·simp only [qlc]; omega
  ·simp
theorem pathT_lenF:∀ {p st:List Int} {n:Int},(pathT p st n).length≤2*p.length+st.length
 | [],_,_=>by simp [pathT]
 | x::p,st,n=>by
  have h1:=popN_len (st:=x::st) (n:=n)
  have h2:=pathT_lenF (p:=p) (st:=(popN (x::st) n).2.1) (n:=(popN (x::st) n).2.2)
  simp only [pathT,qlc,qla] at *; omega
theorem dgTR_len {s:List Nat}:(dgTR s).length≤16:=by
 unfold dgTR dgT
 split
 ·rename_i h
  have h1:=btT_n h.2.2
  have:=BT.pl (btT (pR (s.take (coF s))) (dgRows (s.drop (coF s+2))))
  simp only [Option.getD_some]; omega
 ·simp
theorem btOf_len {s:List Nat}:(btOf s).length≤16:=by
 cases h:isB s
 ·rw [btOf_no h]; simp
 ·obtain ⟨x,rfl,hx⟩:=isB_t h
  have:=BT.pl x
  rw [btOf_t hx]; omega
theorem ppF_len {p:List Int} (h:isPl p=true):(ppF p).length≤200:=by
 obtain ⟨⟨h1,h2⟩,h3⟩:=isPl_V h
 have hb:∀ k:Nat,k≤p.length-1→0≤atI (lvS p p.length) k∧atI (lvS p p.length) k≤9:=by
  intro k hk
  have:=lvS_bd2 h3 (i:=p.length) (k:=k) (by omega) (by omega)
  omega
 have g1:=ppT_len hb (Nat.le_refl _)
 have g2:=hb (p.length-1) (by omega)
 have e:((p.length-1:Nat):Int)=(p.length:Int)-1:=by omega
 rw [e] at g2
 simp only [ppF,qla,List.length_replicate]; omega
theorem blF_rowF {p:List Int} (h:isPt p=true) (j:Nat):(atL (blF p p.length) (atI p j)).length≤8:=by
 by_cases q:(atI p j).toNat<(blF p p.length).length
 ·have e:blF p p.length=ptB p:=by simp [ptB,h]
  have hm:atL (blF p p.length) (atI p j)∈ptB p:=by
   rw [← e]
   simp [atL,q]
  exact (ptB_row hm).1
 ·have:atL (blF p p.length) (atI p j)=[]:=by simp [atL,Nat.le_of_not_lt q]
  rw [this]; simp
theorem ptoR_len {p:List Int}:(ptoR p).length≤200:=by
 unfold ptoR
 split
 ·rename_i h
  simp only [ncF,qba] at h
  have hp:=isPt_V h.1
  have:=poT_len (p:=p) (b:=blF p p.length) (fun j _=>blF_rowF h.1 j) (Nat.le_refl _)
  omega
 ·simp
theorem rdT_len {s:List Nat} (h:s.length≤1048576):∀ i:Nat,(rdT i s).length≤1000000000
 | 0=>by simp only [rdT]; omega
 | 1=>by
  have:=pbW_len (s:=s)
  simp only [rdT,pbR]
  split
  ·omega
  ·simp
 | 2=>by
  simp only [rdT]
  split
  ·rename_i h
   have:=ppF_len h
   omega
  ·simp
 | 3=>by have:=btOf_len (s:=s); simp only [rdT]; omega
 | 4=>by have:=dgTR_len (s:=s); simp only [rdT]; omega
 | 5=>by have:=ptoR_len (p:=ptSR s); simp only [rdT]; omega
 | 6=>by
  have:=mtSR_len (s:=s)
  have h2:=pmT_len (m:=mtSR s) (mtSR s).length
  simp only [rdT,pomR]
  split
  ·omega
  ·simp
 | 7=>by
  have:=pathT_lenF (p:=rdP s) (st:=[]) (n:=0)
  have e:(rdP s).length=s.length:=by simp [rdP]
  simp only [rdT,pathRR]
  split
  ·simp only [qln] at this; omega
  ·simp
 | 8=>by
  simp only [rdT]
  split
  ·have:=unRR_len (a:=atI (numR (cutF 58 s)) 0) (b:=atI (numR (cutF 58 s)) 1); omega
  ·simp
 | i+9=>by simp [rdT]
theorem ra_s [HA K] {k s:List Nat} (hl:s.length≤1099511627776) (h8:∀ c∈s,c<256):K 547 [.s k,.s s] [.s (raR k s),.b (raO k s)]:=by
 have kh:=has_s (K:=K) (ws:=kdN) (k:=k) (by decide)
 rw [kix_has] at kh
 by_cases hk:kix k<9
 ·by_cases h100:s.length≤100
  ·have kr:=lli_s (K:=K) (s:=s) (by omega) h8 (kix k) hk
   have kl:=rdT_len (s:=s) (by omega) (kix k)
   rw [← kix_at hk] at kr
   have hr:∀ w,dyck w=true→kix k<9→txW w (kix k)=s→rdO (kix k) s=true∧rdT (kix k) s=w:=by
    rintro w h1 h2 rfl
    exact ⟨(rd_ok h1 _ h2).1,(rd_ok h1 _ h2).2.1⟩
   generalize rdT (kix k) s=T at*
   cases hO:rdO (kix k) s
   ·obtain ⟨e1,e2⟩:=ra_no (k:=k) (s:=s) (fun w h1 h2 h3=>by
     have:=(hr w h1 h2 h3).1
     rw [hO] at this; cases this)
    rw [e1,e2]
    rw [hO] at kr
    refine body_by (f:=ir_spec_ReadAs) rfl ?_; simp only [ir_spec_ReadAs,zn,zs,zq,zi,zg,zp]
    simp (disch:=omega) only [vcd]
    refine call_by (kdn_s (K:=K)) rfl ?_
    simp (disch:=omega) only [vcd,hk]
    refine call_by (kh) rfl ?_
    simp (disch:=omega) only [vcd,hk]
    refine call_by (kr) rfl ?_
    simp (disch:=omega) only [vcd]
    try rfl
   ·obtain ⟨g1,g2,g3⟩:=ra_by (k:=k) (s:=s) (T:=T) (fun w h1 h2 h3=>(hr w h1 h2 h3).2)
    rw [hO] at kr
    have kw:=wa_s (K:=K) (k:=k) (w:=T) kl
    cases ew:waO k T
    ·rw [ew,Bool.false_and] at g1
     rw [g1,g3 g1]
     rw [ew] at kw
     refine body_by (f:=ir_spec_ReadAs) rfl ?_; simp only [ir_spec_ReadAs,zn,zs,zq,zi,zg,zp]
     simp (disch:=omega) only [vcd]
     refine call_by (kdn_s (K:=K)) rfl ?_
     simp (disch:=omega) only [vcd,hk]
     refine call_by (kh) rfl ?_
     simp (disch:=omega) only [vcd,hk]
     refine call_by (kr) rfl ?_
     simp (disch:=omega) only [vcd]
     refine call_by (kw) rfl ?_
     simp (disch:=omega) only [vcd]
     try rfl
    ·rw [ew,Bool.true_and] at g1
     rw [ew] at kw
     cases eq:waR k T == s
     ·rw [eq] at g1
      rw [g1,g3 g1]
      refine body_by (f:=ir_spec_ReadAs) rfl ?_; simp only [ir_spec_ReadAs,zn,zs,zq,zi,zg,zp]
      simp (disch:=omega) only [vcd]
      refine call_by (kdn_s (K:=K)) rfl ?_
      simp (disch:=omega) only [vcd,hk]
      refine call_by (kh) rfl ?_
      simp (disch:=omega) only [vcd,hk]
      refine call_by (kr) rfl ?_
      simp (disch:=omega) only [vcd]
      refine call_by (kw) rfl ?_
      simp (disch:=omega) only [vcd,eq]
      try rfl
     ·rw [eq] at g1
      rw [g1,g2 g1]
      refine body_by (f:=ir_spec_ReadAs) rfl ?_; simp only [ir_spec_ReadAs,zn,zs,zq,zi,zg,zp]
      simp (disch:=omega) only [vcd]
      refine call_by (kdn_s (K:=K)) rfl ?_
      simp (disch:=omega) only [vcd,hk]
      refine call_by (kh) rfl ?_
      simp (disch:=omega) only [vcd,hk]
      refine call_by (kr) rfl ?_
      simp (disch:=omega) only [vcd]
      refine call_by (kw) rfl ?_
      simp (disch:=omega) only [vcd,eq]
      try rfl
  ·obtain ⟨e1,e2⟩:=ra_no (k:=k) (s:=s) (fun w h1 h2 h3=>by
    have:=(rd_ok h1 _ h2).2.2
    rw [h3] at this; omega)
   rw [e1,e2]
   refine body_by (f:=ir_spec_ReadAs) rfl ?_; simp only [ir_spec_ReadAs,zn,zs,zq,zi,zg,zp]
   simp (disch:=omega) only [vcd]
   refine call_by (kdn_s (K:=K)) rfl ?_
   simp (disch:=omega) only [vcd,hk]
   refine call_by (kh) rfl ?_
   simp (disch:=omega) only [vcd,hk]
   try rfl
 ·obtain ⟨e1,e2⟩:=ra_no (k:=k) (s:=s) (fun w h1 h2 h3=>absurd h2 hk)
  rw [e1,e2]
  refine body_by (f:=ir_spec_ReadAs) rfl ?_; simp only [ir_spec_ReadAs,zn,zs,zq,zi,zg,zp]
  simp (disch:=omega) only [vcd]
  refine call_by (kdn_s (K:=K)) rfl ?_
  simp (disch:=omega) only [vcd,hk]
  refine call_by (kh) rfl ?_
  simp (disch:=omega) only [vcd,hk]
  try rfl
def szT:Nat→List Nat→Int
 | 2,s=>cnt s 44
 | 4,s=>pR (atS (cutF 58 s) 0)-2
 | 5,s=>(s.length:Int)-cnt s 124
 | 6,s=>cnt s 45
 | 7,s=>s.length
 | _,_=>-1
theorem szT_ok {w:List Nat} (hd:dyck w=true):∀ i:Nat,(i=2∨i=4∨i=5∨i=6∨i=7)→szT i (txW w i)=((w.length / 2:Nat):Int):=by
 have hl:=(DY_of hd).l
 rintro i (rfl | rfl | rfl | rfl | rfl)
 ·have:=(rd_2 hd).2.2.1
  simp only [szT]; omega
 ·obtain ⟨_,⟨r,h⟩,_⟩:=rd_4 hd
  have e:atS (cutF 58 (txW w 4)) 0=fmtI (((w.length / 2:Nat):Int)+2):=by rw [h]; rfl
  simp only [szT,e,pR_fmt (n:=((w.length / 2:Nat):Int)+2) (by omega)]; omega
 ·have:=(rd_5 hd).2.2.1
  simp only [szT]; omega
 ·have:=(rd_6 hd).2.2.1
  simp only [szT]; omega
 ·have:=(rd_7 hd).2.2
  simp only [szT]; omega
theorem szi [HA K] {s:List Nat} (h:s.length≤1048576):∀ i:Nat,(i=2∨i=4∨i=5∨i=6∨i=7)→K 563 [.s (atS kdN i),.s s] [.n (szT i s)]:=by
 have hc:=fun c=>cnt_le (w:=s) (c:=c)
 rintro i (rfl | rfl | rfl | rfl | rfl)
 ·show K 563 [.s [112,108,97,110,101],.s s] [.n (cnt s 44)]
  refine body_by (f:=ir_impl_sizeIn) rfl ?_; simp only [ir_impl_sizeIn,zn,zs,zq,zi,zg,zp]
  simp (disch:=omega) only [vcd,bq_f,bq_t,bq_n]
  refine call_by (count_ok (K:=K) (w:=s) (c:=44) (by omega)) rfl ?_
  simp (disch:=omega) only [vcd,bq_f,bq_t,bq_n]
  try rfl
 ·have hl2:=cutA_len (b:=58) (s:=s) (acc:=[])
  have hpl:(atS (cutF 58 s) 0).length≤s.length:=by
   have:=atS_len (ws:=cutF 58 s) (b:=s.length) (i:=0) (fun p hp=>by
    have:=cutA_mem hp
    simp only [qln] at this; omega)
   exact this
  have kp:=pint_i (K:=K) (s:=atS (cutF 58 s) 0) (by omega)
  have kb:=pR_bd (s:=atS (cutF 58 s) 0)
  have hl3:0<(cutF 58 s).length:=hl2.1
  show K 563 [.s [100,105,97,103,111,110,97,108,115],.s s] [.n (pR (atS (cutF 58 s) 0)-2)]
  refine body_by (f:=ir_impl_sizeIn) rfl ?_; simp only [ir_impl_sizeIn,zn,zs,zq,zi,zg,zp]
  simp (disch:=omega) only [vcd,bq_f,bq_t,bq_n]
  refine call_by (cut_i (K:=K) (s:=s) (b:=58) (by omega)) rfl ?_
  simp (disch:=omega) only [vcd,bq_f,bq_t,bq_n]
  refine call_by (kp) rfl ?_
  simp (disch:=omega) only [vcd,bq_f,bq_t,bq_n]
  try rfl
 ·have:=hc 124
  show K 563 [.s [112,97,114,116,105,116,105,111,110],.s s] [.n ((s.length:Int)-cnt s 124)]
  refine body_by (f:=ir_impl_sizeIn) rfl ?_; simp only [ir_impl_sizeIn,zn,zs,zq,zi,zg,zp]
  simp (disch:=omega) only [vcd,bq_f,bq_t,bq_n]
  refine call_by (count_ok (K:=K) (w:=s) (c:=124) (by omega)) rfl ?_
  simp (disch:=omega) only [vcd,bq_f,bq_t,bq_n]
  try rfl
 ·show K 563 [.s [109,97,116,99,104,105,110,103],.s s] [.n (cnt s 45)]
  refine body_by (f:=ir_impl_sizeIn) rfl ?_; simp only [ir_impl_sizeIn,zn,zs,zq,zi,zg,zp]
  simp (disch:=omega) only [vcd,bq_f,bq_t,bq_n]
  refine call_by (count_ok (K:=K) (w:=s) (c:=45) (by omega)) rfl ?_
  simp (disch:=omega) only [vcd,bq_f,bq_t,bq_n]
  try rfl
 ·show K 563 [.s [112,101,114,109,117,116,97,116,105,111,110],.s s] [.n s.length]
  refine body_by (f:=ir_impl_sizeIn) rfl ?_; simp only [ir_impl_sizeIn,zn,zs,zq,zi,zg,zp]
  simp (disch:=omega) only [vcd,bq_f,bq_t,bq_n]
  try rfl
theorem szi_no [HA K] {k s:List Nat} (hk:¬ kix k<9):K 563 [.s k,.s s] [.n (-1)]:=by
 have no:=fun (x:List Nat) (hx:x∈kdN)=>kix_no hk hx
 have q2:=no [112,108,97,110,101] (by simp [kdN])
 have q4:=no [100,105,97,103,111,110,97,108,115] (by simp [kdN])
 have q5:=no [112,97,114,116,105,116,105,111,110] (by simp [kdN])
 have q6:=no [109,97,116,99,104,105,110,103] (by simp [kdN])
 have q7:=no [112,101,114,109,117,116,97,116,105,111,110] (by simp [kdN])
 refine body_by (f:=ir_impl_sizeIn) rfl ?_; simp only [ir_impl_sizeIn,zn,zs,zq,zi,zg,zp]
 simp (disch:=omega) only [vcd,q2,q4,q5,q6,q7,bq_f,bq_t,bq_n]
 try rfl
theorem raw_i [HA K] {k s:List Nat} {n:Int} (hl:s.length≤1048576)
  (q0:(k == [112,97,116,104])=false) (q1:(k == [98,114,97,99,107,101,116,115])=false) (q3:(k == [98,105,110,97,114,121])=false) (q8:(k == [114,97,110,107])=false)
  (ks:K 563 [.s k,.s s] [.n n]) (hn:∀ w,dyck w=true→kix k<9→txW w (kix k)=s→n=((w.length / 2:Nat):Int)) (hb:0≤n→kix k<9):
  K 548 [.s k,.s s] [.s (raR k s),.b (raO k s)]:=by
 refine body_by (f:=ir_impl_ReadAs) rfl ?_; simp only [ir_impl_ReadAs,zn,zs,zq,zi,zg,zp]
 simp (disch:=omega) only [vcd,q0,q1,q3,q8,bq_f,bq_t,bq_n]
 refine call_by (ks) rfl ?_
 simp (disch:=omega) only [vcd,bq_f,bq_t,bq_n]
 refine call_by (within_ok (K:=K)) rfl ?_
 cases hi:inR 0 8 n
 ·have hi:=inR_f.1 hi
  obtain ⟨e1,e2⟩:=ra_no (k:=k) (s:=s) (fun w h1 h2 h3=>by
   have:=hn w h1 h2 h3
   have:=(DY_of h1).l
   omega)
  rw [e1,e2]
  simp (disch:=omega) only [vcd,bq_f,bq_t,bq_n]
  try rfl
 ·have hi:=inR_iff.1 hi
  have hk:=hb hi.1
  obtain ⟨m,rfl⟩:=qoz hi.1
  have hp:=pathsR_len (n:=m) (by omega)
  simp (disch:=omega) only [vcd,bq_f,bq_t,bq_n]
  refine call_by (apf_i (K:=K) (n:=m) (by omega)) rfl ?_
  simp (disch:=omega) only [vcd,bq_f,bq_t,bq_n]
  refine loop_ix (fun i=>∀ x∈(pathsR m).take i,txW x (kix k)≠s) (fun i=>[.s k,.s s,.u,.u,.u,.u,.u,.u,.u,.u,.u,.u,.u,.u,.u,LS (pathsR m),.n (pathsR m).length,.n i,.u,.u,.u,.u,.u,.u,.u,.u]) (pathsR m).length (by simp) rfl (fun i hi hP=>?_) (fun hP=>?_)
  ·obtain ⟨hd,hdl⟩:=(paths_mem (n:=m) (w:=atS (pathsR m) i) (by omega)).1 (by simp [atS,hi])
   have kw:=wa_i (K:=K) (k:=k) (w:=atS (pathsR m) i) (by omega)
   have e:waR k (atS (pathsR m) i)=txW (atS (pathsR m) i) (kix k):=by simp [waR,waO,hd,hk]
   rw [e] at kw
   cases hq:txW (atS (pathsR m) i) (kix k) == s
   ·simp (disch:=omega) only [vcd]
    refine call_by (kw) rfl ?_
    simp (disch:=omega) only [vcd,hq,bq_f,bq_t,bq_n]
    intro x hx
    rw [take_snocS hi] at hx
    rcases qma.1 hx with h | h
    ·exact hP x h
    ·rw [List.mem_singleton.1 h]
     exact beq_eq_false_iff_ne.1 hq
   ·have hs:=beq_iff_eq.1 hq
    obtain ⟨e1,e2⟩:=ra_some (k:=k) hd hk
    rw [hs] at e1 e2
    rw [e1,e2]
    simp (disch:=omega) only [vcd,bq_f,bq_t,bq_n]
    refine call_by (kw) rfl ?_
    simp (disch:=omega) only [vcd,hq,bq_f,bq_t,bq_n]
    try rfl
  ·rw [List.take_length] at hP
   obtain ⟨e1,e2⟩:=ra_no (k:=k) (s:=s) (fun w h1 h2 h3=>by
    have g1:=hn w h1 h2 h3
    have g2:=(gw_dyck h1).1.2.1
    exact hP w ((paths_mem (by omega)).2 ⟨h1,by omega⟩) h3)
   rw [e1,e2]
   simp (disch:=omega) only [vcd,bq_f,bq_t,bq_n]
   try rfl
noncomputable def riT:Nat→List Nat→List Nat
 | 0,s=>s
 | 1,s=>pbR s
 | 3,s=>btOf s
 | 8,s=>if (cutF 58 s).length=2 then unRR (pR (atS (cutF 58 s) 0)) (pR (atS (cutF 58 s) 1)) else []
 | _,_=>[]
theorem riT_ok {w:List Nat} (hd:dyck w=true):∀ i:Nat,(i=0∨i=1∨i=3∨i=8)→riT i (txW w i)=w:=by
 rintro i (rfl | rfl | rfl | rfl)
 ·rfl
 ·exact (rd_ok hd 1 (by omega)).2.1
 ·exact (rd_ok hd 3 (by omega)).2.1
 ·have hl:=(DY_of hd).l
  obtain ⟨h1,hb,h2,h3,h4⟩:=rd_8 hd
  have a0:atS [fmtI ((w.length / 2:Nat):Int),fmtI (rkR w)] 0=fmtI ((w.length / 2:Nat):Int):=rfl
  have a1:atS [fmtI ((w.length / 2:Nat):Int),fmtI (rkR w)] 1=fmtI (rkR w):=rfl
  simp only [riT,h1,a0,a1]
  rw [if_pos (show [fmtI ((w.length / 2:Nat):Int),fmtI (rkR w)].length=2 from rfl),pR_fmt (by omega),pR_fmt (by omega),h3]
theorem riT_len {s:List Nat} (h:s.length≤1048576):∀ i:Nat,(i=0∨i=1∨i=3∨i=8)→(riT i s).length≤1000000000:=by
 rintro i (rfl | rfl | rfl | rfl)
 ·exact rdT_len h 0
 ·exact rdT_len h 1
 ·exact rdT_len h 3
 ·simp only [riT]
  split
  ·have:=unRR_len (a:=pR (atS (cutF 58 s) 0)) (b:=pR (atS (cutF 58 s) 1)); omega
  ·simp
theorem rdi_i [HA K] {s:List Nat} (hl:s.length≤1048576):∀ i:Nat,(i=0∨i=1∨i=3∨i=8)→K 548 [.s (atS kdN i),.s s] [.s (raR (atS kdN i) s),.b (raO (atS kdN i) s)]:=by
 intro i hi
 have ek:=kix_i i (by omega)
 have hT:=riT_len hl i hi
 obtain ⟨g1,g2,g3⟩:=ra_by (k:=atS kdN i) (s:=s) (T:=riT i s) (fun w h1 h2 h3=>by
  rw [ek] at h3
  rw [← h3]; exact riT_ok h1 i hi)
 have kw:=wa_i (K:=K) (k:=atS kdN i) (w:=riT i s) hT
 have fin:raR (atS kdN i) s=if (waO (atS kdN i) (riT i s)&&(waR (atS kdN i) (riT i s) == s))=true then riT i s else []:=by
  cases hO:raO (atS kdN i) s
  ·rw [← g1,hO]; exact g3 hO
  ·rw [← g1,hO]; exact g2 hO
 rw [fin,g1]
 clear g1 g2 g3 fin ek
 generalize waO (atS kdN i) (riT i s)=o at*
 generalize waR (atS kdN i) (riT i s)=r at*
 rcases hi with rfl | rfl | rfl | rfl
 ·have kw:K 524 [.s [112,97,116,104],.s s] [.s r,.b o]:=kw
  show K 548 [.s [112,97,116,104],.s s] [.s (if (o&&(r == s))=true then s else []),.b (o&&(r == s))]
  refine body_by (f:=ir_impl_ReadAs) rfl ?_; simp only [ir_impl_ReadAs,zn,zs,zq,zi,zg,zp]
  simp (disch:=omega) only [vcd,bq_f,bq_t,bq_n]
  refine call_by (kw) rfl ?_
  cases o
  ·simp (disch:=omega) only [vcd]
   try rfl
  ·cases hq:r == s
   ·simp (disch:=omega) only [vcd,hq]
    try rfl
   ·simp (disch:=omega) only [vcd,hq]
    try rfl
 ·have kw:K 524 [.s [98,114,97,99,107,101,116,115],.s (pbR s)] [.s r,.b o]:=kw
  show K 548 [.s [98,114,97,99,107,101,116,115],.s s] [.s (if (o&&(r == s))=true then pbR s else []),.b (o&&(r == s))]
  refine body_by (f:=ir_impl_ReadAs) rfl ?_; simp only [ir_impl_ReadAs,zn,zs,zq,zi,zg,zp]
  simp (disch:=omega) only [vcd,bq_f,bq_t,bq_n]
  refine call_by (pba_i (K:=K) (s:=s) (by omega)) rfl ?_
  simp (disch:=omega) only [vcd,bq_f,bq_t,bq_n]
  refine call_by (kw) rfl ?_
  cases o
  ·simp (disch:=omega) only [vcd]
   try rfl
  ·cases hq:r == s
   ·simp (disch:=omega) only [vcd,hq]
    try rfl
   ·simp (disch:=omega) only [vcd,hq]
    try rfl
 ·have kw:K 524 [.s [98,105,110,97,114,121],.s (btOf s)] [.s r,.b o]:=kw
  show K 548 [.s [98,105,110,97,114,121],.s s] [.s (if (o&&(r == s))=true then btOf s else []),.b (o&&(r == s))]
  refine body_by (f:=ir_impl_ReadAs) rfl ?_; simp only [ir_impl_ReadAs,zn,zs,zq,zi,zg,zp]
  simp (disch:=omega) only [vcd,bq_f,bq_t,bq_n]
  refine call_by (pbinA_i (K:=K) (s:=s)) rfl ?_
  simp (disch:=omega) only [vcd,bq_f,bq_t,bq_n]
  refine call_by (kw) rfl ?_
  cases o
  ·simp (disch:=omega) only [vcd]
   try rfl
  ·cases hq:r == s
   ·simp (disch:=omega) only [vcd,hq]
    try rfl
   ·simp (disch:=omega) only [vcd,hq]
    try rfl
 ·have kw:K 524 [.s [114,97,110,107],.s (riT 8 s)] [.s r,.b o]:=kw
  show K 548 [.s [114,97,110,107],.s s] [.s (if (o&&(r == s))=true then riT 8 s else []),.b (o&&(r == s))]
  have hl2:=cutA_len (b:=58) (s:=s) (acc:=[])
  have hpp:∀ p∈cutF 58 s,p.length≤s.length:=fun p hp=>by
   have:=cutA_mem hp
   simp only [qln] at this; omega
  have p0:(atS (cutF 58 s) 0).length≤s.length:=atS_len (i:=0) hpp
  have p1:(atS (cutF 58 s) 1).length≤s.length:=atS_len (i:=1) hpp
  have k0:=pint_i (K:=K) (s:=atS (cutF 58 s) 0) (by omega)
  have k1:=pint_i (K:=K) (s:=atS (cutF 58 s) 1) (by omega)
  have hl3:(cutF 58 s).length≤s.length+1:=hl2.2
  by_cases h2:(cutF 58 s).length=2
  ·have e:riT 8 s=unRR (pR (atS (cutF 58 s) 0)) (pR (atS (cutF 58 s) 1)):=by simp only [riT,if_pos h2]
   rw [e] at kw ⊢
   refine body_by (f:=ir_impl_ReadAs) rfl ?_; simp only [ir_impl_ReadAs,zn,zs,zq,zi,zg,zp]
   simp (disch:=omega) only [vcd,bq_f,bq_t,bq_n]
   refine call_by (cut_i (K:=K) (s:=s) (b:=58) (by omega)) rfl ?_
   simp (disch:=omega) only [vcd,h2,bq_f,bq_t,bq_n]
   refine call_by (k0) rfl ?_
   simp (disch:=omega) only [vcd,h2,bq_f,bq_t,bq_n]
   refine call_by (k1) rfl ?_
   simp (disch:=omega) only [vcd,bq_f,bq_t,bq_n]
   refine call_by (un_i (K:=K)) rfl ?_
   simp (disch:=omega) only [vcd,bq_f,bq_t,bq_n]
   refine call_by (kw) rfl ?_
   cases o
   ·simp (disch:=omega) only [vcd]
    try rfl
   ·cases hq:r == s
    ·simp (disch:=omega) only [vcd,hq]
     try rfl
    ·simp (disch:=omega) only [vcd,hq]
     try rfl
  ·have e:riT 8 s=[]:=by simp only [riT,if_neg h2]
   rw [e] at kw ⊢
   refine body_by (f:=ir_impl_ReadAs) rfl ?_; simp only [ir_impl_ReadAs,zn,zs,zq,zi,zg,zp]
   simp (disch:=omega) only [vcd,bq_f,bq_t,bq_n]
   refine call_by (cut_i (K:=K) (s:=s) (b:=58) (by omega)) rfl ?_
   simp (disch:=omega) only [vcd,h2,bq_f,bq_t,bq_n]
   refine call_by (kw) rfl ?_
   cases o
   ·simp (disch:=omega) only [vcd]
    try rfl
   ·cases hq:r == s
    ·simp (disch:=omega) only [vcd,hq]
     try rfl
    ·simp (disch:=omega) only [vcd,hq]
     try rfl
theorem ra_i [HA K] {k s:List Nat} (hl:s.length≤1048576):K 548 [.s k,.s s] [.s (raR k s),.b (raO k s)]:=by
 by_cases hk:kix k<9
 ·by_cases hi:kix k=0∨kix k=1∨kix k=3∨kix k=8
  ·have:=rdi_i (K:=K) (s:=s) hl (kix k) hi
   rwa [← kix_at hk] at this
  ·have hi:kix k=2∨kix k=4∨kix k=5∨kix k=6∨kix k=7:=by omega
   have ks:=szi (K:=K) (s:=s) hl (kix k) hi
   rw [← kix_at hk] at ks
   have ne:∀ j:Nat,j<9→kix k≠j→(k == atS kdN j)=false:=by
    intro j hj hne
    refine beq_eq_false_iff_ne.2 fun q=>hne ?_
    rw [q,kix_i j hj]
   exact raw_i hl (ne 0 (by omega) (by omega)) (ne 1 (by omega) (by omega)) (ne 3 (by omega) (by omega)) (ne 8 (by omega) (by omega)) ks (fun w h1 h2 h3=>by rw [← h3]; exact szT_ok h1 _ hi) (fun _=>hk)
 ·have no:=fun (x:List Nat) (hx:x∈kdN)=>kix_no hk hx
  exact raw_i hl (no _ (by simp [kdN])) (no _ (by simp [kdN])) (no _ (by simp [kdN])) (no _ (by simp [kdN])) (szi_no hk) (fun w h1 h2 h3=>absurd h2 hk) (fun h=>by omega)
theorem raR_len {k s:List Nat}:(raR k s).length≤16:=by
 cases h:raO k s
 ·unfold raO at h
  unfold raR
  cases e:rdAs k s with
  | none=>simp
  | some w=>rw [e] at h; cases h
 ·exact (DY_of (ra_t h).1).l
noncomputable def coO (a b s:List Nat):Bool:=raO a s&&waO b (raR a s)
noncomputable def coR (a b s:List Nat):List Nat:=if raO a s=true then waR b (raR a s) else []
theorem cot_s [HA K] {a b s:List Nat} (hl:s.length≤1048576) (h8:∀ c∈s,c<256):K 551 [.s a,.s b,.s s] [.s (coR a b s),.b (coO a b s)]:=by
 have kr:=ra_s (K:=K) (k:=a) (s:=s) (by omega) h8
 have hw:=raR_len (k:=a) (s:=s)
 unfold coR coO
 refine body_by (f:=ir_spec_ConvertText) rfl ?_; simp only [ir_spec_ConvertText,zn,zs,zq,zi,zg,zp]
 simp (disch:=omega) only [vcd]
 refine call_by (kr) rfl ?_
 cases h:raO a s
 ·simp (disch:=omega) only [vcd]
  try rfl
 ·simp (disch:=omega) only [vcd]
  refine call_by (wa_s (K:=K) (k:=b) (w:=raR a s) (by omega)) rfl ?_
  simp (disch:=omega) only [vcd]
  try rfl
theorem cot_i [HA K] {a b s:List Nat} (hl:s.length≤1048576):K 552 [.s a,.s b,.s s] [.s (coR a b s),.b (coO a b s)]:=by
 have kr:=ra_i (K:=K) (k:=a) (s:=s) (by omega)
 have hw:=raR_len (k:=a) (s:=s)
 unfold coR coO
 refine body_by (f:=ir_impl_ConvertText) rfl ?_; simp only [ir_impl_ConvertText,zn,zs,zq,zi,zg,zp]
 simp (disch:=omega) only [vcd]
 refine call_by (kr) rfl ?_
 cases h:raO a s
 ·simp (disch:=omega) only [vcd]
  try rfl
 ·simp (disch:=omega) only [vcd]
  refine call_by (wa_i (K:=K) (k:=b) (w:=raR a s) (by omega)) rfl ?_
  simp (disch:=omega) only [vcd]
  try rfl
theorem cot_law [HA K] {a b s:List Nat} (ha:a.length≤9223372036854775807) (hb:b.length≤9223372036854775807) (hs:s.length≤9223372036854775807) (h8:∀ c∈s,c<256):K 544 [.s a,.s b,.s s] [.b true]:=by
 refine body_by (f:=ir_laws_FnExactConvertText) rfl ?_; simp only [ir_laws_FnExactConvertText,zn,zs,zq,zi,zg,zp]
 simp (disch:=omega) only [vcd]
 by_cases h0:1048576<a.length
 ·simp (disch:=omega) only [vcd]
 ·by_cases h1:1048576<b.length
  ·simp (disch:=omega) only [vcd]
  ·by_cases h2:1048576<s.length
   ·simp (disch:=omega) only [vcd]
   ·simp (disch:=omega) only [vcd]
    refine call_by (cot_s (K:=K) (a:=a) (b:=b) (s:=s) (by omega) h8) rfl ?_
    simp (disch:=omega) only [vcd]
    refine call_by (cot_i (K:=K) (a:=a) (b:=b) (s:=s) (by omega)) rfl ?_
    simp (disch:=omega) only [vcd]
end Go.Cat
