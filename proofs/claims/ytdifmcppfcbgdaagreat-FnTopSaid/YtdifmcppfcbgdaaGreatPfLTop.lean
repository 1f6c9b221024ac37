/-
 FnTop: objects are read back from their texts, in any kind.
-/
import Derived.Test.YtdifmcppfcbgdaaGreatPfRdF
import Derived.Test.YtdifmcppfcbgdaaGreatPfDrawP
import Derived.Test.YtdifmcppfcbgdaaGreatIrHas
set_option linter.unusedSimpArgs false
set_option linter.unusedVariables false
namespace Go.Cat
set_option maxRecDepth 100000
variable {K:Nat→List D→List D→Prop}
def B8 (s:List Nat):Prop:=∀ c∈s,c<256
theorem B8_app {a b:List Nat} (ha:B8 a) (hb:B8 b):B8 (a++b):=fun c hc=>(qma.1 hc).elim (ha c) (hb c)
theorem B8_nil:B8 []:=fun c hc=>by cases hc
theorem B8_cons {a:Nat} {b:List Nat} (ha:a<256) (hb:B8 b):B8 (a::b):=fun c hc=>by
 rcases qmn.1 hc with rfl | h
 ·exact ha
 ·exact hb c h
theorem B8_fmt {x:Int}:B8 (fmtI x):=fun c hc=>by
 rcases fmt_dg c hc with q | q
 ·have:=isDg_iff.1 q; omega
 ·omega
theorem B8_sep {b:Nat} (hb:b<256):∀ {ps:List (List Nat)},(∀ p∈ps,B8 p)→B8 (sep b ps)
 | [],_=>B8_nil
 | [p],h=>h p (by simp)
 | p::q::t,h=>B8_app (h p (by simp)) (B8_cons hb (B8_sep hb fun x hx=>h x (qmc _ hx)))
theorem B8_rw {r:List Int}:∀ i,B8 (rwT r i)
 | 0=>B8_nil
 | i+1=>B8_app (B8_rw i) B8_fmt
theorem B8_t:∀ {x:BT},B8 x.t
 | .lf=>B8_cons (by omega) B8_nil
 | .nd l r=>B8_cons (by omega) (B8_app B8_t (B8_app B8_t (B8_cons (by omega) B8_nil)))
theorem B8_ar {m:List Int}:∀ i,∀ p∈arW m i,B8 p
 | 0=>by simp [arW]
 | i+1=>by
  intro p hp
  rw [arW] at hp
  split at hp
  ·rcases qma.1 hp with q | q
   ·exact B8_ar i p q
   ·rw [List.mem_singleton.1 q]
    exact B8_app (B8_app B8_fmt (B8_cons (by omega) B8_nil)) B8_fmt
  ·exact B8_ar i p hp
theorem B8_dyck {w:List Nat} (hd:dyck w=true):B8 w:=by
 intro c hc
 obtain ⟨i,hi,rfl⟩:=List.mem_iff_getElem.1 hc
 have h:=(DY_of hd).ud i hi
 have e:atB w i=w[i]:=by simp [atB,hi]
 omega
theorem B8_tx {w:List Nat} (hd:dyck w=true):∀ i:Nat,B8 (txW w i)
 | 0=>B8_dyck hd
 | 1=>by
  intro c hc
  obtain ⟨x,_,rfl⟩:=List.mem_map.1 hc
  unfold exl
  split <;> omega
 | 2=>by
  simp only [txW,fplF]
  split
  ·rw [glue_sep]
   refine B8_sep (by omega) fun p hp=>?_
   obtain ⟨x,_,rfl⟩:=List.mem_map.1 hp
   exact B8_fmt
  ·exact B8_nil
 | 3=>B8_t
 | 4=>by
  refine B8_app (B8_app B8_fmt (B8_cons (by omega) (B8_cons (by omega) B8_nil))) ?_
  unfold dgF
  split
  ·intro c hc
   simp only [qmn,qnm,or_false] at hc
   omega
  ·split
   ·exact B8_nil
   ·split
    ·rw [glue_sep]
     refine B8_sep (by omega) fun p hp=>?_
     obtain ⟨x,_,rfl⟩:=List.mem_map.1 hp
     exact B8_app B8_fmt B8_fmt
    ·exact B8_nil
 | 5=>by
  simp only [txW,fptF,glue_sep]
  refine B8_sep (by omega) fun p hp=>?_
  obtain ⟨x,_,rfl⟩:=List.mem_map.1 hp
  exact B8_rw _
 | 6=>by
  simp only [txW,fmaF]
  split
  ·split
   ·intro c hc
    simp only [qmn,qnm,or_false] at hc
    omega
   ·rw [glue_sep]
    exact B8_sep (by omega) (B8_ar _)
  ·exact B8_nil
 | 7=>B8_rw _
 | 8=>B8_app (B8_app B8_fmt (B8_cons (by omega) B8_nil)) B8_fmt
 | i+9=>B8_nil
theorem B8_wa {k w:List Nat}:B8 (waR k w):=by
 unfold waR
 split
 ·rename_i h
  simp only [waO,qba] at h
  exact B8_tx h.1 _
 ·exact B8_nil
theorem B8_sub {s:List Nat} {a b:Int} (h:B8 s):B8 (sub s a b):=fun c hc=>h c (List.mem_of_mem_take (List.mem_of_mem_drop hc))
theorem l1Text_b [HA K] {d:D} (hd:Cur d):∃ rs,(∃ x d',rs=[.s x,d']∧((x.length:Int)≤3∧B8 x)∧Cur d')∧K 327 [d,.n 3] rs:=by
 refine body_ex (f:=ir_spec_l1Text) rfl ?_; simp only [ir_spec_l1Text,zn,zs,zq,zi,zg,zp]
 obtain ⟨_,⟨y,d1,rfl,hy,hd1⟩,k1⟩:=l1Below_ok (K:=K) hd (n:=4)
 obtain ⟨_,⟨n,d2,rfl,hn,hd2⟩,k2⟩:=l1Below_ok (K:=K) hd1 (n:=3+1)
 have hn:=hn.2 (by omega)
 simp (disch:=first|omega|simp only[vl];omega) only [vcd]
 refine call_by (k1) rfl ?_
 simp (disch:=first|omega|simp only[vl];omega) only [vcd]
 refine call_by (k2) rfl ?_
 simp (disch:=first|omega|simp only[vl];omega) only [vcd]
 rw [LB_nil]
 refine loop_wh (fun (q:D×List Nat×Int)=>Cur q.1∧(0≤q.2.2∧(q.2.1.length:Int)+q.2.2≤3)∧∀ c∈q.2.1,c<256) (fun q=>[q.1,.u,.u,LB q.2.1,.n y,.n q.2.2,.u,.u,.u,.u]) (fun q=>q.2.2.toNat) (d2,[],n) ⟨hd2,by simp; omega,by simp⟩ rfl ?_
 rintro ⟨d3,x,r⟩ ⟨hd3,hr,hx⟩
 simp only at hd3 hr hx ⊢
 by_cases h0:0<r
 ·obtain ⟨_,⟨b,d4,rfl,hb,hd4⟩,k3⟩:=l1Byte_ok (K:=K) hd3
  have fin:∀ b:Int,(0≤b∧b≤255)→∀ c∈x++[b.toNat],c<256:=by
   intro b hb c hc
   rcases qma.1 hc with hc | hc
   ·exact hx c hc
   ·simp at hc; omega
  have e0:∀ {l:List Nat},(x++l).length=x.length+l.length:=by simp
  by_cases h1:y=1
  ·simp (disch:=first|omega|simp only[vl];omega) only [vcd]
   refine call_by (k3) rfl ?_
   simp (disch:=first|omega|simp only[vl];omega) only [vcd,h1]
   exact ⟨(d4,x++[(b % 2).toNat],r-1),by show (r-1).toNat<r.toNat; omega,⟨hd4,by simp; omega,fin _ (by omega)⟩,rfl⟩
  ·by_cases h2:y=2
   ·simp (disch:=first|omega|simp only[vl];omega) only [vcd]
    refine call_by (k3) rfl ?_
    simp (disch:=first|omega|simp only[vl];omega) only [vcd,h2]
    exact ⟨(d4,x++[(97+b % 4).toNat],r-1),by show (r-1).toNat<r.toNat; omega,⟨hd4,by simp; omega,fin _ (by omega)⟩,rfl⟩
   ·simp (disch:=first|omega|simp only[vl];omega) only [vcd]
    refine call_by (k3) rfl ?_
    simp (disch:=first|omega|simp only[vl];omega) only [vcd]
    exact ⟨(d4,x++[b.toNat],r-1),by show (r-1).toNat<r.toNat; omega,⟨hd4,by simp; omega,fin _ (by omega)⟩,rfl⟩
 ·simp (disch:=first|omega|simp only[vl];omega) only [vcd,LB_bs hx]
  exact ⟨x,d3,rfl,⟨by omega,hx⟩,hd3⟩
theorem B8_u8 {x:Int}:B8 [(IntKind.u8.wrap x).toNat]:=B8_cons (by have:=u8r x; omega) B8_nil
theorem l1Spoil_b [HA K] {d:D} (hd:Cur d) {w:List Nat} (hw:w.length≤1000000) (h8:B8 w):∃ rs,(∃ x d',rs=[.s x,d']∧(x.length≤w.length+3∧B8 x)∧Cur d')∧K 315 [d,.s w] rs:=by
 refine body_ex (f:=ir_spec_l1Spoil) rfl ?_; simp only [ir_spec_l1Spoil,zn,zs,zq,zi,zg,zp]
 by_cases h0:w.length=0
 ·obtain ⟨_,⟨x,d1,rfl,hx,hd1⟩,k1⟩:=l1Text_b (K:=K) hd
  simp (disch:=first|omega|simp only[vl];omega) only [vcd]
  refine call_by (k1) rfl ?_
  simp (disch:=first|omega|simp only[vl];omega) only [vcd]
  exact ⟨_,_,rfl,⟨by omega,hx.2⟩,hd1⟩
 ·obtain ⟨_,⟨k,d1,rfl,hk,hd1⟩,k1⟩:=l1Below_ok (K:=K) hd (n:=w.length)
  obtain ⟨_,⟨y,d2,rfl,hy,hd2⟩,k2⟩:=l1Below_ok (K:=K) hd1 (n:=4)
  have hk:=hk.2 (by omega)
  simp (disch:=first|omega|simp only[vl];omega) only [vcd]
  refine call_by (k1) rfl ?_
  simp (disch:=first|omega|simp only[vl];omega) only [vcd]
  refine call_by (k2) rfl ?_
  simp (disch:=first|omega|simp only[vl];omega) only [vcd]
  by_cases h1:y=0
  ·simp (disch:=first|omega|simp only[vl];omega) only [vcd,h1]
   refine ⟨_,_,rfl,⟨?_,B8_app (B8_sub h8) (B8_sub h8)⟩,hd2⟩
   simp only [qla,vl]; omega
  ·by_cases h2:y=1
   ·obtain ⟨_,⟨b,d3,rfl,hb,hd3⟩,k3⟩:=l1Byte_ok (K:=K) hd2
    simp (disch:=first|omega|simp only[vl];omega) only [vcd,h2]
    refine call_by (k3) rfl ?_
    simp (disch:=first|omega|simp only[vl];omega) only [vcd,lb_1u,LB_bsu]
    refine ⟨_,_,rfl,⟨?_,B8_app (B8_app (B8_sub h8) (B8_cons (by omega) B8_nil)) (B8_sub h8)⟩,hd3⟩
    simp only [qla,vl,qlc,qln]; omega
   ·by_cases h3:y=2
    ·simp (disch:=first|omega|simp only[vl];omega) only [vcd,h3]
     refine ⟨_,_,rfl,⟨?_,B8_sub h8⟩,hd2⟩
     simp only [vl]; omega
    ·obtain ⟨_,⟨b,d3,rfl,hb,hd3⟩,k3⟩:=l1Below_ok (K:=K) hd2 (n:=255)
     simp (disch:=first|omega|simp only[vl];omega) only [vcd]
     refine call_by (k3) rfl ?_
     simp (disch:=first|omega|simp only[vl];omega) only [vcd,bin_xor,lb_1u,LB_bsu]
     refine ⟨_,_,rfl,⟨?_,B8_app (B8_app (B8_sub h8) B8_u8) (B8_sub h8)⟩,hd3⟩
     simp only [qla,vl,qlc,qln]; omega
theorem l32Kind_ok [HA K] {d:D} (hd:Cur d):∃ rs,(∃ x d',rs=[.s x,d']∧x.length≤12∧Cur d')∧K 564 [d] rs:=by
 refine body_ex (f:=ir_spec_l32Kind) rfl ?_; simp only [ir_spec_l32Kind,zn,zs,zq,zi,zg,zp]
 obtain ⟨_,⟨b,d1,rfl,hd1⟩,k1⟩:=l1Once_ok (K:=K) hd (n:=16)
 have hkl:kdN.length=9:=rfl
 simp (disch:=omega) only [vcd]
 refine call_by (kdn_s (K:=K)) rfl ?_
 simp (disch:=omega) only [vcd]
 refine call_by (k1) rfl ?_
 cases b
 ·obtain ⟨_,⟨y,d2,rfl,hy,hd2⟩,k2⟩:=l1Below_ok (K:=K) hd1 (n:=9)
  have hy:=hy.2 (by omega)
  obtain ⟨n,rfl⟩:=qoz hy.1
  simp (disch:=omega) only [vcd,hkl]
  refine call_by (k2) rfl ?_
  simp (disch:=omega) only [vcd,hkl]
  exact ⟨_,_,rfl,kdN_len,hd2⟩
 ·obtain ⟨_,⟨x,d2,rfl,hx,hd2⟩,k2⟩:=l1Pick_ok (K:=K) hd1 (l:=[[],[116,114,101,101]]) (by simp) (by simp)
  simp (disch:=omega) only [vcd,liS_c,consS_LS]
  refine call_by (k2) rfl ?_
  simp (disch:=omega) only [vcd]
  refine ⟨_,_,rfl,?_,hd2⟩
  simp at hx
  rcases hx with rfl | rfl <;> simp
theorem l32Text_ok [HA K] {d:D} (hd:Cur d) {k:List Nat}:∃ rs,(∃ x d',rs=[.s x,d']∧(x.length≤5003∧B8 x)∧Cur d')∧K 565 [d,.s k] rs:=by
 refine body_ex (f:=ir_spec_l32Text) rfl ?_; simp only [ir_spec_l32Text,zn,zs,zq,zi,zg,zp]
 obtain ⟨_,⟨w,d1,rfl,hw,hd1⟩,k1⟩:=l2Path_ok (K:=K) hd
 have hl:=waR_len (k:=k) (w:=w)
 have h8:=B8_wa (k:=k) (w:=w)
 simp (disch:=omega) only [vcd]
 refine call_by (k1) rfl ?_
 simp (disch:=omega) only [vcd]
 refine call_by (wa_s (K:=K) (k:=k) (w:=w) (by omega)) rfl ?_
 cases ho:waO k w
 ·simp (disch:=omega) only [vcd]
  exact ⟨_,_,rfl,⟨by omega,h8⟩,hd1⟩
 ·obtain ⟨_,⟨b,d2,rfl,hd2⟩,k2⟩:=l1Once_ok (K:=K) hd1 (n:=6)
  simp (disch:=omega) only [vcd]
  refine call_by (k2) rfl ?_
  cases b
  ·simp (disch:=omega) only [vcd]
   exact ⟨_,_,rfl,⟨by omega,h8⟩,hd2⟩
  ·obtain ⟨_,⟨x,d3,rfl,hx,hd3⟩,k3⟩:=l1Spoil_b (K:=K) hd2 (w:=waR k w) (by omega) h8
   simp (disch:=omega) only [vcd]
   refine call_by (k3) rfl ?_
   simp (disch:=omega) only [vcd]
   exact ⟨_,_,rfl,⟨by omega,hx.2⟩,hd3⟩
theorem dCT [HA K] {code:List Nat} (h:code.length≤1048576):∃ rs,(∃ a b x,rs=[.s a,.s b,.s x]∧(a.length≤12∧b.length≤12)∧x.length≤5003∧B8 x)∧K 553 [LB code] rs:=by
 refine body_ex (f:=ir_spec_DrawConvertText) rfl ?_; simp only [ir_spec_DrawConvertText,zn,zs,zq,zi,zg,zp]
 obtain ⟨_,⟨d,rfl,hd⟩,k1⟩:=l1New_ok (K:=K) h
 obtain ⟨_,⟨a,d1,rfl,ha,hd1⟩,k2⟩:=l32Kind_ok (K:=K) hd
 obtain ⟨_,⟨b,d2,rfl,hb,hd2⟩,k3⟩:=l32Kind_ok (K:=K) hd1
 obtain ⟨_,⟨x,d3,rfl,hx,hd3⟩,k4⟩:=l32Text_ok (K:=K) hd2 (k:=a)
 simp (disch:=omega) only [vcd]
 refine call_by (k1) rfl ?_
 simp (disch:=omega) only [vcd]
 refine call_by (k2) rfl ?_
 simp (disch:=omega) only [vcd]
 refine call_by (k3) rfl ?_
 simp (disch:=omega) only [vcd]
 refine call_by (k4) rfl ?_
 simp (disch:=omega) only [vcd]
 exact ⟨_,_,_,rfl,⟨ha,hb⟩,hx⟩
theorem dLO [HA K] {code:List Nat} (h:code.length≤1048576):∃ rs,(∃ a n,rs=[.s a,.n n]∧a.length≤12)∧K 554 [LB code] rs:=by
 refine body_ex (f:=ir_spec_DrawListOf) rfl ?_; simp only [ir_spec_DrawListOf,zn,zs,zq,zi,zg,zp]
 obtain ⟨_,⟨d,rfl,hd⟩,k1⟩:=l1New_ok (K:=K) h
 obtain ⟨_,⟨a,d1,rfl,ha,hd1⟩,k2⟩:=l32Kind_ok (K:=K) hd
 obtain ⟨_,⟨y,d2,rfl,hy,hd2⟩,k3⟩:=l1Below_ok (K:=K) hd1 (n:=8)
 have hy:=hy.2 (by omega)
 simp (disch:=omega) only [vcd]
 refine call_by (k1) rfl ?_
 simp (disch:=omega) only [vcd]
 refine call_by (k2) rfl ?_
 simp (disch:=omega) only [vcd]
 refine call_by (k3) rfl ?_
 simp (disch:=omega) only [vcd]
 exact ⟨_,_,rfl,ha⟩
theorem dWA [HA K] {code:List Nat} (h:code.length≤1048576):∃ rs,(∃ a x,rs=[.s a,.s x]∧a.length≤12∧x.length≤20)∧K 555 [LB code] rs:=by
 refine body_ex (f:=ir_spec_DrawWriteAs) rfl ?_; simp only [ir_spec_DrawWriteAs,zn,zs,zq,zi,zg,zp]
 obtain ⟨_,⟨d,rfl,hd⟩,k1⟩:=l1New_ok (K:=K) h
 obtain ⟨_,⟨a,d1,rfl,ha,hd1⟩,k2⟩:=l32Kind_ok (K:=K) hd
 obtain ⟨_,⟨x,d2,rfl,hx,hd2⟩,k3⟩:=l2Any_ok (K:=K) hd1
 simp (disch:=omega) only [vcd]
 refine call_by (k1) rfl ?_
 simp (disch:=omega) only [vcd]
 refine call_by (k2) rfl ?_
 simp (disch:=omega) only [vcd]
 refine call_by (k3) rfl ?_
 simp (disch:=omega) only [vcd]
 exact ⟨_,_,rfl,ha,hx⟩
theorem dRA [HA K] {code:List Nat} (h:code.length≤1048576):∃ rs,(∃ a x,rs=[.s a,.s x]∧a.length≤12∧x.length≤5003∧B8 x)∧K 556 [LB code] rs:=by
 have k0:∃ rs,(∃ a x,rs=[.s a,.s x]∧a.length≤12∧x.length≤5003∧B8 x)∧K 566 [LB code] rs:=by
  refine body_ex (f:=ir_spec_l32Both) rfl ?_; simp only [ir_spec_l32Both,zn,zs,zq,zi,zg,zp]
  obtain ⟨_,⟨d,rfl,hd⟩,k1⟩:=l1New_ok (K:=K) h
  obtain ⟨_,⟨a,d1,rfl,ha,hd1⟩,k2⟩:=l32Kind_ok (K:=K) hd
  obtain ⟨_,⟨x,d2,rfl,hx,hd2⟩,k3⟩:=l32Text_ok (K:=K) hd1 (k:=a)
  simp (disch:=omega) only [vcd]
  refine call_by (k1) rfl ?_
  simp (disch:=omega) only [vcd]
  refine call_by (k2) rfl ?_
  simp (disch:=omega) only [vcd]
  refine call_by (k3) rfl ?_
  simp (disch:=omega) only [vcd]
  exact ⟨_,_,rfl,ha,hx⟩
 obtain ⟨_,⟨a,x,rfl,hx⟩,k1⟩:=k0
 refine body_ex (f:=ir_spec_DrawReadAs) rfl ?_; simp only [ir_spec_DrawReadAs,zn,zs,zq,zi,zg,zp]
 simp (disch:=omega) only [vcd]
 refine call_by (k1) rfl ?_
 simp (disch:=omega) only [vcd]
 exact ⟨_,_,rfl,hx⟩
theorem atT_ok [HA K] {code:List Nat} (hb:∀ c∈code,c<256):∃ rs,(∃ v:Int,rs=[.n v]∧0≤v∧v≤255)∧K 407 [LB code,.n 1] rs:=by
 refine body_ex (f:=ir_laws_at) rfl ?_; simp only [ir_laws_at,zn,zs,zq,zi,zg,zp]
 simp (disch:=omega) only [vcd]
 by_cases q:1<code.length
 ·have hm:atB code 1<256:=hb _ (by simp [atB,q])
  simp (disch:=omega) only [vcd]
  exact ⟨_,rfl,by omega,by omega⟩
 ·simp (disch:=omega) only [vcd]
  exact ⟨_,rfl,by omega,by omega⟩
theorem co_back {a b s:List Nat} (h:coO a b s=true):(coO b a (coR a b s)=true∧coR b a (coR a b s)=s)∧piR a s=piR b (coR a b s)∧0≤piR a s∧(coR a b s).length≤5000∧B8 (coR a b s):=by
 simp only [coO,qba] at h
 obtain ⟨h1,h2⟩:=h
 obtain ⟨g1,g2,g3⟩:=ra_t h1
 have e:coR a b s=waR b (raR a s):=by simp [coR,h1]
 have hk:kix b<9:=by
  simp only [waO,qba,qde] at h2; exact h2.2
 have ey:waR b (raR a s)=txW (raR a s) (kix b):=by simp [waR,h2]
 obtain ⟨q1,q2⟩:=ra_some (k:=b) g1 hk
 have eo:waO a (raR a s)=true:=by simp [waO,g1,g2]
 have er:waR a (raR a s)=s:=by simp only [waR,eo,if_true]; exact g3
 obtain ⟨n,r,r1,r2,r3,r4⟩:=rk_good g1
 refine ⟨⟨?_,?_⟩,?_,?_,by rw [e]; exact waR_len,by rw [e]; exact B8_wa⟩
 ·rw [e,ey]
  simp only [coO,q1,q2,eo,Bool.and_self]
 ·rw [e,ey]
  simp only [coR,q1,q2,er,if_true]
 ·rw [e,ey]
  simp only [piR,q1,q2,h1,if_true]
 ·simp only [piR,h1,if_true]; omega
theorem lenC0:allB 7 (fun n=>decide (((pathsR n).length:Int)=catL.getD n 0))=true:=by kernel_rfl
theorem lo_at {k:List Nat} {n:Int} (h:loO k n=true):(0≤n∧n≤6)∧((loR k n).length:Int)=catL.getD n.toNat 0∧0<(loR k n).length∧(∀ j:Nat,j<(loR k n).length→piR k (atS (loR k n) j)=j∧(atS (loR k n) j).length≤5000∧B8 (atS (loR k n) j)):=by
 simp only [loO,qba,qde] at h
 obtain ⟨h1,h2⟩:=h
 have hb:=inR_iff.1 (by first | exact h1 | exact h2)
 have hk:kix k<9:=by first | exact h1 | exact h2
 obtain ⟨m,rfl⟩:=qoz hb.1
 have hm:m<7:=by omega
 have e:loR k (m:Int)=(pathsR m).map fun w=>txW w (kix k):=by
  have eo:loO k (m:Int)=true:=by simp [loO,inR_iff.2 hb,hk]
  simp [loR,eo]
 have hl:(loR k (m:Int)).length=(pathsR m).length:=by rw [e,List.length_map]
 have hR:=allB_spec rch0 m hm
 simp only [qba,qde] at hR
 refine ⟨hb,by rw [hl]; exact of_decide_eq_true (allB_spec lenC0 m hm),by rw [hl]; exact pathsR_0 hm,fun j hj=>?_⟩
 rw [hl] at hj
 obtain ⟨g1,g2,g3,_⟩:=rchk_get hR.1 j (pathsR m)[j] (qge hj)
 have ea:atS (loR k (m:Int)) j=txW (pathsR m)[j] (kix k):=by rw [e]; simp [atS,hj]
 obtain ⟨q1,q2⟩:=ra_some (k:=k) g1 hk
 rw [ea]
 refine ⟨?_,txW_len g1 _,B8_tx g1 _⟩
 have e2:2*m / 2=m:=by omega
 simp only [piR,q1,q2,if_true,rkR,g1,g3,e2,g2]; omega
set_option maxHeartbeats 4000000 in
theorem top_law [HA K] (code:List Nat) (hb:∀ c∈code,c<256):K 545 [LB code] [.b true]:=by
 refine body_by (f:=ir_laws_FnTop) rfl ?_; simp only [ir_laws_FnTop,zn,zs,zq,zi,zg,zp]
 by_cases hl:code.length≤1048576
 ·obtain ⟨_,⟨a,b,s,rfl,⟨ha,hb1⟩,hs,hs8⟩,k1⟩:=dCT (K:=K) hl
  obtain ⟨_,⟨c,n,rfl,hc⟩,k2⟩:=dLO (K:=K) hl
  obtain ⟨_,⟨f,w,rfl,hf,hw⟩,k3⟩:=dWA (K:=K) hl
  obtain ⟨_,⟨g,t,rfl,hg,ht,ht8⟩,k4⟩:=dRA (K:=K) hl
  obtain ⟨_,⟨v,rfl,hv0,hv⟩,k5⟩:=atT_ok (K:=K) hb
  have hlo:=loR_len (k:=c) (n:=n)
  simp (disch:=omega) only [vcd]
  refine call_by (bigK_ok (K:=K)) rfl ?_
  simp (disch:=omega) only [vcd]
  refine call_by (k1) rfl ?_
  simp (disch:=omega) only [vcd]
  refine call_by (cot_i (K:=K) (a:=a) (b:=b) (s:=s) (by omega)) rfl ?_
  simp (disch:=omega) only [vcd]
  refine call_by (cot_s (K:=K) (a:=a) (b:=b) (s:=s) (by omega) hs8) rfl ?_
  simp (disch:=omega) only [vcd]
  apply joinK
  ·intro hG
   cases ho:coO a b s
   ·simp (disch:=omega) only [vcd]
    refine call_by (k2) rfl ?_
    simp (disch:=omega) only [vcd]
    exact hG
   ·obtain ⟨⟨q1,q2⟩,q3,q4,q5,q6⟩:=co_back ho
    simp (disch:=omega) only [vcd]
    refine call_by (cot_i (K:=K) (a:=b) (b:=a) (s:=coR a b s) (by omega)) rfl ?_
    rw [q1,q2]
    simp (disch:=omega) only [vcd]
    refine call_by (pi_i (K:=K) (k:=a) (s:=s) (by omega)) rfl ?_
    simp (disch:=omega) only [vcd]
    refine call_by (pi_i (K:=K) (k:=b) (s:=coR a b s) (by omega)) rfl ?_
    rw [← q3]
    simp (disch:=omega) only [vcd]
    refine call_by (pi_i (K:=K) (k:=a) (s:=s) (by omega)) rfl ?_
    simp (disch:=omega) only [vcd]
    refine call_by (k2) rfl ?_
    simp (disch:=omega) only [vcd]
    exact hG
  refine call_by (lo_i (K:=K) (k:=c) (n:=n)) rfl ?_
  simp (disch:=omega) only [vcd]
  refine call_by (lo_s (K:=K) (k:=c) (n:=n)) rfl ?_
  simp (disch:=omega) only [vcd]
  refine call_by (sameWordsK (K:=K) (a:=loR c n) (by omega)) rfl ?_
  apply joinK
  ·intro hG
   cases ho:loO c n
   ·simp (disch:=omega) only [vcd]
    refine call_by (k3) rfl ?_
    simp (disch:=omega) only [vcd]
    exact hG
   ·obtain ⟨o1,o2,o3,o4⟩:=lo_at ho
    obtain ⟨m,rfl⟩:=qoz o1.1
    simp (disch:=omega) only [vcd]
    refine call_by (cat_i (K:=K) (n:=m) (by omega)) rfl ?_
    rw [qtn] at o2
    rw [← o2]
    have hj:(v*((loR c (m:Int)).length:Int)) / 256<(loR c (m:Int)).length:=by
     have h1:v*((loR c (m:Int)).length:Int)≤255*((loR c (m:Int)).length:Int):=Int.mul_le_mul_of_nonneg_right hv (by omega)
     omega
    have hj0:0≤v*((loR c (m:Int)).length:Int):=Int.mul_nonneg hv0 (by omega)
    have hj1:0≤(v*((loR c (m:Int)).length:Int)) / 256:=by omega
    have hmu:v*((loR c (m:Int)).length:Int)≤255*((loR c (m:Int)).length:Int):=Int.mul_le_mul_of_nonneg_right hv (by omega)
    obtain ⟨j,ej⟩:=qoz hj1
    obtain ⟨p1,p2,p3⟩:=o4 j (by omega)
    simp (disch:=omega) only [vcd]
    refine call_by (k5) rfl ?_
    simp (disch:=omega) only [vcd]
    rw [ej]
    refine call_by (pi_i (K:=K) (k:=c) (s:=atS (loR c (m:Int)) j) (by omega)) rfl ?_
    rw [p1]
    simp (disch:=omega) only [vcd]
    refine call_by (k3) rfl ?_
    simp (disch:=omega) only [vcd]
    exact hG
  refine call_by (wa_i (K:=K) (k:=f) (w:=w) (by omega)) rfl ?_
  simp (disch:=omega) only [vcd]
  refine call_by (wa_s (K:=K) (k:=f) (w:=w) (by omega)) rfl ?_
  simp (disch:=omega) only [vcd]
  refine call_by (k4) rfl ?_
  simp (disch:=omega) only [vcd]
  refine call_by (ra_i (K:=K) (k:=g) (s:=t) (by omega)) rfl ?_
  simp (disch:=omega) only [vcd]
  refine call_by (ra_s (K:=K) (k:=g) (s:=t) (by omega) ht8) rfl ?_
  simp (disch:=omega) only [vcd]
  refine call_by (kdn_i (K:=K)) rfl ?_
  simp (disch:=omega) only [vcd]
  refine call_by (kdn_s (K:=K)) rfl ?_
  simp (disch:=omega) only [vcd]
  refine call_by (sameWordsK (K:=K) (a:=kdN) (by decide)) rfl ?_
  simp (disch:=omega) only [vcd]
  try rfl
 ·simp (disch:=omega) only [vcd]
  refine call_by (bigK_ok (K:=K)) rfl ?_
  simp (disch:=omega) only [vcd]
end Go.Cat
