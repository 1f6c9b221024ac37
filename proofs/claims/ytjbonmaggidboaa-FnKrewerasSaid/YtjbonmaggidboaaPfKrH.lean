/-
 Drawn partitions: what is told of them.
-/
import Derived.Test.YtjbonmaggidboaaPfKrG
import Derived.Test.YtjbonmaggidboaaPfMDraw
import Derived.Test.YtjbonmaggidboaaPfPLine
set_option linter.unusedSimpArgs false
set_option linter.unusedVariables false
namespace Go.Cat
variable {K:Nat→List D→List D→Prop}
set_option maxRecDepth 100000
noncomputable def ptwK (w:List Nat):List Int:=if dyck w=true then ptn w else []
theorem ptwK_s [HA K] {w:List Nat} (h:w.length≤1000):K 301 [.s w] [LI (ptwK w),.b (dyck w)]:=by
 cases hd:dyck w
 ·refine body_by (f:=ir_spec_PartitionOf) rfl ?_; simp only [ir_spec_PartitionOf,zn,zs,zq,zi,zg,zp]
  simp (disch:=first|omega|simp only[vl];omega) only [vcd]
  repeat (first | (refine call_by (dyck_s (K:=K) (w:=w) (by omega)) rfl ?_; try simp (disch:=first|omega|simp only[vl];omega) only [vcd,hd]))
  simp [ptwK,hd]; rfl
 ·have k:=ptn_s (K:=K) hd
  have e:ptwK w=ptn w:=by simp [ptwK,hd]
  rw [e]
  exact k
theorem ncL_of {w:List Nat} (hd:dyck w=true) (hl:w.length≤10):ncF (ptn w)=true∧(ptn w).length=w.length / 2:=by
 have hm:=DY_of hd
 have he:w.length=2*(w.length / 2):=by have:=uix_all hd; omega
 have hin:w∈pathsR (w.length / 2):=(paths_mem (by omega)).2 ⟨hd,he⟩
 have hk:kerL (w.length / 2)=true:=allB_spec kerL6 _ (by omega)
 simp only [kerL,qba,qat,qde] at hk
 have h2:=hk.1 (ptnC w) (List.mem_map.2 ⟨w,hin,rfl⟩)
 rw [ptnC_eq hd]
 exact ⟨h2.1,h2.2.1⟩
theorem ptwK_len {w:List Nat}:2*(ptwK w).length≤w.length:=by
 unfold ptwK
 split
 ·rename_i hd
  have:=uix_all hd
  have h2:(ptn w).length=uix w w.length:=rnL_len _
  omega
 ·simp
theorem ptwK_nc {w:List Nat} (hl:w.length≤10):ncF (ptwK w)=true∧(ptwK w).length≤5:=by
 have h:=ptwK_len (w:=w)
 refine ⟨?_,by omega⟩
 unfold ptwK
 split
 ·rename_i hd
  exact (ncL_of hd hl).1
 ·rfl
theorem l8Draw_ok [HA K] {d:D} (hd:Cur d):∃ rs,(∃ p d',rs=[LI p,d']∧p.length≤6∧Cur d')∧K 502 [d] rs:=by
 refine body_ex (f:=ir_spec_l8Draw) rfl ?_; simp only [ir_spec_l8Draw,zn,zs,zq,zi,zg,zp]
 obtain ⟨_,⟨w,d1,rfl,hw,hd1⟩,k1⟩:=l2Path_ok (K:=K) hd
 have h:=ptwK_len (w:=w)
 simp (disch:=first|omega|simp only[vl];omega) only [vcd]
 refine call_by (k1) rfl ?_
 simp (disch:=first|omega|simp only[vl];omega) only [vcd]
 refine call_by (ptwK_s (K:=K) (w:=w) (by omega)) rfl ?_
 simp (disch:=first|omega|simp only[vl];omega) only [vcd]
 exact ⟨_,_,rfl,by omega,hd1⟩
theorem l8Any_ok [HA K] {d:D} (hd:Cur d):∃ rs,(∃ x d',rs=[LI x,d']∧x.length≤6∧Cur d')∧K 472 [d] rs:=by
 refine body_ex (f:=ir_spec_l8Any) rfl ?_; simp only [ir_spec_l8Any,zn,zs,zq,zi,zg,zp]
 obtain ⟨_,⟨p0,d1,rfl,hp0,hd1⟩,k1⟩:=l8Draw_ok (K:=K) hd
 obtain ⟨_,⟨b1,d2,rfl,hd2⟩,k3⟩:=l1Once_ok (K:=K) hd1 (n:=3)
 simp (disch:=first|omega|simp only[vl];omega) only [vcd]
 refine call_by (k1) rfl ?_
 simp (disch:=first|omega|simp only[vl];omega) only [vcd]
 refine call_by (k3) rfl ?_
 have hfin:∀ {d:D} {p:List Int},Cur d→p.length≤6→0<p.length→∃ (b:Bool) (d':D) (i:Int) (d1:D) (y:Int) (d'':D),Cur d'∧Cur d''∧(0≤i∧i<p.length)∧K 307 [d,.n 10] [.b b,d']∧K 289 [d',.n p.length] [.n i,d1]∧K 313 [d1,LI [-1,0,7,9223372036854775807]] [.n y,d'']:=by
  intro d p hd hp h0
  obtain ⟨_,⟨b,d',rfl,hd'⟩,k⟩:=l1Once_ok (K:=K) hd (n:=10)
  obtain ⟨_,⟨i,d1,rfl,hi,hd1⟩,k2⟩:=l1Below_ok (K:=K) hd' (n:=p.length)
  obtain ⟨_,⟨y,d'',rfl,hd''⟩,k'⟩:=pickM_ok (K:=K) hd1 (l:=[-1,0,7,9223372036854775807]) (by simp) (by simp)
  exact ⟨b,d',i,d1,y,d'',hd',hd'',hi.2 (by omega),k,k2,k'⟩
 cases b1
 ·simp (disch:=first|omega|simp only[vl];omega) only [vcd]
  by_cases h0:0<p0.length
  ·obtain ⟨b,e1,i,e2,y,e3,h1,h2,hi,k5,k6,k7⟩:=hfin (p:=p0) hd2 hp0 h0
   simp (disch:=first|omega|simp only[vl];omega) only [vcd]
   refine call_by (k5) rfl ?_
   cases b
   ·simp (disch:=first|omega|simp only[vl];omega) only [vcd]
    exact ⟨_,_,rfl,hp0,h1⟩
   ·simp (disch:=first|omega|simp only[vl];omega) only [vcd]
    refine call_by (k6) rfl ?_
    simp (disch:=first|omega|simp only[vl];omega) only [vcd,liI_c,consS_LI]
    refine call_by (k7) rfl ?_
    simp (disch:=first|omega|simp only[vl];omega) only [vcd]
    exact ⟨_,_,rfl,by simp only [seI_len]; exact hp0,h2⟩
  ·simp (disch:=first|omega|simp only[vl];omega) only [vcd]
   exact ⟨_,_,rfl,hp0,hd2⟩
 ·obtain ⟨_,⟨r0,d3,rfl,hr0,hd3⟩,k4⟩:=l1Below_ok (K:=K) hd2 (n:=6)
  have hr0:=hr0.2 (by omega)
  simp (disch:=first|omega|simp only[vl];omega) only [vcd,LI_nilM]
  refine call_by (k4) rfl ?_
  simp (disch:=first|omega|simp only[vl];omega) only [vcd]
  refine loop_wh (fun (q:D×List Int×Int×Int×D)=>Cur q.1∧(0≤q.2.2.2.1∧(q.2.1.length:Int)+q.2.2.2.1≤6)∧0≤q.2.2.1∧q.2.2.1≤q.2.1.length) (fun q=>[q.1,.u,LI q.2.1,.n q.2.2.1,.n q.2.2.2.1,q.2.2.2.2,.u,.u,.u]) (fun q=>q.2.2.2.1.toNat) (d3,[],0,r0,.u) ⟨hd3,by simp; omega,by simp⟩ rfl ?_
  rintro ⟨d4,p,nx,r,d5⟩ ⟨hd4,hr,hx⟩
  simp only at hd4 hr hx ⊢
  have hp6:p.length≤6:=by omega
  by_cases hr0:0<r
  ·obtain ⟨_,⟨k,d6,rfl,hk,hd6⟩,k7⟩:=l1Below_ok (K:=K) hd4 (n:=nx+1)
   have hk:=hk.2 (by omega)
   simp (disch:=first|omega|simp only[vl];omega) only [vcd]
   refine call_by (k7) rfl ?_
   simp (disch:=first|omega|simp only[vl];omega) only [vcd]
   refine ⟨(d6,p++[k],max nx (k+1),r-1,.u),by show (r-1).toNat<r.toNat; omega,⟨hd6,by simp only [qla,List.length_singleton]; omega,by simp only [qla,List.length_singleton]; omega⟩,by simp⟩
  ·simp (disch:=first|omega|simp only[vl];omega) only [vcd]
   by_cases h0:0<p.length
   ·obtain ⟨b,e1,i,e2,y,e3,h1,h2,hi,k5,k6,k7⟩:=hfin (p:=p) hd4 hp6 h0
    simp (disch:=first|omega|simp only[vl];omega) only [vcd]
    refine call_by (k5) rfl ?_
    cases b
    ·simp (disch:=first|omega|simp only[vl];omega) only [vcd]
     exact ⟨_,_,rfl,hp6,h1⟩
    ·simp (disch:=first|omega|simp only[vl];omega) only [vcd]
     refine call_by (k6) rfl ?_
     simp (disch:=first|omega|simp only[vl];omega) only [vcd,liI_c,consS_LI]
     refine call_by (k7) rfl ?_
     simp (disch:=first|omega|simp only[vl];omega) only [vcd]
     exact ⟨_,_,rfl,by simp only [seI_len]; exact hp6,h2⟩
   ·simp (disch:=first|omega|simp only[vl];omega) only [vcd]
    exact ⟨_,_,rfl,hp6,hd4⟩
theorem DrawComplement_ok [HA K] {code:List Nat} (h:code.length≤1048576):∃ rs,(∃ x,rs=[LI x]∧x.length≤6)∧K 432 [LB code] rs:=by
 refine body_ex (f:=ir_spec_DrawComplement) rfl ?_; simp only [ir_spec_DrawComplement,zn,zs,zq,zi,zg,zp]
 obtain ⟨_,⟨d,rfl,hd⟩,k1⟩:=l1New_ok (K:=K) h
 obtain ⟨_,⟨x,d1,rfl,hx,hd1⟩,k2⟩:=l8Any_ok (K:=K) hd
 simp (disch:=first|omega|simp only[vl];omega) only [vcd]
 refine call_by (k1) rfl ?_
 simp (disch:=first|omega|simp only[vl];omega) only [vcd]
 refine call_by (k2) rfl ?_
 simp (disch:=first|omega|simp only[vl];omega) only [vcd]
 exact ⟨_,rfl,hx⟩
theorem DrawNoncrossingClosure_ok [HA K] {code:List Nat} (h:code.length≤1048576):∃ rs,(∃ x,rs=[LI x]∧x.length≤6)∧K 450 [LB code] rs:=by
 refine body_ex (f:=ir_spec_DrawNoncrossingClosure) rfl ?_; simp only [ir_spec_DrawNoncrossingClosure,zn,zs,zq,zi,zg,zp]
 obtain ⟨_,⟨d,rfl,hd⟩,k1⟩:=l1New_ok (K:=K) h
 obtain ⟨_,⟨x,d1,rfl,hx,hd1⟩,k2⟩:=l8Any_ok (K:=K) hd
 simp (disch:=first|omega|simp only[vl];omega) only [vcd]
 refine call_by (k1) rfl ?_
 simp (disch:=first|omega|simp only[vl];omega) only [vcd]
 refine call_by (k2) rfl ?_
 simp (disch:=first|omega|simp only[vl];omega) only [vcd]
 exact ⟨_,rfl,hx⟩
theorem DrawCountChains_ok [HA K] {code:List Nat} (h:code.length≤1048576):∃ rs,(∃ x y,rs=[.n x,.n y]∧(0≤x∧x≤5)∧0≤y∧y≤6)∧K 445 [LB code] rs:=by
 refine body_ex (f:=ir_spec_DrawCountChains) rfl ?_; simp only [ir_spec_DrawCountChains,zn,zs,zq,zi,zg,zp]
 obtain ⟨_,⟨d,rfl,hd⟩,k1⟩:=l1New_ok (K:=K) h
 obtain ⟨_,⟨x,d1,rfl,hx,hd1⟩,k2⟩:=l1Below_ok (K:=K) hd (n:=6)
 obtain ⟨_,⟨y,d2,rfl,hy,hd2⟩,k3⟩:=l1Below_ok (K:=K) hd1 (n:=7)
 have hx:=hx.2 (by omega)
 have hy:=hy.2 (by omega)
 simp (disch:=first|omega|simp only[vl];omega) only [vcd]
 refine call_by (k1) rfl ?_
 simp (disch:=first|omega|simp only[vl];omega) only [vcd]
 refine call_by (k2) rfl ?_
 simp (disch:=first|omega|simp only[vl];omega) only [vcd]
 refine call_by (k3) rfl ?_
 simp (disch:=first|omega|simp only[vl];omega) only [vcd]
 exact ⟨_,_,rfl,by omega,by omega⟩
