/-
 Plane trees read back: PathOfPlane of the reference, for any list.
-/
import Derived.Test.YtdifmcppfcbgdaaGreatPfPlane
set_option linter.unusedSimpArgs false
set_option linter.unusedVariables false
namespace Go.Cat
variable {K:Nat→List D→List D→Prop}
def lvS (p:List Int):Nat→List Int
 | 0=>[]
 | i+1=>lvS p i++[if i=0 then 0 else atI (lvS p i) (atI p i)+1]
theorem lvS_len {p:List Int}:∀ i,(lvS p i).length=i
 | 0=>rfl
 | i+1=>by simp [lvS,lvS_len i]
theorem plV_par {p:List Int} {n j:Nat} (h:plV p n) (hj:j<n) (h0:0<j):0≤atI p j∧atI p j<j:=by
 have h1:=plV_rg h j hj
 rcases h j hj with q | q
 ·omega
 ·have:=anc_rg (i:=j) (fun k hk=>plV_rg h k (by omega)) (j+1) _ _ (by omega) q.2
  omega
theorem isPl_V {p:List Int} (h:isPl p=true):(1≤p.length∧p.length≤9)∧plV p p.length:=by
 simp only [isPl,qba,qde] at h
 have:=inR_iff.1 h.1
 exact ⟨by omega,h.2⟩
theorem atI_appN {a:List Int} {x:Int} {k:Nat} (h:k<a.length):atI (a++[x]) k=atI a k:=by
 simp [atI,qgd,qgl h]
theorem atI_lastN {a:List Int} {x:Int}:atI (a++[x]) (a.length:Nat)=x:=by simp [atI]
theorem lvS_at {p:List Int} {k:Nat}:∀ {i:Nat},k<i→atI (lvS p i) k=atI (lvS p (k+1)) k
 | 0,h=>by omega
 | i+1,h=>by
  rcases qlg k i with q | q
  ·rw [lvS,atI_appN (by rw [lvS_len]; exact q)]
   exact lvS_at q
  ·obtain rfl:k=i:=by omega
   rfl
theorem lvS_bd {p:List Int} {n:Nat} (h:plV p n):∀ {k:Nat},k<n→0≤atI (lvS p (k+1)) k∧atI (lvS p (k+1)) k≤k:=by
 intro k
 induction k using Nat.strongRecOn with
 | _ k ih=>
  intro hk
  have hl:=lvS_len (p:=p) k
  have e:atI (lvS p (k+1)) k=if k=0 then 0 else atI (lvS p k) (atI p k)+1:=by
   rw [lvS]
   conv=>lhs; rw [show ((k:Nat):Int)=((lvS p k).length:Nat) by rw [hl]]
   rw [atI_lastN,hl]
  rw [e]
  split
  ·omega
  ·have hp:=plV_par h hk (by omega)
   obtain ⟨m,hm⟩:=qoz hp.1
   rw [hm]
   have hm2:m<k:=by omega
   rw [lvS_at hm2]
   have:=ih m hm2 (by omega)
   omega
theorem lvS_bd2 {p:List Int} {n i:Nat} (h:plV p n) {k:Nat} (hi:i≤n) (hk:k<i):0≤atI (lvS p i) k∧atI (lvS p i) k≤k:=by
 rw [lvS_at hk]; exact lvS_bd h (by omega)
theorem lev_s [HA K] {p:List Int} (hp:isPl p=true):K 591 [LI p] [LI (lvS p p.length)]:=by
 obtain ⟨hb,hv⟩:=isPl_V hp
 have k1:=ispl_s (K:=K) (p:=p) (by omega)
 rw [hp] at k1
 refine body_by (f:=ir_spec_LevelsOf) rfl ?_; simp only [ir_spec_LevelsOf,zn,zs,zq,zi,zg,zp]
 simp (disch:=first|omega|simp only[vl];omega) only [vcd]
 rw [LI_nilL]
 refine loop_ix (fun _=>True) (fun i=>[LI p,.u,LI (lvS p i),.n i,.u,.u]) p.length trivial rfl (fun i hi _=>?_) (fun _=>?_)
 ·have hl:=lvS_len (p:=p) i
  rw [lvS]
  by_cases h0:i=0
  ·subst h0
   simp (disch:=first|omega|simp only[vl];omega) only [vcd]
   refine call_by (k1) rfl ?_
   simp (disch:=first|omega|simp only[vl];omega) only [vcd,li_1]
  ·have hpar:=plV_par hv hi (by omega)
   obtain ⟨m,hm⟩:=qoz hpar.1
   have hm:atI p i=(m:Int):=hm
   have hbd:=lvS_bd2 hv (i:=i) (k:=m) (by omega) (by omega)
   rw [if_neg h0,hm]
   simp (disch:=first|omega|simp only[vl];omega) only [vcd]
   refine call_by (k1) rfl ?_
   simp (disch:=first|omega|simp only[vl];omega) only [vcd,hm,li_1]
 ·simp (disch:=first|omega|simp only[vl];omega) only [vcd]
def ppT (l:List Int):Nat→List Nat
 | 0=>[]
 | i+1=>ppT l i++List.replicate (atI l i+1-atI l ((i:Int)+1)).toNat 100++[117]
def ppF (p:List Int):List Nat:=ppT (lvS p p.length) (p.length-1)++List.replicate (atI (lvS p p.length) ((p.length:Int)-1)).toNat 100
theorem ppT_len {l:List Int} {b:Nat} (h:∀ k:Nat,k≤b→0≤atI l k∧atI l k≤9):∀ {i:Nat},i≤b→(ppT l i).length≤11*i
 | 0,_=>by simp [ppT]
 | i+1,hi=>by
  have ih:=ppT_len h (i:=i) (by omega)
  have h1:=h i (by omega)
  have h2:=h (i+1) hi
  have e:((i+1:Nat):Int)=(i:Int)+1:=by omega
  rw [e] at h2
  simp only [ppT,qla,List.length_replicate,qlc,qln]
  omega
theorem rep_snocN {k c:Nat}:List.replicate (k+1) c=List.replicate k c++[c]:=by rw [List.replicate_succ',]
theorem pop_s [HA K] {p:List Int} (h:p.length≤1099511627776):K 576 [LI p] [.s (if isPl p=true then ppF p else []),.b (isPl p)]:=by
 have k1:=ispl_s (K:=K) (p:=p) (by omega)
 by_cases hp:isPl p=true
 ·rw [hp] at k1 ⊢
  obtain ⟨hb,hv⟩:=isPl_V hp
  have hll:=lvS_len (p:=p) p.length
  have hbd:∀ k:Nat,k≤p.length-1→0≤atI (lvS p p.length) k∧atI (lvS p p.length) k≤9:=fun k hk=>by
   have:=lvS_bd2 hv (i:=p.length) (k:=k) (by omega) (by omega)
   omega
  have k2:=lev_s (K:=K) hp
  generalize hL:lvS p p.length=L at hll hbd k2
  rw [if_pos rfl,ppF,hL]
  refine body_by (f:=ir_spec_PathOfPlane) rfl ?_; simp only [ir_spec_PathOfPlane,zn,zs,zq,zi,zg,zp]
  simp (disch:=first|omega|simp only[vl];omega) only [vcd]
  refine call_by (k1) rfl ?_
  simp (disch:=first|omega|simp only[vl];omega) only [vcd]
  refine call_by (k2) rfl ?_
  simp (disch:=first|omega|simp only[vl];omega) only [vcd]
  refine loop_ix (fun _=>True) (fun i=>[LI p,.u,.u,LI L,.s (ppT L i),.n ((i:Int)+1),.u,.u,.u,.u,.u,.u]) (p.length-1) trivial rfl (fun i hi _=>?_) (fun _=>?_)
  ·have h1:=hbd i (by omega)
   have h2:=hbd (i+1) (by omega)
   have e:((i+1:Nat):Int)=(i:Int)+1:=by omega
   rw [e] at h2
   have hlt:=ppT_len hbd (i:=i) (by omega)
   obtain ⟨n,hn⟩:∃ n,n=(atI L i+1-atI L ((i:Int)+1)).toNat:=⟨_,rfl⟩
   have ea:atI L ((i:Int)+1-1)=atI L i:=by rw [qas]
   simp (disch:=first|omega|simp only[vl];omega) only [vcd,ea]
   refine loop_ix (fun _=>True) (fun j=>[LI p,.u,.u,LI L,.s (ppT L i++List.replicate j 100),.n ((i:Int)+1),.n (atI L i-j),.u,.u,.u,.u,.u]) n trivial (by simp) (fun j hj _=>?_) (fun _=>?_)
   ·have hr:(List.replicate j 100:List Nat).length=j:=by simp
    rw [rep_snocN,← qaa]
    simp (disch:=first|omega|simp only[vl];omega) only [vcd]
    have e3:atI L i-(j:Int)-1=atI L i-((j:Int)+1):=by omega
    rw [e3]
   ·have hr:(List.replicate n 100:List Nat).length=n:=by simp
    simp only [ppT,← hn]
    simp (disch:=first|omega|simp only[vl];omega) only [vcd]
  ·have hlt:=ppT_len hbd (i:=p.length-1) (by omega)
   have e0:(((p.length-1:Nat):Int)+1)=p.length:=by omega
   have h1:=hbd (p.length-1) (by omega)
   have e1:((p.length-1:Nat):Int)=(p.length:Int)-1:=by omega
   rw [e1] at h1
   obtain ⟨n,hn⟩:∃ n,n=(atI L ((p.length:Int)-1)).toNat:=⟨_,rfl⟩
   rw [e0,← hn]
   generalize hT:ppT L (p.length-1)=T at hlt
   simp (disch:=first|omega|simp only[vl];omega) only [vcd]
   refine loop_ix (fun _=>True) (fun j=>[.u,.u,.u,.u,.s (T++List.replicate j 100),.u,.u,.n ((n:Int)-j),.u,.u,.u,.u]) n trivial ?_ (fun j hj _=>?_) (fun _=>?_)
   ·have:atI L ((p.length:Int)-1)=n:=by omega
    simp [this]
   ·have hr:(List.replicate j 100:List Nat).length=j:=by simp
    rw [rep_snocN,← qaa]
    simp (disch:=first|omega|simp only[vl];omega) only [vcd]
    have e3:(n:Int)-(j:Int)-1=(n:Int)-((j:Int)+1):=by omega
    rw [e3]
   ·simp (disch:=first|omega|simp only[vl];omega) only [vcd]
 ·have hp:isPl p=false:=by simpa using hp
  rw [hp] at k1 ⊢
  refine body_by (f:=ir_spec_PathOfPlane) rfl ?_; simp only [ir_spec_PathOfPlane,zn,zs,zq,zi,zg,zp]
  simp (disch:=first|omega|simp only[vl];omega) only [vcd]
  refine call_by (k1) rfl ?_
  simp (disch:=first|omega|simp only[vl];omega) only [vcd]
  rfl
end Go.Cat
