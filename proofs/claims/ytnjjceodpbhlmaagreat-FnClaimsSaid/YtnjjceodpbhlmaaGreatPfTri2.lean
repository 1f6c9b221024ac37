/-
 Triangulations of trees, both sides.
-/
import Derived.Test.YtnjjceodpbhlmaaGreatPfBT
import Derived.Test.YtnjjceodpbhlmaaGreatPfMWalk
import Derived.Test.YtnjjceodpbhlmaaGreatIrHas
import Derived.Test.YtnjjceodpbhlmaaGreatPfPart
import Derived.Test.YtnjjceodpbhlmaaGreatPfPath
import Derived.Test.YtnjjceodpbhlmaaGreatPfStat
import Derived.Test.YtnjjceodpbhlmaaGreatPfDrawP
import Derived.Test.YtnjjceodpbhlmaaGreatPfMat
import Derived.Test.YtnjjceodpbhlmaaGreatPfSrt
set_option linter.unusedSimpArgs false
set_option linter.unusedVariables false
namespace Go.Cat
variable {K:Nat→List D→List D→Prop}
theorem G1 [HA K] {x:BT} (h:x.n≤8):K 169 [.s x.t] [.n x.n]:=by
 refine AG (f:=I0) rfl ?_; simp only [I0,zu]
 simp (disch:=omega) only [AA]
 refine AE (UH (K:=K) h) rfl ?_
 simp (disch:=omega) only [AA,BT.Et]
 refine AE (JC (K:=K) x (by omega)) rfl ?_
 simp (disch:=omega) only [AA]
theorem JS [HA K] {s:List Nat} (h:BU s=false):K 169 [.s s] [.n (-1)]:=by
 refine AG (f:=I0) rfl ?_; simp only [I0,zu]
 simp (disch:=omega) only [AA]
 refine AE (S3 (K:=K) h) rfl ?_
 simp (disch:=omega) only [AA]
theorem Ef [HA K] {x:BT} (h:x.n≤8):K 162 [.s x.t] [.n x.n]:=by
 have hl:=BT.tl x
 refine AG (f:=M7) rfl ?_; simp only [M7,zu]
 simp (disch:=omega) only [AA]
 refine AE (G6 (K:=K) (s:=x.t)) rfl ?_
 simp (disch:=omega) only [AA,F1 h]
 exact Dn (by omega)
def Jn (x:BT):List (List Int):=Ct (C4 x 0 ((x.n:Int)+1))
theorem AJO {x:BT}:(Jn x).length=(C4 x 0 ((x.n:Int)+1)).length:=WV
theorem Ru [HA K] {x y:List Int} (hx:Bl x) (hy:Bl y):K 374 [LI x,LI y] [.b (BL x y)]:=by
 have lx:x.length=2:=hx
 have ly:y.length=2:=hy
 refine AG (f:=MN) rfl ?_; simp only [MN,zu]
 simp (disch:=omega) only [AA]
 by_cases h1:AD x 0<AD y 0
 ·simp (disch:=omega) only [AA]
  simp [BL,h1]
 ·by_cases h2:AD x 0=AD y 0
  ·simp (disch:=omega) only [AA,h2]
   simp [BL,h2]
  ·simp (disch:=omega) only [AA]
   simp [BL,h1,h2]
theorem AKO {b:List (List Int)} {i:Nat} (h:i<b.length):AH b i∈b:=by simp [AH,h]
theorem APZ {l:List (List Int)} {k:Nat} (h:k<l.length):l.take (k+1)=l.take k++[AH l k]:=by
 rw [ED h]; simp [AH,h]
theorem AIP {l:List (List Int)} {k:Nat} (h:k<l.length):l.drop k=AH l k::l.drop (k+1):=by
 rw [List.drop_eq_getElem_cons h]; simp [AH,h]
theorem ANZ {l:List (List Int)} {k:Nat}:sub l 0 k=l.take k:=by simp [sub]
theorem AIK {l:List (List Int)} {k:Nat}:sub l k l.length=l.drop k:=by simp [sub]
theorem ZB {rs:List (List Int)} {j:Int} (h:0≤j∧j≤rs.length):De (LL rs) none (some (.n j))=some (LL (sub rs 0 j)):=GU LI HV (EI (by omega)) (by omega) (by omega)
theorem AB0 [HA K] {l:List (List Int)} {x:List Int} (hl:l.length≤100000) (hr:∀ z∈l,Bl z) (hx:Bl x):K 362 [LL l,LI x] [LL (BS x l.reverse).reverse]:=by
 refine AG (f:=Ld) rfl ?_; simp only [Ld,zu]
 simp (disch:=first|omega|simp only[vl];omega) only [AA]
 refine B9 (fun (k:Nat)=>k≤l.length∧(BS x (l.take k).reverse).reverse++l.drop k=(BS x l.reverse).reverse) (fun k=>[LL l,LI x,.u,.n k,.u]) (fun k=>k) l.length ⟨Nat.le_refl _,by rw [List.take_length,List.drop_length,List.append_nil]⟩ rfl ?_
 intro k hk
 obtain ⟨h1,h2⟩:=hk
 cases k with
 | zero=>
  have e:sub l 0 (0:Int)=[]:=by simp [sub]
  have e2:sub l 0 (l.length:Int)=l:=by simp [sub]
  rw [List.take_zero,List.drop_zero] at h2
  simp (disch:=first|omega|simp only[vl];omega) only [AA,Sc,J4,Jd,ZB,e,e2]
  rw [← h2]
  simp [BS]
 | succ k=>
  have hlt:k<l.length:=by omega
  have hz:=hr _ (AKO hlt)
  have kb:=Ru (K:=K) hx hz
  have et:=APZ hlt
  rw [et,List.reverse_append,List.reverse_singleton,List.singleton_append] at h2
  simp (disch:=first|omega|simp only[vl];omega) only [AA,Dv]
  refine AE (kb) rfl ?_
  cases hc:BL x (AH l k)
  ·rw [BS,hc] at h2
   have e1:sub l 0 ((k:Int)+1)=l.take (k+1):=by rw [show (k:Int)+1=((k+1:Nat):Int) by omega,ANZ]
   have e2:sub l ((k:Int)+1) (l.length:Nat)=l.drop (k+1):=by rw [show (k:Int)+1=((k+1:Nat):Int) by omega,AIK]
   have e3:(l.take (k+1)).length=k+1:=by simp; omega
   have e4:(l.drop (k+1)).length≤l.length:=by simp
   simp (disch:=first|omega|simp only[vl];omega) only [AA,Dv,Sc,J4,Jd,ZB,e1,e2]
   rw [← h2,et]
   simp
  ·rw [BS,if_pos hc,List.reverse_cons,Bw,List.singleton_append,← AIP hlt] at h2
   simp (disch:=first|omega|simp only[vl];omega) only [AA,Dv]
   exact ⟨k,by omega,⟨by omega,h2⟩,rfl⟩
def Ch (N:Int):BT→Int→Int→List (List Int)
 | .lf,_,_=>[]
 | .nd a b,l,r=>(if 1<r-l∧¬ (l=0∧r=N-1) then [[l,r]] else [])++(Ch N a l (l+1+a.n)++Ch N b (l+1+a.n) r)
theorem PW {N:Int}:∀ {x:BT} {l r:Int},∀ z∈Ch N x l r,Bl z
 | .lf,_,_,z,h=>by simp [Ch] at h
 | .nd a b,l,r,z,h=>by
  simp only [Ch,A8] at h
  rcases h with h | h | h
  ·split at h
   ·simp at h; subst h; rfl
   ·cases h
  ·exact PW z h
  ·exact PW z h
theorem T5 {N:Int}:∀ {x:BT} {l r:Int},(Ch N x l r).length≤x.n
 | .lf,_,_=>by simp [Ch]
 | .nd a b,l,r=>by
  have h1:=T5 (N:=N) (x:=a) (l:=l) (r:=l+1+a.n)
  have h2:=T5 (N:=N) (x:=b) (l:=l+1+a.n) (r:=r)
  simp only [Ch,Ad,BT.n]
  have:(if 1<r-l∧¬ (l=0∧r=N-1) then [[l,r]] else []).length≤1:=by split <;> simp
  omega
theorem O9 {N:Int}:∀ {x:BT} {l r:Int},r=l+x.n+1→¬ (l=0∧r=N-1)→0≤l→r≤N-1→(Ch N x l r).Perm ((if x.Dc=true then [] else [[l,r]])++C4 x l r)
 | .lf,l,r,_,_,_,_=>by simp [Ch,C4,BT.Dc]
 | .nd a b,l,r,e,hn,h0,hN=>by
  simp only [BT.n] at e
  have pa:=O9 (N:=N) (x:=a) (l:=l) (r:=l+a.n+1) rfl (by omega) h0 (by omega)
  have pb:=O9 (N:=N) (x:=b) (l:=l+a.n+1) (r:=r) (by omega) (by omega) (by omega) hN
  have em:l+1+(a.n:Int)=l+a.n+1:=by omega
  rw [show (BT.nd a b).Dc=false from rfl]
  simp only [Ch,C4,em,GR,if_false]
  rw [if_pos ⟨by omega,hn⟩]
  refine List.Perm.append_left _ ?_
  refine (pa.append pb).trans ?_
  generalize (if a.Dc=true then [] else [[l,l+(a.n:Int)+1]])=A
  generalize (if b.Dc=true then [] else [[l+(a.n:Int)+1,r]])=B
  generalize C4 a l (l+a.n+1)=IA
  generalize C4 b (l+a.n+1) r=IB
  rw [Bw]
  refine List.Perm.append_left A ?_
  rw [← Bw,← Bw]
  exact List.Perm.append_right IB List.perm_append_comm
theorem AMZ {x:BT}:(Ch ((x.n:Int)+2) x 0 ((x.n:Int)+1)).Perm (C4 x 0 ((x.n:Int)+1)):=by
 cases x with
 | lf=>simp [Ch,C4]
 | nd a b=>
  have pa:=O9 (N:=((BT.nd a b).n:Int)+2) (x:=a) (l:=0) (r:=0+(a.n:Int)+1) rfl (by simp only [BT.n]; omega) (by omega) (by simp only [BT.n]; omega)
  have pb:=O9 (N:=((BT.nd a b).n:Int)+2) (x:=b) (l:=0+(a.n:Int)+1) (r:=((BT.nd a b).n:Int)+1) (by simp only [BT.n]; omega) (by omega) (by omega) (by omega)
  have em:(0:Int)+1+(a.n:Int)=0+a.n+1:=by omega
  rw [Ch,C4,if_neg (by omega),List.nil_append,em]
  refine (pa.append pb).trans ?_
  generalize (if a.Dc=true then [] else [[(0:Int),0+(a.n:Int)+1]])=A
  generalize (if b.Dc=true then [] else [[0+(a.n:Int)+1,((BT.nd a b).n:Int)+1]])=B
  generalize C4 a 0 (0+a.n+1)=IA
  generalize C4 b (0+a.n+1) (((BT.nd a b).n:Int)+1)=IB
  rw [Bw]
  refine List.Perm.append_left A ?_
  rw [← Bw,← Bw]
  exact List.Perm.append_right IB List.perm_append_comm
theorem Ge {a b:BT}:(BT.nd a b).t.length=a.t.length+b.t.length+2:=by simp [BT.t]; omega
theorem IY {a b:BT}:sub (BT.nd a b).t 1 (1+(a.t.length:Int))=a.t:=by
 have e:(1+(a.t.length:Int)).toNat=a.t.length+1:=by omega
 show (List.take (1+(a.t.length:Int)).toNat (BT.nd a b).t).drop (1:Int).toNat=_
 rw [e]
 simp [BT.t]
theorem Ho {a b:BT} {j:Int} (hj:j=(BT.nd a b).t.length-1):sub (BT.nd a b).t (1+(a.t.length:Int)) j=b.t:=by
 have e:(1+(a.t.length:Int)).toNat=(40::a.t).length:=by simp; omega
 have hl:=Ge (a:=a) (b:=b)
 have e2:j.toNat=(40::a.t++b.t).length:=by simp; omega
 have e3:(BT.nd a b).t=(40::a.t++b.t)++[41]:=by simp [BT.t]
 show (List.take j.toNat (BT.nd a b).t).drop (1+(a.t.length:Int)).toNat=_
 rw [e,e2,e3,List.take_left,List.drop_left]
theorem HY [HA K] {a b:BT} (h:(BT.nd a b).n≤1000000):K 188 [.s (BT.nd a b).t,.n 1] [.n (1+a.t.length)]:=by
 have hl:=BT.tl (.nd a b)
 exact Ip (K:=K) (s:=(BT.nd a b).t) (by omega) a 1 (b.t++[41]) (by simp [BT.t])
theorem Lm {a b:BT}:((BT.nd a b).t == [46])=false:=by simp [BT.t]
theorem TG [HA K]:∀ {x:BT} {l r N:Int} {d:List (List Int)},x.n≤8→0≤l→l+x.n≤1000→0≤r→r≤1000→0≤N→N≤1000→d.length+x.n≤100000→(∀ z∈d,Bl z)→
  K 540 [.s x.t,.n l,.n r,LL d,.n N] [LL ((Ch N x l r).foldl (fun t x=>BS x t) d.reverse).reverse]
 | .lf,l,r,N,d,_,_,_,_,_,_,_,_,_=>by
  refine AG (f:=Iw) rfl ?_; simp only [Iw,zu]
  simp only [BT.t,Ch,List.foldl_nil,List.reverse_reverse]
  simp (disch:=omega) only [AA]
 | .nd a b,l,r,N,d,h,h0,h1,h2,h3,h4,h5,h6,hr=>by
  have h':=h
  simp only [BT.n] at h h1 h6
  have hl:=Ge (a:=a) (b:=b)
  have ta:=BT.tl a
  have tb:=BT.tl b
  have ea:=IY (a:=a) (b:=b)
  have eb:=Ho (a:=a) (b:=b) (j:=(BT.nd a b).t.length-1) rfl
  have kn:=Ef (K:=K) (x:=a) (by omega)
  have ke:=HY (K:=K) (a:=a) (b:=b) (by simp only [BT.n]; omega)
  have la:=T5 (N:=N) (x:=a) (l:=l) (r:=l+1+a.n)
  have ra:=PW (N:=N) (x:=a) (l:=l) (r:=l+1+a.n)
  have e0:=Lm (a:=a) (b:=b)
  obtain ⟨d1,hd1⟩:∃ d1,d1=(if 1<r-l∧¬ (l=0∧r=N-1) then (BS [l,r] d.reverse).reverse else d):=⟨_,rfl⟩
  have hd1l:d1.length≤d.length+1:=by rw [hd1]; split <;> simp [SU]
  have hd1r:∀ z∈d1,Bl z:=by
   intro z hz
   rw [hd1] at hz
   split at hz
   ·rw [List.mem_reverse,PL,List.mem_reverse] at hz
    rcases hz with hz | hz
    ·rw [hz]; rfl
    ·exact hr z hz
   ·exact hr z hz
  have hfin:(Ch N (.nd a b) l r).foldl (fun t x=>BS x t) d.reverse=(Ch N b (l+1+a.n) r).foldl (fun t x=>BS x t) ((Ch N a l (l+1+a.n)).foldl (fun t x=>BS x t) d1.reverse):=by
   rw [Ch,List.foldl_append,List.foldl_append,hd1]
   congr 2
   split
   ·rw [List.reverse_reverse]; rfl
   ·rfl
  rw [hfin]
  obtain ⟨d2,hd2⟩:∃ d2,d2=((Ch N a l (l+1+a.n)).foldl (fun t x=>BS x t) d1.reverse).reverse:=⟨_,rfl⟩
  have hd2l:d2.length=d1.length+(Ch N a l (l+1+a.n)).length:=by rw [hd2,List.length_reverse,OX,List.length_reverse]
  have hd2r:∀ z∈d2,Bl z:=by
   intro z hz
   rw [hd2,List.mem_reverse,QH,List.mem_reverse] at hz
   rcases hz with hz | hz
   ·exact ra z hz
   ·exact hd1r z hz
  have ka:=TG (x:=a) (l:=l) (r:=l+1+a.n) (N:=N) (d:=d1) (by omega) h0 (by omega) (by omega) (by omega) h4 h5 (by omega) hd1r
  have kb:=TG (x:=b) (l:=l+1+a.n) (r:=r) (N:=N) (d:=d2) (by omega) (by omega) (by omega) h2 h3 h4 h5 (by omega) hd2r
  rw [← hd2] at ka
  have hd2':(Ch N a l (l+1+a.n)).foldl (fun t x=>BS x t) d1.reverse=d2.reverse:=by rw [hd2,List.reverse_reverse]
  rw [hd2']
  generalize hw:(BT.nd a b).t=w at hl ea eb ke e0
  refine AG (f:=Iw) rfl ?_; simp only [Iw,zu]
  by_cases hc:1<r-l∧¬ (l=0∧r=N-1)
  ·rw [if_pos hc] at hd1
   have kp:=AB0 (K:=K) (l:=d) (x:=[l,r]) (by omega) hr rfl
   rw [← hd1] at kp
   obtain ⟨c1,c2⟩:=hc
   by_cases c3:l=0
   ·have c4:¬ r=N-1:=fun q=>c2 ⟨c3,q⟩
    simp (disch:=omega) only [AA,e0,Mh]
    refine AE (kp) rfl ?_
    simp (disch:=omega) only [AA]
    refine AE (ke) rfl ?_
    simp (disch:=omega) only [AA,ea]
    refine AE (kn) rfl ?_
    simp (disch:=omega) only [AA,ea]
    refine AE (ka) rfl ?_
    simp (disch:=omega) only [AA,eb]
    refine AE (kb) rfl ?_
    simp (disch:=omega) only [AA]
   ·simp (disch:=omega) only [AA,e0,Mh]
    refine AE (kp) rfl ?_
    simp (disch:=omega) only [AA]
    refine AE (ke) rfl ?_
    simp (disch:=omega) only [AA,ea]
    refine AE (kn) rfl ?_
    simp (disch:=omega) only [AA,ea]
    refine AE (ka) rfl ?_
    simp (disch:=omega) only [AA,eb]
    refine AE (kb) rfl ?_
    simp (disch:=omega) only [AA]
  ·rw [if_neg hc] at hd1
   subst hd1
   by_cases c1:1<r-l
   ·have c3:l=0:=by
     refine Classical.byContradiction fun q=>hc ⟨c1,fun q2=>q q2.1⟩
    have c4:r=N-1:=by
     refine Classical.byContradiction fun q=>hc ⟨c1,fun q2=>q q2.2⟩
    simp (disch:=omega) only [AA,e0]
    refine AE (ke) rfl ?_
    simp (disch:=omega) only [AA,ea]
    refine AE (kn) rfl ?_
    simp (disch:=omega) only [AA,ea]
    refine AE (ka) rfl ?_
    simp (disch:=omega) only [AA,eb]
    refine AE (kb) rfl ?_
    simp (disch:=omega) only [AA]
   ·simp (disch:=omega) only [AA,e0]
    refine AE (ke) rfl ?_
    simp (disch:=omega) only [AA,ea]
    refine AE (kn) rfl ?_
    simp (disch:=omega) only [AA,ea]
    refine AE (ka) rfl ?_
    simp (disch:=omega) only [AA,eb]
    refine AE (kb) rfl ?_
    simp (disch:=omega) only [AA]
theorem AOQ [HA K] {x:BT} (h:x.n≤8):K 531 [.s x.t] [LL (Jn x),.b true]:=by
 have kc:=TG (K:=K) (x:=x) (l:=0) (r:=(x.n:Int)+1) (N:=(x.n:Int)+2) (d:=[]) h (by omega) (by omega) (by omega) (by omega) (by omega) (by omega) (by simp; omega) (by simp)
 have e:((Ch ((x.n:Int)+2) x 0 ((x.n:Int)+1)).foldl (fun t x=>BS x t) ([]:List (List Int)).reverse).reverse=Jn x:=by
  have:=AK6 (AMZ (x:=x)) PW
  rw [Jn,← this]; rfl
 rw [e] at kc
 refine AG (f:=L6) rfl ?_; simp only [L6,zu]
 simp (disch:=omega) only [AA]
 refine AE (G6 (K:=K) (s:=x.t)) rfl ?_
 simp (disch:=omega) only [AA,F1 h]
 refine AE (Ef (K:=K) h) rfl ?_
 have e2:(x.n:Int)+2-1=(x.n:Int)+1:=by omega
 simp (disch:=omega) only [AA,Sc,e2]
 refine AE (kc) rfl ?_
 simp (disch:=omega) only [AA]
end Go.Cat
namespace Go.Cat
variable {K:Nat→List D→List D→Prop}
theorem AH8 [HA K] {w:List Nat} (hd:BW w=true):PP w (Hb w)∧K 373 [.s w] [LI (Hb w)]:=by
 obtain ⟨_,⟨m,rfl,hm⟩,k1⟩:=Xe (K:=K) hd
 rw [AL3 hm]
 exact ⟨hm,k1⟩
theorem ASC [HA K] {w:List Nat} (hd:BW w=true):K 373 [.s w] [LI (Hb w)]∧K 356 [.s w] [LI (Hb w),.b true]:=by
 obtain ⟨hm,k1⟩:=AH8 (K:=K) hd
 exact ⟨k1,ZX hd hm⟩
theorem AJI {w:List Nat} (hd:BW w=true):(Hb w).length≤16:=by
 have hl:=(KO hd).l
 unfold Hb
 split
 ·rename_i h
  have:=h.choose_spec.1
  omega
 ·simp
end Go.Cat
namespace Go.Cat
variable {K:Nat→List D→List D→Prop}
end Go.Cat
namespace Go.Cat
variable {K:Nat→List D→List D→Prop}
def sep (b:Nat):List (List Nat)→List Nat
 | []=>[]
 | [p]=>p
 | p::q::t=>p++b::sep b (q::t)
end Go.Cat
namespace Go.Cat
variable {K:Nat→List D→List D→Prop}
end Go.Cat
namespace Go.Cat
variable {K:Nat→List D→List D→Prop}
end Go.Cat
namespace Go.Cat
variable {K:Nat→List D→List D→Prop}
def Es (x:List Int):Prop:=x.length=2∧(-1000≤AD x 0∧AD x 0≤1000)∧(-1000≤AD x 1∧AD x 1≤1000)
def BY (a b:List Int):Bool:=(decide (AD a 0<AD b 0)&&(decide (AD b 0<AD a 1)&&decide (AD a 1<AD b 1))) || (decide (AD b 0<AD a 0)&&(decide (AD a 0<AD b 1)&&decide (AD b 1<AD a 1)))
theorem ADM [HA K] {a b:List Int} (ha:Es a) (hb:Es b):K 603 [LI a,LI b] [.b (BY a b)]:=by
 obtain ⟨a1,_,_⟩:=ha
 obtain ⟨b1,_,_⟩:=hb
 refine AG (f:=Lv) rfl ?_; simp only [Lv,zu]
 simp (disch:=omega) only [AA]
 by_cases h1:AD a 0<AD b 0
 ·by_cases h2:AD b 0<AD a 1
  ·by_cases h3:AD a 1<AD b 1
   ·simp (disch:=omega) only [AA]
    simp [BY,h1,h2,h3]
   ·simp (disch:=omega) only [AA]
    simp [BY,h1,h2,h3]
    omega
  ·simp (disch:=omega) only [AA]
   simp [BY,h1,h2]
   omega
 ·by_cases h4:AD b 0<AD a 0
  ·by_cases h5:AD a 0<AD b 1
   ·simp (disch:=omega) only [AA]
    simp [BY,h1,h4,h5]
   ·simp (disch:=omega) only [AA]
    simp [BY,h1,h4,h5]
  ·simp (disch:=omega) only [AA]
   simp [BY,h1,h4]
def Dh (n:Int) (r:List Int):Bool:=Ar 0 (n-1) (AD r 0)&&Ar (AD r 0+2) (n-1) (AD r 1)&&!(decide (AD r 0=0)&&decide (AD r 1=n-1))
theorem ALX {d:List (List Int)} {i:Nat} (h:i<d.length):d.take (i+1)=d.take i++[AH d i]:=by
 rw [ED h]; simp [AH,h]
theorem AGA {d:List (List Int)} {i:Nat} (h:i<d.length):d.drop i=AH d i::d.drop (i+1):=by
 rw [List.drop_eq_getElem_cons h]; simp [AH,h]
def CY (n:Int) (d:List (List Int)) (a b:Int):Bool:=(decide (b=a+1) || (decide (a=0)&&decide (b=n-1))) || d.any (fun r=>decide (AD r 0=a)&&decide (AD r 1=b))
theorem Tx [HA K] {n a b:Int} {d:List (List Int)} (hn:-1000≤n∧n≤1000) (ha:-1000≤a∧a≤1000) (hb:-1000≤b∧b≤1000) (hd:d.length≤1000) (hr:∀ r∈d,Es r):K 604 [.n n,LL d,.n a,.n b] [.b (CY n d a b)]:=by
 have hrow:∀ i:Nat,i<d.length→Es (AH d i):=fun i hi=>hr _ (K3 hi)
 refine AG (f:=NG) rfl ?_; simp only [NG,zu]
 by_cases h1:b=a+1
 ·simp (disch:=omega) only [AA,← h1]
  simp [CY,h1]
 ·by_cases h2:a=0∧b=n-1
  ·simp (disch:=omega) only [AA,h2.1,h2.2]
   simp [CY,h2.1,h2.2]
  ·have e0:CY n d a b=d.any (fun r=>decide (AD r 0=a)&&decide (AD r 1=b)):=by
    by_cases h3:a=0
    ·have h4:¬ b=n-1:=fun q=>h2 ⟨h3,q⟩
     simp [CY,h1,h4]
    ·simp [CY,h1,h3]
   rw [e0]
   by_cases h3:a=0
   ·have h4:¬ b=n-1:=fun q=>h2 ⟨h3,q⟩
    simp (disch:=omega) only [AA]
    refine Ag (fun i=>d.any (fun r=>decide (AD r 0=a)&&decide (AD r 1=b))=(d.drop i).any (fun r=>decide (AD r 0=a)&&decide (AD r 1=b))) (fun i=>[.u,LL d,.n a,.n b,.u,.n i,.u,.u,.u]) d.length (by simp) (by simp) (fun i hi hP=>?_) (fun hP=>?_)
    ·have hri:=hrow i hi
     obtain ⟨r,hr1⟩:∃ r,r=AH d i:=⟨_,rfl⟩
     rw [AGA hi,List.any_cons] at hP
     rw [← hr1] at hP hri
     obtain ⟨g2,g0,g1⟩:=hri
     by_cases c0:AD r 0=a
     ·by_cases c1:AD r 1=b
      ·simp (disch:=omega) only [AA,← hr1,c0,c1]
       rw [hP]; simp [c0,c1]
      ·simp (disch:=omega) only [AA,← hr1,c0]
       rw [hP]; simp [c1]
     ·simp (disch:=omega) only [AA,← hr1]
      rw [hP]; simp [c0]
    ·rw [List.drop_length] at hP
     simp (disch:=omega) only [AA]
     rw [hP]; simp
   ·simp (disch:=omega) only [AA]
    refine Ag (fun i=>d.any (fun r=>decide (AD r 0=a)&&decide (AD r 1=b))=(d.drop i).any (fun r=>decide (AD r 0=a)&&decide (AD r 1=b))) (fun i=>[.u,LL d,.n a,.n b,.u,.n i,.u,.u,.u]) d.length (by simp) (by simp) (fun i hi hP=>?_) (fun hP=>?_)
    ·have hri:=hrow i hi
     obtain ⟨r,hr1⟩:∃ r,r=AH d i:=⟨_,rfl⟩
     rw [AGA hi,List.any_cons] at hP
     rw [← hr1] at hP hri
     obtain ⟨g2,g0,g1⟩:=hri
     by_cases c0:AD r 0=a
     ·by_cases c1:AD r 1=b
      ·simp (disch:=omega) only [AA,← hr1,c0,c1]
       rw [hP]; simp [c0,c1]
      ·simp (disch:=omega) only [AA,← hr1,c0]
       rw [hP]; simp [c1]
     ·simp (disch:=omega) only [AA,← hr1]
      rw [hP]; simp [c0]
    ·rw [List.drop_length] at hP
     simp (disch:=omega) only [AA]
     rw [hP]; simp
def FH (n:Int) (d:List (List Int)) (a b:Int):Nat→Int→Option Int
 | 0,_=>none
 | k+1,m=>if (CY n d a m&&CY n d m b)=true then some m else FH n d a b k (m+1)
def Dj (n:Int) (d:List (List Int)):Nat→Int→Int→BT
 | 0,_,_=>.lf
 | f+1,a,b=>if b=a+1 then .lf else
  match FH n d a b (b-a-1).toNat (a+1) with
  | some m=>.nd (Dj n d f a m) (Dj n d f m b)
  | none=>.lf
def Dw (n:Int) (d:List (List Int)):BT:=Dj n d (n-1).toNat 0 (n-1)
end Go.Cat
namespace Go.Cat
variable {K:Nat→List D→List D→Prop}
theorem ALE {rs:List (List Int)} {j:Int} (h:0≤j∧j≤rs.length):De (LL rs) none (some (.n j))=some (LL (sub rs 0 j)):=GU LI HV (EI h.1) (by omega) (by omega)
theorem AFQ {l:List (List Int)} {x:List Int}:Ct (l++[x])=(BS x (Ct l).reverse).reverse:=by
 simp only [Ct,Gy,List.foldl_append,List.foldl_cons,List.foldl_nil,List.reverse_reverse]
end Go.Cat
