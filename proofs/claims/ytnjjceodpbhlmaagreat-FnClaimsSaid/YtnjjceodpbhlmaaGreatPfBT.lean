/-
 Binary trees and paths.
-/
import Derived.Test.YtnjjceodpbhlmaaGreatPfTree
import Derived.Test.YtnjjceodpbhlmaaGreatPfStat
import Derived.Test.YtnjjceodpbhlmaaGreatIrHas
import Derived.Test.YtnjjceodpbhlmaaGreatPfSrt
import Derived.Test.YtnjjceodpbhlmaaGreatPfTxt
set_option linter.unusedSimpArgs false
set_option linter.unusedVariables false
namespace Go.Cat
variable {K:Nat→List D→List D→Prop}
def BT.p:BT→List Nat
 | .lf=>[]
 | .nd l r=>117::(l.p++100::r.p)
theorem BT.pl:∀ x:BT,x.p.length=2*x.n
 | .lf=>rfl
 | .nd l r=>by
  have:=BT.pl l
  have:=BT.pl r
  simp only [BT.p,BT.n,A6,Ad]; omega
theorem Sx:∀ (x:BT) (r:List Nat) (h:Int),0≤h→Az (x.p++r) h=Az r h
 | .lf,r,h,_=>rfl
 | .nd a b,r,h,h0=>by
  simp only [BT.p,List.cons_append,Bw]
  rw [Az,if_pos rfl,Sx a _ _ (by omega),Az,if_neg (by omega),if_pos rfl,if_neg (by omega),Sx b _ _ (by omega)]
  congr 1; omega
theorem SX (x:BT):Az x.p 0=some 0:=by
 have:=Sx x [] 0 (by omega)
 rw [List.append_nil] at this
 rw [this]; rfl
theorem ANX {x:BT} (h:x.n≤8):BW x.p=true:=by
 have:=BT.pl x
 simp only [BW,SX,Ac,Aj]
 exact ⟨trivial,by omega⟩
theorem UC:∀ (n:Nat) (w:List Nat) (k:Int),w.length≤n→0≤k→Az w (k+1)=some 0→∃ (x:BT) (b:List Nat),w=x.p++100::b∧Az b k=some 0
 | _,[],k,_,hk,h=>by simp [Az] at h; omega
 | 0,c::w,k,hl,_,_=>by simp at hl
 | n+1,c::w,k,hl,hk,h=>by
  simp only [A6] at hl
  simp only [Az] at h
  by_cases hu:c=117
  ·rw [if_pos hu] at h
   obtain ⟨l,b1,e1,h1⟩:=UC n w (k+1) (by omega) (by omega) h
   have hb:b1.length≤n:=by
    have:=congrArg List.length e1
    simp only [Ad,A6] at this
    omega
   obtain ⟨r,b2,e2,h2⟩:=UC n b1 k hb hk h1
   refine ⟨.nd l r,b2,?_,h2⟩
   rw [hu,e1,e2]
   simp [BT.p]
  ·rw [if_neg hu] at h
   by_cases hd:c=100
   ·rw [if_pos hd,if_neg (by omega)] at h
    refine ⟨.lf,w,by simp [BT.p,hd],?_⟩
    rw [← h]; congr 1; omega
   ·rw [if_neg hd] at h; cases h
theorem Xl:∀ (n:Nat) (w:List Nat),w.length≤n→Az w 0=some 0→∃ x:BT,w=x.p
 | _,[],_,_=>⟨.lf,rfl⟩
 | 0,c::w,hl,_=>by simp at hl
 | n+1,c::w,hl,h=>by
  simp only [A6] at hl
  simp only [Az] at h
  by_cases hu:c=117
  ·rw [if_pos hu] at h
   obtain ⟨l,b,e1,h1⟩:=UC n w 0 (by omega) (by omega) h
   have hb:b.length≤n:=by
    have:=congrArg List.length e1
    simp only [Ad,A6] at this
    omega
   obtain ⟨r,e2⟩:=Xl n b hb h1
   exact ⟨.nd l r,by rw [hu,e1,e2]; rfl⟩
  ·rw [if_neg hu] at h
   by_cases hd:c=100
   ·rw [if_pos hd,if_pos (by omega)] at h; cases h
   ·rw [if_neg hd] at h; cases h
theorem ex_p {w:List Nat} (hd:BW w=true):∃ x:BT,w=x.p∧x.n≤8:=by
 simp only [BW,Ac,Aj] at hd
 obtain ⟨x,e⟩:=Xl w.length w (Nat.le_refl _) hd.1
 have:=BT.pl x
 exact ⟨x,e,by rw [← e] at this; omega⟩
theorem BT.TL:∀ {x y:BT} {a b:List Nat},x.p++100::a=y.p++100::b→x=y∧a=b
 | .lf,.lf,a,b,h=>by simpa [BT.p] using h
 | .lf,.nd _ _,a,b,h=>by simp [BT.p] at h
 | .nd _ _,.lf,a,b,h=>by simp [BT.p] at h
 | .nd l r,.nd l' r',a,b,h=>by
  simp only [BT.p,List.cons_append,Bw,List.cons.injEq,true_and] at h
  obtain ⟨h1,h2⟩:=BT.TL h
  obtain ⟨h3,h4⟩:=BT.TL h2
  subst h1; subst h3
  exact ⟨rfl,h4⟩
theorem BT.pinj {x y:BT} (h:x.p=y.p):x=y:=(BT.TL (a:=[]) (b:=[]) (by rw [h])).1
theorem hp_0 {x:BT} {i:Nat} (h:i≤2*x.n):0≤Hh x.p i:=by
 have h1:=(NZ x.p 0 0 (Int.le_refl _)).1 (SX x)
 have:=h1.2.1 i (by rw [BT.pl]; exact h)
 omega
theorem hp_l {x:BT}:Hh x.p (2*x.n)=0:=by
 have h1:=(NZ x.p 0 0 (Int.le_refl _)).1 (SX x)
 have:=h1.2.2
 rw [BT.pl] at this
 omega
theorem AKS {l r:BT} {i:Nat} (h:i≤2*l.n):Hh (BT.nd l r).p (i+1)=1+Hh l.p i:=by
 simp only [BT.p]
 rw [Je,ANJ (by rw [BT.pl]; exact h)]
 simp
theorem hp_e {l r:BT}:Hh (BT.nd l r).p (2*l.n+2)=0:=by
 simp only [BT.p]
 rw [Je,show 2*l.n+1=l.p.length+1 by rw [BT.pl],AH6,BT.pl,hp_l,Je,Gu]
 simp
theorem AI4 {l r:BT} {i:Nat} (h0:1≤i) (h:i≤2*l.n+1):0<Hh (BT.nd l r).p i:=by
 obtain ⟨j,rfl⟩:∃ j,i=j+1:=⟨i-1,by omega⟩
 rw [AKS (by omega)]
 have:=hp_0 (x:=l) (i:=j) (by omega)
 omega
theorem hp_a {l r:BT}:sub (BT.nd l r).p 1 ((2*l.n+2:Nat)-1:Int)=l.p:=by
 have e:(((2*l.n+2:Nat):Int)-1).toNat=l.p.length+1:=by rw [BT.pl]; omega
 show (List.take (((2*l.n+2:Nat):Int)-1).toNat (BT.nd l r).p).drop (1:Int).toNat=_
 rw [e]
 simp [BT.p]
theorem hp_b {l r:BT} {j:Int} (hj:j=2*(l.n+r.n+1)):sub (BT.nd l r).p ((2*l.n+2:Nat):Int) j=r.p:=by
 have e:(2*l.n+2)=l.p.length+1+1:=by rw [BT.pl]
 have e1:(BT.nd l r).p=(117::l.p++[100])++r.p:=by simp [BT.p]
 have e2:(117::l.p++[100]).length=2*l.n+2:=by simp [BT.pl]
 have e3:j.toNat=(BT.nd l r).p.length:=by rw [BT.pl,BT.n]; omega
 simp only [sub,e3,List.take_length,CB]
 rw [e1,← e2,List.drop_left]
theorem UB [HA K]:∀ {x:BT},x.n≤100000→K 196 [x.d] [.s x.t]
 | .lf,_=>by
  refine AG (f:=IN) rfl ?_; simp only [IN,zu]
  simp only [BT.d,BT.t]
  simp (disch:=first|omega|simp only[vl];omega) only [AA]
 | .nd l r,h=>by
  have h':=h
  simp only [BT.n] at h'
  have k1:=UB (x:=l) (by omega)
  have k2:=UB (x:=r) (by omega)
  have t1:=BT.tl l
  have t2:=BT.tl r
  refine AG (f:=IN) rfl ?_; simp only [IN,zu]
  simp only [BT.d,BT.t]
  simp (disch:=first|omega|simp only[vl];omega) only [AA,BT.Et,Ki]
  refine AE (k1) rfl ?_
  simp (disch:=first|omega|simp only[vl];omega) only [AA,BT.Et]
  refine AE (k2) rfl ?_
  simp (disch:=first|omega|simp only[vl];omega) only [AA]
  simp
theorem AR8 [HA K] {l r:BT} (h:(BT.nd l r).n≤8):K 518 [.s (BT.nd l r).p] [.n (2*l.n+1:Nat)]:=by
 have hd:=ANX h
 have hD:=KO hd
 have hl:=BT.pl (.nd l r)
 simp only [BT.n] at h hl
 have h1:∀ i:Nat,1≤i→i≤2*l.n+1→0<Hh (BT.nd l r).p i:=fun i q1 q2=>AI4 q1 q2
 have h2:=hp_e (l:=l) (r:=r)
 generalize hw:(BT.nd l r).p=w at hd hD hl h1 h2 ⊢
 have h2:Hh w (2*l.n+1+1)=0:=h2
 have hcl:2*l.n+1<w.length:=by omega
 generalize 2*l.n+1=c at h1 h2 hcl ⊢
 refine AG (f:=Kr) rfl ?_; simp only [Kr,zu]
 simp (disch:=omega) only [AA]
 refine B9 (fun (i:Nat)=>i≤c) (fun i=>[.s w,.u,.n (Hh w i),.n i,.u,.u,.u]) (fun i=>c+1-i) 0 (by omega) (by simp [Gu]) ?_
 intro i hi
 have hb:=AQ6 (w:=w) (i:=i)
 have hs:i<w.length:=by omega
 by_cases q:i=c
 ·subst q
  rcases hD.ud _ hs with hu | hu
  ·rw [Hz hs hu] at h2
   have:=h1 i
   by_cases q0:i=0
   ·subst q0; rw [Gu] at h2; omega
   ·have:=h1 i (by omega) (by omega); omega
  ·rw [Gw hs hu] at h2
   simp (disch:=omega) only [AA,hu]
 ·have e1:=h1 (i+1) (by omega) (by omega)
  rcases hD.ud _ hs with hu | hu
  ·rw [Hz hs hu] at e1
   have e2:=Hz hs hu
   simp (disch:=omega) only [AA,hu]
   exact ⟨i+1,by omega,by omega,by rw [e2]; simp⟩
  ·rw [Gw hs hu] at e1
   have e2:=Gw hs hu
   simp (disch:=omega) only [AA,hu]
   exact ⟨i+1,by omega,by omega,by rw [e2]; simp⟩
theorem SJ [HA K]:∀ {x:BT},x.n≤8→K 513 [.s x.p] [.s x.t]
 | .lf,_=>by
  refine AG (f:=Ie) rfl ?_; simp only [Ie,zu]
  simp only [BT.p,BT.t]
  simp (disch:=first|omega|simp only[vl];omega) only [AA]
 | .nd l r,h=>by
  have h':=h
  simp only [BT.n] at h'
  have k1:=SJ (x:=l) (by omega)
  have k2:=SJ (x:=r) (by omega)
  have t1:=BT.tl l
  have t2:=BT.tl r
  have hl:=BT.pl (.nd l r)
  simp only [BT.n] at hl
  have kc:=AR8 (K:=K) h
  have e0:((BT.nd l r).p == [])=false:=by simp [BT.p]
  have ea:=hp_a (l:=l) (r:=r)
  have ea2:sub (BT.nd l r).p 1 ((2*l.n+1:Nat):Int)=l.p:=by rw [← ea]; congr 1; omega
  have eb:=hp_b (l:=l) (r:=r) (j:=((BT.nd l r).p.length:Nat)) (by omega)
  have eb2:sub (BT.nd l r).p (((2*l.n+1:Nat):Int)+1) ((BT.nd l r).p.length:Nat)=r.p:=by rw [← eb]; congr 1
  generalize hw:(BT.nd l r).p=w at kc hl e0 ea2 eb2 ⊢
  have hcl:2*l.n+1<w.length:=by omega
  have hcl2:w.length≤16:=by omega
  have hc1:1≤2*l.n+1:=by omega
  generalize 2*l.n+1=c at kc ea2 eb2 hcl hc1
  refine AG (f:=Ie) rfl ?_; simp only [Ie,zu]
  simp (disch:=first|omega|simp only[vl];omega) only [AA,e0]
  refine AE (kc) rfl ?_
  simp (disch:=first|omega|simp only[vl];omega) only [AA]
  rw [ea2]
  refine AE (k1) rfl ?_
  simp (disch:=first|omega|simp only[vl];omega) only [AA]
  rw [eb2]
  refine AE (k2) rfl ?_
  simp (disch:=first|omega|simp only[vl];omega) only [AA]
  simp [BT.t]
end Go.Cat
namespace Go.Cat
variable {K:Nat→List D→List D→Prop}
def BT.Dc:BT→Bool
 | .lf=>true
 | .nd _ _=>false
theorem BT.nz {x:BT}:Iy x.d=some x.Dc:=by cases x <;> rfl
theorem BT.AQB {x:BT}:x.Dc=decide (x.n=0):=by cases x <;> simp [BT.Dc,BT.n]
theorem BT.isLf_t {x:BT} (h:x.Dc=true):x=.lf:=by cases x <;> simp [BT.Dc] at h ⊢
def C4:BT→Int→Int→List (List Int)
 | .lf,_,_=>[]
 | .nd a b,l,r=>(if a.Dc=true then [] else [[l,l+a.n+1]])++((if b.Dc=true then [] else [[l+a.n+1,r]])++(C4 a l (l+a.n+1)++C4 b (l+a.n+1) r))
def DR:BT→Int→Int→List (List Int)
 | .lf,_,_=>[]
 | .nd a b,l,r=>[[l,l+a.n+1,r]]++(DR a l (l+a.n+1)++DR b (l+a.n+1) r)
theorem TZ:∀ {x:BT} {l r:Int},(C4 x l r).length≤2*x.n
 | .lf,_,_=>by simp [C4]
 | .nd a b,l,r=>by
  have h1:=TZ (x:=a) (l:=l) (r:=l+a.n+1)
  have h2:=TZ (x:=b) (l:=l+a.n+1) (r:=r)
  simp only [C4,Ad,BT.n]
  have:(if a.Dc=true then [] else [[l,l+(a.n:Int)+1]]).length≤1:=by split <;> simp
  have:(if b.Dc=true then [] else [[l+(a.n:Int)+1,r]]).length≤1:=by split <;> simp
  omega
theorem Q0:∀ {x:BT} {l r:Int},(C4 x l r).length≤x.n-1
 | .lf,_,_=>by simp [C4]
 | .nd a b,l,r=>by
  have h1:=Q0 (x:=a) (l:=l) (r:=l+a.n+1)
  have h2:=Q0 (x:=b) (l:=l+a.n+1) (r:=r)
  simp only [C4,Ad,BT.n,BT.AQB,Aj]
  have e1:(if a.n=0 then [] else [[l,l+(a.n:Int)+1]]).length=if a.n=0 then 0 else 1:=by split <;> rfl
  have e2:(if b.n=0 then [] else [[l+(a.n:Int)+1,r]]).length=if b.n=0 then 0 else 1:=by split <;> rfl
  rw [e1,e2]
  split <;> split <;> omega
theorem OL:∀ {x:BT} {l r:Int},(DR x l r).length=x.n
 | .lf,_,_=>rfl
 | .nd a b,l,r=>by
  simp only [DR,Ad,BT.n,A6,Aq,OL]; omega
theorem Tz:∀ {x:BT} {l r:Int},∀ z∈C4 x l r,Bl z
 | .lf,_,_,z,h=>by simp [C4] at h
 | .nd a b,l,r,z,h=>by
  simp only [C4,A8] at h
  rcases h with h | h | h | h
  ·split at h
   ·cases h
   ·simp at h; subst h; rfl
  ·split at h
   ·cases h
   ·simp at h; subst h; rfl
  ·exact Tz z h
  ·exact Tz z h
theorem b_tf:(true == false)=false:=rfl
theorem Jd {a b:List (List Int)} (h:a.length+b.length≤1099511627776):DQ false (LL a) (LL b)=some (LL (a++b)):=Kk ⟨h,rfl⟩
theorem QV [HA K]:∀ {x:BT} {l r:Int} {c s:List (List Int)},x.n≤1000→0≤l→l+x.n≤100000→r=l+x.n+1→c.length+x.n≤1000000→s.length+2*x.n≤1000000→
  K 541 [x.d,.n l,.n r,LL c,LL s] [LL (c++DR x l r),LL (s++C4 x l r)]
 | .lf,l,r,c,s,_,_,_,_,_,_=>by
  refine AG (f:=JF) rfl ?_; simp only [JF,zu]
  simp only [BT.d,DR,C4,List.append_nil]
  simp (disch:=first|omega|simp only[vl];omega) only [AA]
 | .nd a b,l,r,c,s,h,h0,h1,hr,hc,hs=>by
  simp only [BT.n] at h h1 hr hc hs
  have l1:=OL (x:=a) (l:=l) (r:=l+a.n+1)
  have l2:=TZ (x:=a) (l:=l) (r:=l+a.n+1)
  have kn:=JC (K:=K) a (by omega)
  refine AG (f:=JF) rfl ?_; simp only [JF,zu]
  simp only [BT.d]
  simp (disch:=first|omega|simp only[vl];omega) only [AA,BT.Et,Ki]
  refine AE (kn) rfl ?_
  simp (disch:=first|omega|simp only[vl];omega) only [AA,RL,J4,Jd]
  have ea:(l+(a.n:Int)+1)=l+a.n+1:=rfl
  have ka:=fun (s':List (List Int)) (hs':s'.length≤s.length+2)=>QV (x:=a) (l:=l) (r:=l+a.n+1) (c:=c++[[l,l+(a.n:Int)+1,r]]) (s:=s') (by omega) h0 (by omega) rfl (by simp; omega) (by omega)
  have kb:=fun (s':List (List Int)) (hs':s'.length≤s.length+2+2*a.n)=>QV (x:=b) (l:=l+a.n+1) (r:=r) (c:=(c++[[l,l+(a.n:Int)+1,r]])++DR a l (l+a.n+1)) (s:=s') (by omega) (by omega) (by omega) (by omega) (by simp; omega) (by omega)
  cases hla:a.Dc <;> cases hlb:b.Dc
  all_goals
   simp (disch:=first|omega|simp only[vl];omega) only [AA,BT.Et,BT.nz,hla,hlb,Ki,b_tf,Mh,J4,Jd]
   refine AE (ka _ (by first | omega | (simp only [Ad,A6,Aq]; omega))) rfl ?_
   simp (disch:=first|omega|simp only[vl];omega) only [AA,BT.Et]
   refine AE (kb _ (by first | omega | (simp only [Ad,A6,Aq]; omega))) rfl ?_
   simp (disch:=first|omega|simp only[vl];omega) only [AA]
   refine D2 ?_ ?_
   ·simp [DR]
   ·simp [C4,hla,hlb]
end Go.Cat
