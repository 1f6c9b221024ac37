/-
 A claim that one tree lies below another, on both sides.
-/
import Derived.Test.YtnjjceodpbhlmaaGreatPfWayM
import Derived.Test.YtnjjceodpbhlmaaGreatPfOrdM
import Derived.Test.YtnjjceodpbhlmaaGreatPfWayD
import Derived.Test.YtnjjceodpbhlmaaGreatIrHas
set_option linter.unusedSimpArgs false
set_option linter.unusedVariables false
namespace Go.Cat
variable {K:Nat→List D→List D→Prop}
def NL (x y:BT):Option BT:=(CV BB x x.n).find? fun z=>Er z y
theorem S6 {x z:BT} (h:z∈CV BB x x.n):∃ v:Nat,v<x.n∧BB x (v:Nat)=some z:=by
 simp only [CV,List.mem_filterMap,List.mem_range] at h
 exact h
theorem SZ {x y:BT} (h:C9 x y) (hne:x≠y):∃ z,NL x y=some z∧C9 z y∧x.w.sum<z.w.sum∧z.n=x.n:=by
 obtain ⟨v,z,hv,hz,hl⟩:=Vo h (fun e=>hne (PU e))
 have hs:(NL x y).isSome=true:=by
  simp only [NL,List.find?_isSome]
  exact ⟨z,by simp only [CV,List.mem_filterMap,List.mem_range]; exact ⟨v,hv,hz⟩,FL.2 hl⟩
 obtain ⟨u,hu⟩:=Option.isSome_iff_exists.1 hs
 have h1:=List.find?_some hu
 obtain ⟨k,hk,hk2⟩:=S6 (List.mem_of_find?_eq_some hu)
 exact ⟨u,hu,FL.1 h1,ZT hk hk2,Dx hk2⟩
def Bb (y:BT):Nat→BT→List BT
 | 0,_=>[]
 | k+1,x=>if x.t=y.t then [] else match NL x y with
  | none=>[]
  | some z=>z::Bb y k z
theorem V7 {y:BT}:∀ {k:Nat} {x:BT},(Bb y k x).length≤k
 | 0,x=>by simp [Bb]
 | k+1,x=>by
  simp only [Bb]
  split
  ·simp
  ·split
   ·simp
   ·rename_i z _
    have:=V7 (y:=y) (k:=k) (x:=z)
    simp only [A6]; omega
theorem S9 {y z:BT} {k:Nat} (h:z.t=y.t):Bb y k z=[]:=by
 cases k with
 | zero=>rfl
 | succ k=>simp only [Bb,if_pos h]
theorem AM5 {l:List BT} {i:Nat} (h:i<l.length):AL (l.map BT.t) (i:Nat)=(l[i]).t:=by
 simp [AL,h]
abbrev ocC (x y:BT):D:=.g [.n 1,.s x.t,.s y.t,LS (x.t::(Bb y 64 x).map BT.t),.l [],.l [],.l []]
abbrev Pa:D:=.g [.n 0,.s [],.s [],.l [],.l [],.l [],.l []]
theorem XS {x:List (List Nat)}:BH 1 (LS x,1)=true:=by simp [BH,LS,D.one,Be,D.flat]
theorem ACO:BH 1 (.l [],1)=true:=by simp [BH,D.one,Be,D.flat]
theorem AIL [HA K] [CZ K] {x y:BT} (hx:x.n≤8) (hy:y.n≤8) (h:C9 x y):K 340 [.s x.t,.s y.t] [ocC x y,.b true]:=by
 have k1:=QU (K:=K) hx hy
 rw [FL.2 h] at k1
 have wx:=Ml hx
 have wy:=Ml hy
 refine AG (f:=Iv) rfl ?_; simp only [Iv,zu]
 simp (disch:=first|omega|simp only[vl];omega) only [AA]
 refine AE (k1) rfl ?_
 simp (disch:=first|omega|simp only[vl];omega) only [AA]
 refine B9 (fun (s:Nat×BT×List (List Nat))=>C9 s.2.1 y∧s.2.1.n=x.n∧y.w.sum-s.2.1.w.sum≤s.1∧s.2.2.length+s.1≤65∧s.2.2++(Bb y s.1 s.2.1).map BT.t=x.t::(Bb y 64 x).map BT.t) (fun s=>[.u,.s y.t,Pa,.u,.g [.n 1,.s x.t,.s y.t,LS s.2.2,.l [],.l [],.l []],.s s.2.1.t,.u,.u,.u,.u,.u,.u,.u,.u]) (fun s=>s.1) (64,x,[x.t]) ⟨h,rfl,by show y.w.sum-x.w.sum≤64; omega,by simp,rfl⟩ rfl ?_
 rintro ⟨k,z,acc⟩ ⟨g1,g2,g3,g4,g5⟩
 simp only at g1 g2 g3 g4 g5 ⊢
 by_cases q:z.t=y.t
 ·rw [S9 q,List.map_nil,List.append_nil] at g5
  have eb:(z.t == y.t)=true:=by rw [beq_iff_eq]; exact q
  simp (disch:=first|omega|simp only[vl];omega) only [AA,AU,AV,A4,Ah,XS,ACO,eb]
  rw [g5]
 ·obtain ⟨w,e1,e2,e3,e4⟩:=SZ g1 (fun e=>q (by rw [e]))
  have e5:=Mf e2
  have eb:(z.t == y.t)=false:=by rw [beq_eq_false_iff_ne]; exact q
  cases k with
  | zero=>omega
  | succ k=>
   have e6:Bb y (k+1) z=w::Bb y k w:=by simp only [Bb,if_neg q,e1]
   rw [e6] at g5
   obtain ⟨pw,i0,hi0,ei0,hlt⟩:=List.find?_eq_some_iff_getElem.1 e1
   have hl:=Fj (f:=BB) (x:=z) (k:=z.n)
   simp (disch:=first|omega|simp only[vl];omega) only [AA,eb]
   refine AE (AAD (K:=K) (x:=z) (by omega)) rfl ?_
   simp (disch:=first|omega|simp only[vl];omega) only [AA]
   refine Ag (fun i=>i≤i0) (fun i=>[.u,.s y.t,Pa,.u,.g [.n 1,.s x.t,.s y.t,LS acc,.l [],.l [],.l []],.s z.t,.u,.u,.u,G8 (CV BB z z.n),.n (CV BB z z.n).length,.n i,.u,.u]) (CV BB z z.n).length (Nat.zero_le _) (by simp) (fun i hi hP=>?_) (fun hP=>by omega)
   have ea:=AM5 hi
   obtain ⟨v,hv,hz⟩:=S6 (List.getElem_mem hi)
   have en:=Dx hz
   have k2:=QU (K:=K) (x:=(CV BB z z.n)[i]) (y:=y) (by omega) hy
   by_cases qi:i=i0
   ·subst qi
    rw [ei0] at ea k2
    rw [pw] at k2
    simp (disch:=first|omega|simp only[vl];omega) only [AA,ea]
    refine AE (k2) rfl ?_
    simp (disch:=first|omega|simp only[vl];omega) only [AA,AU,AV,A4,Ah,AI2,R2,Qu,Option.map_some,List.set]
    exact ⟨(k,w,acc++[w.t]),by simp,⟨e2,by simp only; omega,by simp only; omega,by simp; omega,by simp only; rw [← g5]; simp⟩,rfl⟩
   ·have:=hlt i (by omega)
    have this2:Er (CV BB z z.n)[i] y=false:=by simpa using this
    rw [this2] at k2
    simp (disch:=first|omega|simp only[vl];omega) only [AA,ea]
    refine AE (k2) rfl ?_
    simp (disch:=first|omega|simp only[vl];omega) only [AA]
    omega
def J6 (x:BT) (i:Nat):List BT:=(List.range' (x.n-i) i).filterMap fun j:Nat=>BB x j
theorem ALO {x:BT}:J6 x x.n=CV BB x x.n:=by
 simp only [J6,CV,Nat.sub_self,List.range_eq_range']
theorem AJH {x:BT} {i:Nat} (h:i<x.n):J6 x (i+1)=(BB x ((x.n-1-i:Nat):Int)).toList++J6 x i:=by
 simp only [J6]
 rw [show x.n-(i+1)=x.n-1-i by omega,List.range'_succ,show x.n-1-i+1=x.n-i by omega,List.filterMap_cons]
 cases BB x ((x.n-1-i:Nat):Int) <;> simp
theorem ANC [HA K] {x y:BT} (hx:x.n≤8) (hy:y.n≤8) (h:C9 x y):K 339 [.s x.t,.s y.t] [ocC x y,.b true]:=by
 have k1:=L0 (K:=K) hx hy
 rw [FL.2 h] at k1
 have wx:=Ml hx
 have wy:=Ml hy
 refine AG (f:=Hu) rfl ?_; simp only [Hu,zu]
 simp (disch:=first|omega|simp only[vl];omega) only [AA]
 refine AE (k1) rfl ?_
 simp (disch:=first|omega|simp only[vl];omega) only [AA]
 refine B9 (fun (s:Nat×BT×List (List Nat))=>C9 s.2.1 y∧s.2.1.n=x.n∧y.w.sum-s.2.1.w.sum≤s.1∧s.2.2.length+s.1≤65∧s.2.2++(Bb y s.1 s.2.1).map BT.t=x.t::(Bb y 64 x).map BT.t) (fun s=>[.s x.t,.s y.t,Pa,.u,LS s.2.2,.s s.2.1.t,.u,.u,.u,.u,.u,.u,.u,.u]) (fun s=>s.1) (64,x,[x.t]) ⟨h,rfl,by show y.w.sum-x.w.sum≤64; omega,by simp,rfl⟩ rfl ?_
 rintro ⟨k,z,acc⟩ ⟨g1,g2,g3,g4,g5⟩
 simp only at g1 g2 g3 g4 g5 ⊢
 by_cases q:z.t=y.t
 ·rw [S9 q,List.map_nil,List.append_nil] at g5
  have eb:(z.t == y.t)=true:=by rw [beq_iff_eq]; exact q
  simp (disch:=first|omega|simp only[vl];omega) only [AA,AU,AV,A4,Ah,XS,ACO,eb]
  rw [g5]
 ·obtain ⟨w,e1,e2,e3,e4⟩:=SZ g1 (fun e=>q (by rw [e]))
  have e5:=Mf e2
  have eb:(z.t == y.t)=false:=by rw [beq_eq_false_iff_ne]; exact q
  cases k with
  | zero=>omega
  | succ k=>
   have e6:Bb y (k+1) z=w::Bb y k w:=by simp only [Bb,if_neg q,e1]
   rw [e6] at g5
   simp (disch:=first|omega|simp only[vl];omega) only [AA,eb]
   refine AE (Ef (K:=K) (x:=z) (by omega)) rfl ?_
   simp (disch:=first|omega|simp only[vl];omega) only [AA]
   refine CK (fun i (r:List Nat)=>r=(((J6 z i).find? fun u=>Er u y).map BT.t).getD []) (fun i r=>[.s x.t,.s y.t,Pa,.u,LS acc,.s z.t,.s r,.n ((z.n:Int)-1-i),.u,.u,.u,.u,.u,.u]) z.n [] rfl (by simp) (fun i r hi hP=>?_) (fun r hP=>?_)
   ·have ev:(z.n:Int)-1-i=((z.n-1-i:Nat):Int):=by omega
    have hs:=AJH hi
    simp (disch:=first|omega|simp only[vl];omega) only [AA]
    have kr:=T0 (K:=K) (x:=z) (v:=(z.n:Int)-1-i) (by omega) (by omega)
    have er:BB z ((z.n:Int)-1-i)=BB z ((z.n-1-i:Nat):Int):=by rw [ev]
    rw [Iu,er] at kr
    refine AE (kr) rfl ?_
    cases hu:BB z ((z.n-1-i:Nat):Int) with
    | none=>
     rw [hu] at hs
     simp only [Option.isSome_none,Option.elim_none]
     simp (disch:=first|omega|simp only[vl];omega) only [AA]
     refine ⟨r,?_,by simp; omega⟩
     rw [hP,hs]; simp
    | some u=>
     rw [hu] at hs
     have un:=Dx hu
     simp only [Option.isSome_some,Option.elim_some]
     simp (disch:=first|omega|simp only[vl];omega) only [AA]
     refine AE (L0 (K:=K) (x:=u) (y:=y) (by omega) hy) rfl ?_
     cases hb:Er u y with
     | false=>
      simp (disch:=first|omega|simp only[vl];omega) only [AA]
      refine ⟨r,?_,by simp; omega⟩
      rw [hP,hs]; simp [hb]
     | true=>
      simp (disch:=first|omega|simp only[vl];omega) only [AA]
      refine ⟨u.t,?_,by simp; omega⟩
      rw [hs]; simp [hb]
   ·rw [ALO] at hP
    have e1':=e1
    simp only [NL] at e1'
    rw [e1'] at hP
    simp only [Option.map_some,Option.getD_some] at hP
    subst hP
    simp (disch:=first|omega|simp only[vl];omega) only [AA,Ah]
    exact ⟨(k,w,acc++[w.t]),by simp,⟨e2,by simp only; omega,by simp only; omega,by simp; omega,by simp only; rw [← g5]; simp⟩,rfl⟩
end Go.Cat
namespace Go.Cat
variable {K:Nat→List D→List D→Prop}
theorem UT [HA K] (a b:List Nat):∃ r,K 350 [.s a,.s b] [.b r]∧K 349 [.s a,.s b] [.b r]∧(r=true→∃ x y:BT,a=x.t∧b=y.t∧x.n≤8∧y.n≤8∧C9 x y):=by
 cases ha:BU a with
 | false=>
  refine ⟨false,?_,?_,by simp⟩
  ·refine AG (f:=GW) rfl ?_; simp only [GW,zu]
   simp (disch:=first|omega|simp only[vl];omega) only [AA]
   refine AE (AIF (K:=K) (a:=a) (b:=b) (m:=8) ha) rfl ?_
   simp (disch:=first|omega|simp only[vl];omega) only [AA]
  ·refine AG (f:=G0) rfl ?_; simp only [G0,zu]
   simp (disch:=first|omega|simp only[vl];omega) only [AA]
   refine AE (SQ (K:=K) (a:=a) (b:=b) ha) rfl ?_
   simp (disch:=first|omega|simp only[vl];omega) only [AA]
 | true=>
  obtain ⟨x,rfl,hx⟩:=Ek ha
  cases hb:BU b with
  | false=>
   refine ⟨false,?_,?_,by simp⟩
   ·refine AG (f:=GW) rfl ?_; simp only [GW,zu]
    simp (disch:=first|omega|simp only[vl];omega) only [AA]
    refine AE (ASD (K:=K) (x:=x) (b:=b) hx hb) rfl ?_
    simp (disch:=first|omega|simp only[vl];omega) only [AA]
   ·refine AG (f:=G0) rfl ?_; simp only [G0,zu]
    simp (disch:=first|omega|simp only[vl];omega) only [AA]
    refine AE (R6 (K:=K) (x:=x) (b:=b) hx hb) rfl ?_
    simp (disch:=first|omega|simp only[vl];omega) only [AA]
  | true=>
   obtain ⟨y,rfl,hy⟩:=Ek hb
   exact ⟨Er x y,QU hx hy,L0 hx hy,fun h=>⟨x,y,rfl,rfl,hx,hy,FL.1 h⟩⟩
end Go.Cat
