/-
 Quiddities of the reference, and the triangulations of both.
-/
import Derived.Test.YtnjjceodpbhlmaaGreatPfFrzL
import Derived.Test.YtnjjceodpbhlmaaGreatPfTri2
import Derived.Test.YtnjjceodpbhlmaaGreatIrHas
set_option linter.unusedSimpArgs false
set_option linter.unusedVariables false
namespace Go.Cat
variable {K:Nat→List D→List D→Prop}
theorem ZZ {n j:Nat} (hn:3≤n) (hj:j<n):BM n j≠Ax n j:=by
 unfold BM Ax
 rcases CC (j+1) n with h | h
 ·rw [Nat.mod_eq_of_lt h]
  cases j with
  | zero=>rw [Nat.mod_eq_of_lt (by omega)]; omega
  | succ j=>rw [show j+1+n-1=j+n by omega,Nat.add_mod_right,Nat.mod_eq_of_lt (by omega)]; omega
 ·obtain rfl:n=j+1:=by omega
  rw [Nat.mod_self,show j+(j+1)-1=j-1+(j+1) by omega,Nat.add_mod_right,Nat.mod_eq_of_lt (by omega)]; omega
def EJ (l:List Int) (j:Nat):List Int:=Aw (Aw l (Ax l.length j:Nat) (AD l (Ax l.length j:Nat)-1)) (BM l.length j:Nat) (AD (Aw l (Ax l.length j:Nat) (AD l (Ax l.length j:Nat)-1)) (BM l.length j:Nat)-1)
theorem ASK {l:List Int} {j:Nat} (hl:3≤l.length) (hj:j<l.length):EJ l j=EB l j:=by
 have a:BM l.length j<l.length:=Nat.mod_lt _ (by omega)
 have b:Ax l.length j<l.length:=Nat.mod_lt _ (by omega)
 have c:=ZZ hl hj
 rw [EJ,EB,Hk b,Hk a,if_neg c,if_neg (Ne.symm c)]
 simp only [Aw,CB]
 exact List.set_comm _ _ (Ne.symm c)
theorem VP {l:List Int} {j:Nat} (hl:3≤l.length) (hj:j<l.length):Dy (EJ l j) j=Cl l j:=by rw [ASK hl hj]; rfl
def Kv (l:List Int) (k:Nat) (at_:Int):Prop:=(at_=-1∧∀ j:Nat,k≤j→j<l.length→AD l j≠1)∨∃ t:Nat,at_=t∧k≤t∧t<l.length∧AD l t=1∧∀ j:Nat,k≤j→j<t→AD l j≠1
theorem AIQ {l:List Int} {at_:Int} (h:Kv l 0 at_):at_=if AM l<l.length then (AM l:Int) else -1:=by
 rcases h with ⟨rfl,h⟩ | ⟨t,rfl,_,h2,h3,h4⟩
 ·have:=Ty (l:=l) (i:=l.length) (fun j hj=>h j (Nat.zero_le _) hj) (Nat.le_refl _)
  rw [if_neg (by omega)]
 ·have:=V4 (l:=l) (i:=t) (fun j hj=>h4 j (Nat.zero_le _) hj) h2 h3
  rw [this,if_pos h2]
theorem ALN {l:List Int} {k:Nat} {at_:Int} (hk:k<l.length) (h1:AD l k=1):Kv l k (k:Int):=.inr ⟨k,rfl,Nat.le_refl _,hk,h1,fun j a b=>by omega⟩
theorem AGS {l:List Int} {k:Nat} {at_:Int} (h:Kv l (k+1) at_) (h1:AD l k≠1):Kv l k at_:=by
 have e:∀ j:Nat,k≤j→k+1≤j∨j=k:=fun j hj=>by omega
 rcases h with ⟨rfl,h⟩ | ⟨t,rfl,g1,g2,g3,g4⟩
 ·refine .inl ⟨rfl,fun j a b=>?_⟩
  rcases e j a with q | rfl
  ·exact h j q b
  ·exact h1
 ·refine .inr ⟨t,rfl,by omega,g2,g3,fun j a b=>?_⟩
  rcases e j a with q | rfl
  ·exact g4 j q b
  ·exact h1
theorem Zi {p:List Int} (h:p.length≤1048576):DQ false (.l []) (LI p)=some (LI p):=I6 (zs:=[]) (by simp; omega)
theorem Rx {l:List Int} {j:Nat} (h:j<l.length):sub l 0 (j:Int)++sub l ((j:Int)+1) (l.length:Int)=Dy l j:=by
 simp only [sub,Dy,CB,Int.toNat_zero,List.drop_zero,List.take_length]
 rw [show ((j:Int)+1).toNat=j+1 by omega]
theorem UE {l:List Int} {j:Nat} (h:j<l.length):(sub l 0 (j:Int)).length=j:=by simp [sub]; omega
theorem Rq {l:List Int} {j:Nat} (h:j<l.length):(sub l ((j:Int)+1) (l.length:Int)).length=l.length-(j+1):=by
 simp only [sub,CB,List.take_length]
 rw [show ((j:Int)+1).toNat=j+1 by omega,List.length_drop]
theorem Tg {q:List Int} (h:D9 q=true):C5 (BZ q)=Dk (q.length-3) q:=by rw [BZ,if_pos h,ZI]
theorem OD {q:List Int} (h:D9 q=false):C5 (BZ q)=false:=by rw [BZ,if_neg (by simp [h])]; rfl
theorem len3 {l:List Int} (h:l.length=3):∃ a b c,l=[a,b,c]:=by
 match l,h with
 | [a,b,c],_=>exact ⟨a,b,c,rfl⟩
theorem YE [HA K] {q:List Int} (h:q.length≤1048576):K 361 [LI q] [.b (C5 (BZ q))]:=by
 refine AG (f:=N3) rfl ?_; simp only [N3,zu]
 simp (disch:=omega) only [AA]
 refine AE (AOV (K:=K) h) rfl ?_
 cases hz:D9 q
 ·rw [OD hz]
  simp (disch:=omega) only [AA]
 ·rw [Tg hz]
  obtain ⟨z1,z2,z3⟩:=JZ.1 hz
  simp (disch:=omega) only [AA,U9]
  refine B9 (fun (x:Nat×List Int)=>x.2.length=x.1+3∧x.1≤7∧(∀ y∈x.2,(x.1:Int)-10≤y∧y≤100)∧Dk x.1 x.2=Dk (q.length-3) q)
   (fun x=>[.u,.u,LI x.2,.u,.u,.u,.u,.u,.u,.u,.u]) (fun x=>x.1) (q.length-3,q) ⟨by simp only; omega,by simp only; omega,fun y hy=>by have:=z1 y hy; simp only; omega,rfl⟩ rfl ?_
  rintro ⟨f,l⟩ ⟨g1,g3,g4,g6⟩
  simp only at g1 g3 g4 g6 ⊢
  cases f with
  | zero=>
   simp only [Dk] at g6
   rw [← g6]
   obtain ⟨a,b,c,rfl⟩:=len3 g1
   have e0:AD [a,b,c] 0=a:=rfl
   have e1:AD [a,b,c] 1=b:=rfl
   have e2:AD [a,b,c] 2=c:=rfl
   by_cases h1:a=1
   ·by_cases h2:b=1
    ·by_cases h3:c=1
     ·simp (disch:=omega) only [AA,e0,e1,e2]
      simp [h1,h2,h3]
     ·simp (disch:=omega) only [AA,e0,e1,e2]
      simp [h1,h2,h3]
    ·simp (disch:=omega) only [AA,e0,e1,e2]
     simp [h1,h2]
   ·simp (disch:=omega) only [AA,e0,e1,e2]
    simp [h1]
  | succ f=>
   simp (disch:=omega) only [AA]
   refine B9 (fun (x:Nat×Int)=>x.1≤l.length∧Kv l x.1 x.2) (fun x=>[.u,.u,LI l,.n x.2,.n ((x.1:Int)-1),.u,.u,.u,.u,.u,.u]) (fun x=>x.1) (l.length,-1) ⟨Nat.le_refl _,.inl ⟨rfl,fun j a b=>by omega⟩⟩ rfl ?_
   rintro ⟨k,at_⟩ ⟨k1,k2⟩
   simp only at k1 k2 ⊢
   cases k with
   | zero=>
    have k3:=AIQ k2
    simp (disch:=omega) only [AA]
    by_cases hj:AM l<l.length
    ·rw [if_pos hj] at k3
     subst k3
     have e1:((AM l:Int)+l.length-1) % (l.length:Int)=(BM l.length (AM l):Nat):=by
      rw [show (AM l:Int)+l.length-1=((AM l+l.length-1:Nat):Int) by omega]; simp [BM,Int.natCast_emod]
     have e2:((AM l:Int)+1) % (l.length:Int)=(Ax l.length (AM l):Nat):=by simp [Ax,Int.natCast_emod]
     have p1:BM l.length (AM l)<l.length:=Nat.mod_lt _ (by omega)
     have p2:Ax l.length (AM l)<l.length:=Nat.mod_lt _ (by omega)
     have m1:=g4 _ (Jg p2)
     have p3:BM l.length (AM l)<(Aw l (Ax l.length (AM l):Nat) (AD l (Ax l.length (AM l):Nat)-1)).length:=by rw [Eu]; exact p1
     have m2:(f:Int)-10≤AD (Aw l (Ax l.length (AM l):Nat) (AD l (Ax l.length (AM l):Nat)-1)) (BM l.length (AM l):Nat)∧AD (Aw l (Ax l.length (AM l):Nat) (AD l (Ax l.length (AM l):Nat)-1)) (BM l.length (AM l):Nat)≤100:=by
      rcases Rn (Jg p3) with q | q
      ·rw [q]; omega
      ·have:=g4 _ q; omega
     have hd:Aw (Aw l (Ax l.length (AM l):Nat) (AD l (Ax l.length (AM l):Nat)-1)) (BM l.length (AM l):Nat) (AD (Aw l (Ax l.length (AM l):Nat) (AD l (Ax l.length (AM l):Nat)-1)) (BM l.length (AM l):Nat)-1)=EJ l (AM l):=rfl
     have hdl:(EJ l (AM l)).length=l.length:=by simp [EJ,Aw]
     have s1:=UE (l:=EJ l (AM l)) (j:=AM l) (by omega)
     have s2:=Rq (l:=EJ l (AM l)) (j:=AM l) (by omega)
     have s3:=Rx (l:=EJ l (AM l)) (j:=AM l) (by omega)
     have s4:=VP (l:=l) (j:=AM l) (by omega) hj
     rw [hdl] at s2 s3
     simp (disch:=omega) only [AA,e1,e2,Eu,hd,hdl,Zi]
     trace_state
     have k1:(Cl l (AM l)).length=f+3:=by rw [Pu hj]; omega
     have k3:Dk f (Cl l (AM l))=Dk (q.length-3) q:=by
      rw [← g6,Dk,decide_eq_true hj,Bool.true_and]
     refine ⟨(f,Cl l (AM l)),by simp,⟨k1,by simp only; omega,?_,k3⟩,?_⟩
     ·exact QY (by omega) hj fun x hx=>by have:=g4 x hx; omega
     ·rw [s3,s4]
    ·rw [if_neg hj] at k3
     subst k3
     simp (disch:=omega) only [AA]
     rw [← g6,Dk,decide_eq_false hj,Bool.false_and]
   | succ k=>
    have e3:((k:Int)+1-1)=(k:Int):=by omega
    by_cases h1:AD l k=1
    ·simp (disch:=omega) only [AA,e3]
     exact ⟨(k,(k:Int)),by simp,⟨by simp only; omega,ALN (at_:=0) (by omega) h1⟩,rfl⟩
    ·simp (disch:=omega) only [AA,e3]
     exact ⟨(k,at_),by simp,⟨by simp only; omega,AGS k2 h1⟩,rfl⟩
end Go.Cat
namespace Go.Cat
variable {K:Nat→List D→List D→Prop}
theorem Sj {n:Nat} {c:List Int} {j:Nat}:Bl (GZ n c j):=rfl
theorem S7:∀ {f:Nat} {l c:List Int} {o:List (List Int)} {x:List (List Int)×List Int},DB f l c o=some x→x.1.length=o.length+f∧((∀ y∈o,Bl y)→∀ y∈x.1,Bl y)
 | 0,l,c,o,x=>fun h=>by
  simp only [DB,AJ] at h
  subst h
  exact ⟨rfl,fun h=>h⟩
 | f+1,l,c,o,x=>fun h=>by
  simp only [DB] at h
  split at h
  ·obtain ⟨h1,h2⟩:=S7 h
   refine ⟨by rw [h1,Ad]; simp only [A6,Aq]; omega,fun ho=>h2 fun y hy=>?_⟩
   rcases A8.1 hy with q | q
   ·exact ho y q
   ·rw [List.mem_singleton.1 q]; exact Sj
  ·cases h
theorem ACE {q:List Int}:(Ex (BZ q)).length≤7∧∀ y∈Ex (BZ q),Bl y:=by
 unfold BZ
 split
 ·rename_i h
  obtain ⟨_,z2,z3⟩:=JZ.1 h
  cases hx:DB (q.length-3) q (Dz q.length) [] with
  | none=>simp [Ex]
  | some x=>
   obtain ⟨h1,h2⟩:=S7 hx
   simp only [Ex]
   exact ⟨by rw [h1]; simp only [Aq]; omega,h2 (by simp)⟩
 ·simp [Ex]
def D7 (q:List Int):List (List Int):=if C5 (BZ q)=true then Ct (Ex (BZ q)) else []
theorem AHH [HA K] [HH K] {q:List Int} (h:q.length≤1048576):K 346 [LI q] [LL (D7 q),.b (C5 (BZ q))]:=by
 obtain ⟨r1,r2⟩:=ACE (q:=q)
 refine AG (f:=NX) rfl ?_; simp only [NX,zu]
 simp (disch:=omega) only [AA]
 refine AE (AKP (K:=K) h) rfl ?_
 cases hb:C5 (BZ q)
 ·simp (disch:=omega) only [AA]
  simp [D7,hb,LL]
 ·simp (disch:=omega) only [AA]
  refine AE (AKZ (K:=K) (d:=Ex (BZ q)) (by omega) r2) rfl ?_
  simp (disch:=omega) only [AA]
  simp [D7,hb]
theorem Vl {d:List (List Int)} (h:∀ y∈d,Bl y):∀ y∈Ct d,Bl y:=by
 have key:∀ (n:Nat) (d:List (List Int)),d.length=n→(∀ y∈d,Bl y)→∀ y∈Ct d,Bl y:=by
  intro n
  induction n with
  | zero=>
   intro d hd _ y hy
   rw [List.length_eq_zero_iff.1 hd] at hy
   simp [Ct,Gy] at hy
  | succ n ih=>
   intro d hd hr y hy
   obtain ⟨e,x,rfl⟩:∃ e x,d=e++[x]:=⟨d.dropLast,d.getLast (by rintro rfl; simp at hd),(List.dropLast_concat_getLast _).symm⟩
   rw [AFQ,List.mem_reverse] at hy
   rcases PL.1 hy with q | q
   ·rw [q]; exact hr x (by simp)
   ·exact ih e (by simpa using hd) (fun z hz=>hr z (by simp [hz])) y (List.mem_reverse.1 q)
 exact key _ d rfl h
theorem AM4 {l:List Int} {k:Nat} (h:k<AM l):AD l k≠1:=by
 intro h1
 have hl:k<l.length:=Nat.lt_of_lt_of_le h List.findIdx_le_length
 have:=List.not_of_lt_findIdx h
 have e:l[k]'hl=AD l k:=by simp [AD,hl]
 rw [e,h1] at this
 cases this
theorem ASB [HA K] {q:List Int} (h:q.length≤1048576):K 345 [LI q] [LL (D7 q),.b (C5 (BZ q))]:=by
 refine AG (f:=Mz) rfl ?_; simp only [Mz,zu]
 simp (disch:=first|omega|simp only[vl];omega) only [AA]
 refine AE (YE (K:=K) h) rfl ?_
 cases hb:C5 (BZ q)
 ·simp (disch:=first|omega|simp only[vl];omega) only [AA]
  simp [D7,hb,LL]
 have hz:D9 q=true:=by
  cases hz:D9 q with
  | true=>rfl
  | false=>rw [OD hz] at hb; cases hb
 obtain ⟨z1,z2,z3⟩:=JZ.1 hz
 have eR:BZ q=DB (q.length-3) q (Dz q.length) []:=by rw [BZ,if_pos hz]
 have hq0:Dk (q.length-3) q=true:=by rw [← Tg hz]; exact hb
 simp (disch:=first|omega|simp only[vl];omega) only [AA,U9]
 refine CK (fun i (r:List Int)=>r=Dz i) (fun i r=>[LI q,.u,.u,.l [],LI q,LI r,.n i,.u,.u,.u,.u,.u,.u,.u,.u]) q.length [] rfl rfl (fun i r hi hP=>?_) (fun r hP=>?_)
 ·have hr:r.length=i:=by rw [hP]; simp [Dz]
  simp (disch:=first|omega|simp only[vl];omega) only [AA]
  refine ⟨_,?_,rfl⟩
  rw [hP,Dz,Dz,Y3]
 subst hP
 simp (disch:=first|omega|simp only[vl];omega) only [AA]
 refine B9 (fun (x:(Nat×List Int×List Int×List (List Int))×D×D)=>x.1.2.1.length=x.1.1+3∧x.1.2.2.1.length=x.1.1+3∧x.1.1≤7∧(∀ y∈x.1.2.1,(x.1.1:Int)-10≤y∧y≤100)∧x.1.2.2.2.length+x.1.1≤7∧(∀ y∈x.1.2.2.2,Bl y)∧Dk x.1.1 x.1.2.1=true∧DB x.1.1 x.1.2.1 x.1.2.2.1 x.1.2.2.2=BZ q)
  (fun x=>[x.2.1,.u,.u,LL (Ct x.1.2.2.2),LI x.1.2.1,LI x.1.2.2.1,x.2.2,.u,.u,.u,.u,.u,.u,.u,.u]) (fun x=>x.1.1) ((q.length-3,q,Dz q.length,[]),LI q,.n q.length) ⟨by simp only; omega,by simp [Dz]; omega,by simp only; omega,fun y hy=>by have:=z1 y hy; simp only; omega,by simp only [Aq]; omega,by simp,hq0,eR.symm⟩ rfl ?_
 rintro ⟨⟨f,l,c,o⟩,d0,d6⟩ ⟨g1,g2,g3,g4,g5,gr,g7,g6⟩
 simp only at g1 g2 g3 g4 g5 gr g7 g6 ⊢
 cases f with
 | zero=>
  simp only [DB] at g6
  simp (disch:=first|omega|simp only[vl];omega) only [AA]
  rw [D7,if_pos hb,← g6]
  rfl
 | succ f=>
  simp only [Dk,Ac,Aj] at g7
  obtain ⟨hj,g8⟩:=g7
  simp (disch:=first|omega|simp only[vl];omega) only [AA]
  refine B9 (fun (x:Nat)=>x≤AM l) (fun x=>[.u,.u,.u,LL (Ct o),LI l,LI c,.u,.n (x:Nat),.u,.u,.u,.u,.u,.u,.u]) (fun x=>AM l-x) 0 (Nat.zero_le _) rfl ?_
  intro k hk
  by_cases hk2:k=AM l
  ·subst hk2
   have h1:=Qb hj
   have e1:((AM l:Int)+l.length-1) % (l.length:Int)=(BM l.length (AM l):Nat):=by
    rw [show (AM l:Int)+l.length-1=((AM l+l.length-1:Nat):Int) by omega]; simp [BM,Int.natCast_emod]
   have e2:((AM l:Int)+1) % (l.length:Int)=(Ax l.length (AM l):Nat):=by simp [Ax,Int.natCast_emod]
   have p1:BM l.length (AM l)<l.length:=Nat.mod_lt _ (by omega)
   have p2:Ax l.length (AM l)<l.length:=Nat.mod_lt _ (by omega)
   have m1:=g4 _ (Jg p2)
   have p3:BM l.length (AM l)<(Aw l (Ax l.length (AM l):Nat) (AD l (Ax l.length (AM l):Nat)-1)).length:=by rw [Eu]; exact p1
   have m2:(f:Int)-10≤AD (Aw l (Ax l.length (AM l):Nat) (AD l (Ax l.length (AM l):Nat)-1)) (BM l.length (AM l):Nat)∧AD (Aw l (Ax l.length (AM l):Nat) (AD l (Ax l.length (AM l):Nat)-1)) (BM l.length (AM l):Nat)≤100:=by
    rcases Rn (Jg p3) with q | q
    ·rw [q]; omega
    ·have:=g4 _ q; omega
   have hd:Aw (Aw l (Ax l.length (AM l):Nat) (AD l (Ax l.length (AM l):Nat)-1)) (BM l.length (AM l):Nat) (AD (Aw l (Ax l.length (AM l):Nat) (AD l (Ax l.length (AM l):Nat)-1)) (BM l.length (AM l):Nat)-1)=EJ l (AM l):=rfl
   have hdl:(EJ l (AM l)).length=l.length:=by simp [EJ,Aw]
   have s1:=UE (l:=EJ l (AM l)) (j:=AM l) (by omega)
   have s2:=Rq (l:=EJ l (AM l)) (j:=AM l) (by omega)
   have s3:=Rx (l:=EJ l (AM l)) (j:=AM l) (by omega)
   have s4:=VP (l:=l) (j:=AM l) (by omega) hj
   have t1:=UE (l:=c) (j:=AM l) (by omega)
   have t2:=Rq (l:=c) (j:=AM l) (by omega)
   have t3:=Rx (l:=c) (j:=AM l) (by omega)
   have el:c.length=l.length:=by omega
   rw [hdl] at s2 s3
   rw [el] at t2 t3
   have hx:[min (AD c (Ax l.length (AM l):Nat)) (AD c (BM l.length (AM l):Nat)),max (AD c (Ax l.length (AM l):Nat)) (AD c (BM l.length (AM l):Nat))]=GZ l.length c (AM l):=by
    rw [GZ,Int.min_comm,Int.max_comm]
   have hp:=AB0 (K:=K) (l:=Ct o) (x:=GZ l.length c (AM l)) (by rw [Ct,List.length_reverse,YP]; omega) (Vl gr) Sj
   rw [← AFQ] at hp
   simp (disch:=first|omega|simp only[vl];omega) only [AA,h1,e1,e2,Eu]
   trace_state
   rw [hx]
   refine AE (hp) rfl ?_
   simp (disch:=first|omega|simp only[vl];omega) only [AA,h1,e1,e2,Eu,hd,hdl,Zi,el]
   trace_state
   have k1:(Cl l (AM l)).length=f+3:=by rw [Pu hj]; omega
   have k2:(Dy c (AM l)).length=f+3:=by rw [Rv (by omega)]; omega
   have k3:DB f (Cl l (AM l)) (Dy c (AM l)) (o++[GZ l.length c (AM l)])=BZ q:=by
    rw [← g6,DB,if_pos hj]
   refine ⟨((f,Cl l (AM l),Dy c (AM l),o++[GZ l.length c (AM l)]),.u,.u),by simp,⟨k1,k2,by simp only; omega,?_,by simp only [Ad,A6,Aq]; omega,?_,g8,k3⟩,?_⟩
   ·show ∀ x∈Cl l (AM l),(f:Int)-10≤x∧x≤100
    exact QY (by omega) hj fun x hx=>by have:=g4 x hx; omega
   ·intro y hy
    rcases A8.1 hy with q | q
    ·exact gr y q
    ·rw [List.mem_singleton.1 q]; exact Sj
   ·rw [s3,s4,t3]
  ·have h1:AD l k≠1:=AM4 (by omega)
   simp (disch:=first|omega|simp only[vl];omega) only [AA]
   refine ⟨k+1,by omega,by omega,?_⟩
   simp
end Go.Cat
