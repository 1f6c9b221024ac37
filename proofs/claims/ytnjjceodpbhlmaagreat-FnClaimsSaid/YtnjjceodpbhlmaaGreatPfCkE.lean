/-
 Sides of a triangulation, as the program's closure finds them.
-/
import Derived.Test.YtnjjceodpbhlmaaGreatPfCkT
import Derived.Test.YtnjjceodpbhlmaaGreatPfRotM
import Derived.Test.YtnjjceodpbhlmaaGreatIrHas
set_option linter.unusedSimpArgs false
set_option linter.unusedVariables false
namespace Go.Cat
variable {K:Nat→List D→List D→Prop}
set_option maxRecDepth 100000
theorem AEK {n:Nat} {d:List (List Int)} {a b:Nat} (h:((b:Int)=(a:Int)+1)∨∃ i:Nat,i<d.length∧AD (AH d i) 0=a∧AD (AH d i) 1=b):CY n d a b=true:=by
 unfold CY
 rcases h with h | ⟨i,hi,h1,h2⟩
 ·simp [h]
 ·rw [Bool.or_eq_true]
  refine .inr (List.any_eq_true.2 ⟨AH d i,by simp [AH,hi],by simp [h1,h2]⟩)
theorem AKH {n:Nat} {d:List (List Int)} {a b:Nat} (he:¬ (a=0∧b+1=n)) (h0:¬ (b:Int)=(a:Int)+1) (h:∀ i:Nat,i<d.length→¬ (AD (AH d i) 0=a∧AD (AH d i) 1=b)):CY n d a b=false:=by
 unfold CY
 rw [Bool.or_eq_false_iff]
 refine ⟨?_,?_⟩
 ·have:¬ ((a:Int)=0∧(b:Int)=(n:Int)-1):=fun q=>he ⟨by omega,by omega⟩
  simp only [Bool.or_eq_false_iff,Bool.and_eq_false_iff,decide_eq_false_iff_not]
  exact ⟨h0,by omega⟩
 ·rw [List.any_eq_false]
  intro r hr
  obtain ⟨i,hi,rfl⟩:=List.mem_iff_getElem.1 hr
  have:=h i hi
  have e:AH d i=d[i]:=by simp [AH,hi]
  rw [e] at this
  simpa using this
theorem AP1 [HA K] {n:Nat} {d:List (List Int)} {a b:Nat} (hab:a<b) (hb:b≤1000) (hd:d.length≤1000) (hr:∀ r∈d,Es r) (he:¬ (a=0∧b+1=n)):K 655 [.n a,.n b,.g [LL d]] [.b (CY n d a b),.g [LL d]]:=by
 refine AG (f:=Kj) rfl ?_; simp only [Kj,zu]
 by_cases h1:(b:Int)=(a:Int)+1
 ·rw [AEK (.inl h1)]
  have h2:(b:Int)-a=1:=by omega
  simp (disch:=omega) only [AA,h2]
 ·have h2:¬ (b:Int)-a=1:=by omega
  simp (disch:=omega) only [AA]
  refine Ag (fun i=>∀ j:Nat,j<i→¬ (AD (AH d j) 0=a∧AD (AH d j) 1=b)) (fun i=>[.n a,.n b,.g [LL d],.u,.u,.u,LL d,.n d.length,.n i,.u,.u]) d.length (fun j hj=>by omega) rfl (fun i hi hP=>?_) (fun hP=>?_)
  ·have hx:=hr _ (RH hi)
   have hxl:=hx.1
   by_cases p:AD (AH d i) 0=a
   ·by_cases q:AD (AH d i) 1=b
    ·rw [AEK (.inr ⟨i,hi,p,q⟩)]
     simp (disch:=omega) only [AA,p,q]
    ·simp (disch:=omega) only [AA,p]
     intro j hj c
     by_cases e:j=i
     ·rw [e] at c; exact q c.2
     ·exact hP j (by omega) c
   ·simp (disch:=omega) only [AA]
    intro j hj c
    by_cases e:j=i
    ·rw [e] at c; exact p c.1
    ·exact hP j (by omega) c
  ·rw [AKH he h1 hP]
   simp (disch:=omega) only [AA]
section
open Go.RowKit
def TQ (x:BT) (w:World):Ending→World→Prop:=fun e w'=>∃ (T:AT) (u:Option Addr),T.ptr=.pointer u∧e=.returned (.pointer u)∧Hid (T.sh=x∧T.In w'.heap∧(∀ b∈T.bl,w.heap.size≤b)∧Gr w w')
def Bx (fid:Nat→Nat) (D0:D) (bx:Nat) (w:World):Prop:=∃ dv,(∃ e,w.heap[bx]?=some (.cells #[dv] e (0,0)))∧Rd fid w.heap (·=bx) D0 dv
def Gx (b:Nat) (w w':World):Prop:=w.heap.size≤w'.heap.size∧(∀ x,x<w.heap.size→x≠b→w'.heap[x]?=w.heap[x]?)∧w'.os=w.os∧w'.tape=w.tape∧w'.output=w.output
theorem Gx.after {b:Nat} {u v w:World} (h:Gr u v) (hb:u.heap.size≤b) (k:Gx b v w):Gr u w:=
 ⟨Nat.le_trans h.1 k.1,fun x hx=>(k.2.1 x (Nat.lt_of_lt_of_le hx h.1) (by omega)).trans (h.2.1 x hx),k.2.2.1.trans h.2.2.1,k.2.2.2.1.trans h.2.2.2.1,k.2.2.2.2.trans h.2.2.2.2⟩
theorem Bx.gr {fid:Nat→Nat} {D0:D} {bx:Nat} {u v:World} {x:Value} (h:Bx fid D0 bx u) (g:Gr u v) (hc:u.cell? ⟨bx,0,none⟩=some x):v.cell? ⟨bx,0,none⟩=some x:=by
 obtain ⟨dv,⟨e,h1⟩,_⟩:=h
 have:=g.2.1 bx (Cd h1)
 simp only [World.cell?,h1,this] at hc ⊢
 exact hc
theorem AII {fid:Nat→Nat} {D0:D} {u v:World} {x:Value} (h:Rd fid u.heap (fun _=>False) D0 x) (g:Gr u v):Rd fid v.heap (fun _=>False) D0 x:=
 Rd.ext (S:=fun _=>False) ⟨g.1,fun b hb _=>g.2.1 b hb⟩ (fun _ _ h=>h) (fun _ _ h=>h) D0 x h
theorem AJ3 {n:Int} {d:List (List Int)} {f k ty:Nat} {a b m c:Int} {X:BT} {T1 T2:AT} {u1 u2:Option Addr} {w v2 w3 w4:World} (z1:T1.ptr=.pointer u1) (z2:T2.ptr=.pointer u2)
   (hL:X=match FH n d a b k c with
    | some m=>.nd (Dj n d f a m) (Dj n d f m b)
    | none=>.lf) (hP:FH n d a b k c=some m) (g:Gr w v2)
   (h1:Hid (T1.sh=Dj n d f a m∧T1.In w3.heap∧(∀ b∈T1.bl,v2.drew.heap.size≤b)∧Gr v2.drew w3)) (h2:Hid (T2.sh=Dj n d f m b∧T2.In w4.heap∧(∀ b∈T2.bl,w3.heap.size≤b)∧Gr w3 w4)):
   Hid ((AT.node w4.heap.size T1 T2).sh=X∧(AT.node w4.heap.size T1 T2).In (w4.alloc (.cells #[.pointer u1,.pointer u2] ty)).heap∧(∀ b∈(AT.node w4.heap.size T1 T2).bl,w.heap.size≤b)∧Gr w (w4.alloc (.cells #[.pointer u1,.pointer u2] ty))):=by
 obtain ⟨s1,i1,n1,r1⟩:=h1.out
 obtain ⟨s2,i2,n2,r2⟩:=h2.out
 have r1:Gr v2 w3:=(Gr.drew v2).trans r1
 have n1:∀ b∈T1.bl,v2.heap.size≤b:=n1
 have hA:=Gr.alloc w4 (.cells #[.pointer u1,.pointer u2] ty)
 have hs:=g.1
 have hs1:=r1.1
 have hs2:=r2.1
 rw [hP] at hL
 refine Am ⟨by rw [hL]; simp only [AT.sh,s1,s2],?_,fun x hx=>?_,((g.trans r1).trans r2).trans hA⟩
 ·refine ⟨⟨ty,?_⟩,i1.mono fun b hb=>?_,i2.mono fun b hb=>?_⟩
  ·rw [z1,z2]; exact heap_alloc_new w4 _
  ·have:=i1.lt b hb
   rw [hA.2.1 b (by omega),r2.2.1 b this]
  ·exact hA.2.1 b (i2.lt b hb)
 ·simp only [AT.bl,A5,A8] at hx
  rcases hx with rfl | hx | hx
  ·omega
  ·have:=n1 x hx; omega
  ·have:=n2 x hx; omega
def EQ (fid:Nat→Nat) (D0:D) (r:Bool) (bx:Nat) (w:World):Ending→World→Prop:=fun e w'=>e=.returned (.bool r)∧Hid (∃ pa pl pc,w'.cell? ⟨bx,0,none⟩=some (.slice pa pl pc)∧Rd fid w'.heap (fun _=>False) D0 (.slice pa pl pc)∧Bx fid D0 bx w'∧Gx bx w w')
theorem PM {fid:Nat→Nat} {h:Array Obj} {Z Z':Nat→Prop} {D0:D} {x:Value} (hz:∀ b,Z' b→Z b) (hr:Rd fid h Z D0 x):Rd fid h Z' D0 x:=
 Rd.ext (S:=fun _=>False) (Af.refl _ _) (fun _ _ h=>h.elim) (fun b _ q=>hz b q) D0 x hr
theorem XH {fid:Nat→Nat} {h:Array Obj} {Z:Nat→Prop} {d:List (List Int)} {x:Value} (hr:Rd fid h Z (LL d) x):∃ pa pl pc,x=.slice pa pl pc:=by
 unfold LL at hr
 simp only [Rd] at hr
 rcases hr with ⟨_,a,rfl⟩ | ⟨b,off,cap,cs,e,fz,rfl,_⟩
 ·exact ⟨_,_,_,rfl⟩
 ·exact ⟨_,_,_,rfl⟩
theorem AQH {P:Program} {fid:Nat→Nat} {f:Nat} {d:List (List Int)} {a b:Int} {r:Bool} (h:FE P fid f ⟨[.v,.v,.b .v],[.v],[2],none⟩ [.n a,.n b,.g [LL d]] [.b r,.g [LL d]]) {bx:Nat} {w:World} (hB:Bx fid (LL d) bx w):
  Calls P f #[.int .i64 a,.int .i64 b,.pointer (some ⟨bx,0,none⟩)] w (EQ fid (LL d) r bx w):=by
 obtain ⟨dv,⟨e,h1⟩,h2⟩:=hB
 refine (h w (fun _=>False) [.int .i64 a,.int .i64 b,.pointer (some ⟨bx,0,none⟩)] [bx] (by simp) (fun b hb=>hb.elim) ?_ trivial).mono ?_
 ·simp only [BA,AF,Rd]
  refine ⟨[],[bx],rfl,⟨rfl,trivial⟩,[],[bx],rfl,⟨rfl,trivial⟩,[bx],[],rfl,⟨[LL d],bx,#[dv],e,(0,0),[],rfl,rfl,rfl,h1,rfl,rfl,?_⟩,rfl⟩
  simp only [AK,AF]
  exact ⟨[],[],rfl,⟨rfl,PM (fun b q=>by simpa using q) h2⟩,rfl⟩
 ·rintro e' w' ⟨v,vs,B',rfl,ht,hl,hA,g1,g2,g3,_,_,hE⟩
  match vs,hl with
  | [v0],_=>
   have hv:v=v0:=ht
   subst hv
   simp only [Sg.outs,List.map_cons,List.map_nil,List.cons_append,List.nil_append,BA,AF,Rd] at hE
   obtain ⟨B1,B2,rfl,⟨rfl,rfl⟩,B3,B4,rfl,⟨xs,b',cs,e2,fz,B5,q1,rfl,q3,q4,q5,q6,q7⟩,rfl⟩:=hE
   have q1:xs=[LL d]:=by simpa using q1.symm
   subst q1
   have q3:b'=bx:=by
    have:Value.pointer (some ⟨bx,0,none⟩)=Value.pointer (some ⟨b',0,none⟩):=q3
    simpa using this.symm
   subst q3
   have q5:fz=(0,0):=q5
   subst q5
   obtain ⟨cs⟩:=cs
   match cs,q6 with
   | [dv2],_=>
    simp only [AK,AF] at q7
    obtain ⟨B6,B7,rfl,⟨rfl,q8⟩,rfl⟩:=q7
    have q9:Rd fid w'.heap (·=b') (LL d) dv2:=PM (fun b q=>by simp [q]) q8
    obtain ⟨pa,pl,pc,rfl⟩:=XH q9
    refine ⟨rfl,Am ⟨pa,pl,pc,?_,PM (fun b q=>q.elim) q9,⟨_,⟨e2,q4⟩,q9⟩,hA.size,fun x hx hb=>hA.same x hx (by simpa using hb),g1,g2,g3⟩⟩
    simp [World.cell?,q4]
theorem AMQ {P:Program} {fid:Nat→Nat} {f:Nat} {d:List (List Int)} {n a b:Int} {x:BT} (h:∀ w pa pl pc,Rd fid w.heap (fun _=>False) (LL d) (.slice pa pl pc)→Calls P f #[.int .i64 n,.slice pa pl pc,.int .i64 a,.int .i64 b] w (TQ x w)):
  FE P fid f ⟨[.v,.y,.v,.v],[.v],[],none⟩ [.n n,LL d,.n a,.n b] [x.d]:=by
 intro w X args B hnd hX hE _
 match args,hE with
 | [],hE=>simp [BA] at hE
 | [_],hE=>simp [BA] at hE
 | [_,_],hE=>simp [BA] at hE
 | [_,_,_],hE=>simp [BA] at hE
 | _::_::_::_::_::_,hE=>simp [BA] at hE
 | [v0,v1,v2,v3],hE=>
  simp only [BA,AF,Rd] at hE
  obtain ⟨B1,B2,rfl,⟨rfl,rfl⟩,B3,B4,rfl,⟨rfl,hr⟩,B5,B6,rfl,⟨rfl,rfl⟩,B7,B8,rfl,⟨rfl,rfl⟩,rfl⟩:=hE
  obtain ⟨pa,pl,pc,rfl⟩:=XH hr
  refine (h w pa pl pc (PM (fun b q=>q.elim) hr)).mono ?_
  rintro e w' ⟨T,u,z,rfl,g⟩
  obtain ⟨s1,s2,s3,g1,g2,g3,g4,g5⟩:=g.out
  refine ⟨_,[.pointer u],[],rfl,rfl,rfl,⟨g1,fun b hb _=>g2 b hb⟩,g3,g4,g5,List.nodup_nil,by simp,?_⟩
  simp only [Sg.outs,List.map_nil,List.append_nil,BA,AF]
  refine ⟨[],[],rfl,⟨rfl,?_⟩,rfl⟩
  rw [← s1,← z]
  exact AT.rd s2 fun b hb q=>by
   rcases q with q | q
   ·simp at q
   ·have:=(hX b q).1
    have:=s3 b hb
    omega
end
end Go.Cat
