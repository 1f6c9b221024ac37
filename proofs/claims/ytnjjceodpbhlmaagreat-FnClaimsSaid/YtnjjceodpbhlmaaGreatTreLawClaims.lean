/-
 The trees of triangulations that the program makes, by hand.
-/
import Derived.Test.YtnjjceodpbhlmaaGreatRows
import Derived.WalkKit
import Derived.Below
import Derived.Deep.RegionWith
import Derived.Deep.QuietTactic
import Derived.Deep.DeepMust
import Derived.Deep.LoopGhost
import Derived.Laws.EntriesVeiled
import Derived.Test.YtnjjceodpbhlmaaGreatPfCkE
import Derived.Test.YtnjjceodpbhlmaaGreatSeatLawClaims
import Derived.Test.YtnjjceodpbhlmaaGreatRotLawClaims
set_option linter.unusedSimpArgs false
set_option linter.unusedVariables false
namespace Go.Proofs.YtnjjceodpbhlmaaGreat.fnClaims
open Go Go.Cat Go.RowKit Go.Proofs.YtnjjceodpbhlmaaGreat
set_option maxRecDepth 1000000 in
set_option maxHeartbeats 2000000 in
theorem t77 (fid:Nat→Nat) (n:Nat) (d:List (List Int)) (f a b k:Nat) (pa:Option Addr) (pl pc:Nat) (w:World)
   (kE1:Hid (∀ m:Nat,a<m→m<b→∀ w',Bx fid (LL d) w.heap.size w'→Calls Tryz.prog 173 #[.int .i64 (a:Int),.int .i64 (m:Int),.pointer (some ⟨w.heap.size,0,none⟩)] w' (EQ fid (LL d) (CY n d a m) w.heap.size w')))
   (kE2:Hid (∀ m:Nat,a<m→m<b→∀ w',Bx fid (LL d) w.heap.size w'→Calls Tryz.prog 173 #[.int .i64 (m:Int),.int .i64 (b:Int),.pointer (some ⟨w.heap.size,0,none⟩)] w' (EQ fid (LL d) (CY n d m b) w.heap.size w')))
   (kT1:Hid (∀ m:Nat,a<m→m<b→∀ w' pa pl pc,Rd fid w'.heap (fun _=>False) (LL d) (.slice pa pl pc)→Calls Tryz.prog 150 #[.int .i64 (n:Int),.slice pa pl pc,.int .i64 (a:Int),.int .i64 (m:Int)] w' (TQ (Dj n d f a m) w')))
   (kT2:Hid (∀ m:Nat,a<m→m<b→∀ w' pa pl pc,Rd fid w'.heap (fun _=>False) (LL d) (.slice pa pl pc)→Calls Tryz.prog 150 #[.int .i64 (n:Int),.slice pa pl pc,.int .i64 (m:Int),.int .i64 (b:Int)] w' (TQ (Dj n d f m b) w')))
   (hm0:IntKind.i64.wrap ((a:Int)+1)=((a+1:Nat):Int)) (hk:Hid (a+1+k=b∧b<1000)) (h0:Hid (Bx fid (LL d) w.heap.size (w.alloc (.cells #[.slice pa pl pc] 28))))
 : Calls Tryz.prog 150 #[.int .i64 (n:Int),.slice pa pl pc,.int .i64 (a:Int),.int .i64 (b:Int)] w (TQ (Dj n d (f+1) a b) w):=by
 have hL:Hid (Dj n d (f+1) a b=match FH n d a b k (a+1) with
  | some m=>.nd (Dj n d f a m) (Dj n d f m b)
  | none=>.lf):=by
  obtain ⟨hk1,hk2⟩:=hk.out
  have e:((b:Int)-a-1).toNat=k:=by omega
  by_cases hab:(b:Int)=a+1
  ·have:k=0:=by omega
   show _=_
   rw [Dj,if_pos hab,this,FH]
  ·show _=_
   rw [Dj,if_neg hab,e]
   rfl
 generalize hX:Dj n d (f+1) a b=X at hL ⊢
 clear hX
 go_enter Tryz.func150,Tryz.ntmps150
 go_wp2_with fail
 go_loopg [10] k (fun c p wr=>∃ m:Nat,p=.int .i64 (m:Int)∧Hid (m+c=b∧a<m∧FH n d a b k (a+1)=FH n d a b c m∧Bx fid (LL d) w.heap.size wr∧Gr w wr))
 case atStart=>
  exact ⟨a+1,rfl,hk.out.1,by omega,by simp,h0.out,Gr.alloc w _⟩
 case round=>
  obtain ⟨m,rfl,hI⟩:=hrel
  have hI:=Am hI
  by_cases hmb:m<b
  ·have ha:=hI.out.out.2.1
   have hw2:RowKit.wrap64 ((m:Int)+1)=((m+1:Nat):Int):=by
    have:=hk.out.2
    unfold RowKit.wrap64; omega
   have e1:=Am (kE1.out m ha hmb)
   have e2:=Am (kE2.out m ha hmb)
   have hg:gk=gk-1+1:=by have:=hI.out.out.1; omega
   have hP:=Am (hI.out.out.2.2.1)
   cases q1:CY n d a m
   ·rw [q1] at e1
    go_wp2_with (go_at_call_of 173 (Value.int .i64 (a:Int))
                 refine (e1.out _ hI.out.out.2.2.2.1).mono ?_
                 rintro e w1 ⟨rfl,g1⟩
                 have g1:=Am g1)
    go_roundg (gk-1)
    case measure=>omega
    case rel=>
     obtain ⟨p1,p2,p3,c1,c2,c3,c4⟩:=g1.out.out
     refine ⟨m+1,by rw [hw2],by have:=hI.out.out.1; omega,by omega,?_,c3,Gx.after hI.out.out.2.2.2.2 (Nat.le_refl _) c4⟩
     have hP:=hP.out
     rw [hg,FH,q1] at hP
     simpa using hP
   ·rw [q1] at e1
    cases q2:CY n d m b
    ·rw [q2] at e2
     go_wp2_with (first
      | (go_at_call_of 173 (Value.int .i64 (a:Int))
         refine (e1.out _ hI.out.out.2.2.2.1).mono ?_
         rintro e w1 ⟨rfl,g1⟩
         have g1:=Am g1
         obtain ⟨p1,p2,p3,c1,g2⟩:=g1.out.out
         have g2:=Am g2)
      | (go_at_call_of 173 (Value.int .i64 (b:Int))
         refine (e2.out _ g2.out.2.1).mono ?_
         rintro e w2 ⟨rfl,g3⟩
         have g3:=Am g3))
     go_roundg (gk-1)
     case measure=>omega
     case rel=>
      obtain ⟨p4,p5,p6,c4,c5,c6,c7⟩:=g3.out.out
      refine ⟨m+1,by rw [hw2],by have:=hI.out.out.1; omega,by omega,?_,c6,Gx.after (Gx.after hI.out.out.2.2.2.2 (Nat.le_refl _) g2.out.2.2) (Nat.le_refl _) c7⟩
      have hP:=hP.out
      rw [hg,FH,q1,q2] at hP
      simpa using hP
    ·rw [q2] at e2
     have t1:=Am (kT1.out m ha hmb)
     have t2:=Am (kT2.out m ha hmb)
     go_wp2_with (first
      | (go_at_call_of 173 (Value.int .i64 (a:Int))
         refine (e1.out _ hI.out.out.2.2.2.1).mono ?_
         rintro e w1 ⟨rfl,g1⟩
         have g1:=Am g1
         obtain ⟨p1,p2,p3,c1,g2⟩:=g1.out.out
         have g2:=Am g2)
      | (go_at_call_of 173 (Value.int .i64 (b:Int))
         refine (e2.out _ g2.out.2.1).mono ?_
         rintro e w2 ⟨rfl,g3⟩
         have g3:=Am g3
         obtain ⟨p4,p5,p6,c4,g4⟩:=g3.out.out
         have g4:=Am g4))
     go_region_with (first
      | (go_at_call_of 150 (Value.int .i64 (a:Int))
         refine (t1.out w2.drew _ _ _ g4.out.1).mono ?_
         rintro e w3 ⟨T1,u1,z1,rfl,g5⟩
         have g5:=Am g5
         have c5:=(g4.out.2.1.gr g5.out.out.2.2.2 c4)
         have r5:=Am (AII g4.out.1 g5.out.out.2.2.2))
      | (go_at_call_of 150 (Value.int .i64 (b:Int))
         refine (t2.out _ _ _ _ r5.out).mono ?_
         rintro e w4 ⟨T2,u2,z2,rfl,g6⟩
         have g6:=Am g6))
     all_goals go_wp2_with fail
     all_goals go_ret
     all_goals exact ⟨.node w4.heap.size T1 T2,_,rfl,rfl,AJ3 z1 z2 hL.out (by
      have hP:=hP.out
      rw [hg,FH,q1,q2] at hP
      simpa using hP) (Gx.after (Gx.after hI.out.out.2.2.2.2 (Nat.le_refl _) g2.out.2.2) (Nat.le_refl _) g4.out.2.2) g5.out g6.out⟩
  ·go_wp2_with fail
   go_ret
   refine ⟨.nil,none,rfl,rfl,?_,trivial,by simp [AT.bl],hI.out.out.2.2.2.2⟩
   have h1:=hI.out.out
   have h2:gk=0:=by have:=h1.1; omega
   have h3:=h1.2.2.1
   rw [h2,FH] at h3
   rw [hL.out,h3]; rfl
theorem e94 (n a b:Nat) (d:List (List Int)) (hab:a<b) (hb:b≤1000) (hd:d.length≤1000) (hr:∀ r∈d,Es r) (he:¬ (a=0∧b+1=n)) {bx:Nat} {w:World} (hB:Bx (Dm tab) (LL d) bx w):
  Calls Tryz.prog 173 #[.int .i64 (a:Int),.int .i64 (b:Int),.pointer (some ⟨bx,0,none⟩)] w (EQ (Dm tab) (LL d) (CY n d a b) bx w):=by
 obtain ⟨r,hr',hc⟩:=AP1 (K:=K) (n:=n) hab hb hd hr he
 have e:rowOf tab 655=some ⟨655,173,⟨[.v,.v,.b .v],[.v],[2],none⟩⟩:=rfl
 rw [e] at hr'
 injection hr' with hr'
 subst hr'
 exact AQH hc hB
theorem Zj (n:Nat) (d:List (List Int)) (hn:n≤10) (hd:d.length≤7) (hr:∀ r∈d,Es r):∀ (f a b:Nat),a<b→b+1≤n→b≤a+f→∀ (w:World) (pa:Option Addr) (pl pc:Nat),Rd (Dm tab) w.heap (fun _=>False) (LL d) (.slice pa pl pc)→
  Calls Tryz.prog 150 #[.int .i64 (n:Int),.slice pa pl pc,.int .i64 (a:Int),.int .i64 (b:Int)] w (TQ (Dj n d f a b) w)
 | 0,a,b,h1,h2,h3,_,_,_,_,_=>by omega
 | f+1,a,b,h1,h2,h3,w,pa,pl,pc,hrd=>by
  have ih:=Zj n d hn hd hr f
  refine t77 (Dm tab) n d f a b (b-a-1) pa pl pc w (Am fun m m1 m2 w' hB=>?_) (Am fun m m1 m2 w' hB=>?_) (Am fun m m1 m2 w' pa pl pc hrd=>?_) (Am fun m m1 m2 w' pa pl pc hrd=>?_) ?_ (Am ⟨by omega,by omega⟩) (Am ?_)
  ·exact e94 n a m d m1 (by omega) (by omega) hr (by omega) hB
  ·exact e94 n m b d m2 (by omega) (by omega) hr (by omega) hB
  ·exact ih a m m1 (by omega) (by omega) w' pa pl pc hrd
  ·exact ih m b m2 h2 (by omega) w' pa pl pc hrd
  ·rw [wrap_i64 (by omega)]; omega
  ·refine ⟨_,⟨28,heap_alloc_new w _⟩,?_⟩
   refine Rd.ext (S:=fun _=>False) ⟨(Gr.alloc w _).1,fun b hb _=>(Gr.alloc w _).2.1 b hb⟩ (fun _ _ h=>h) (fun b hb q=>?_) _ _ hrd
   omega
instance:H9 K:=⟨fun n d f a b hn hd hr hab hbn hf=>⟨⟨652,150,⟨[.v,.y,.v,.v],[.v],[],none⟩⟩,rfl,AMQ (Zj n d hn hd hr f a b hab hbn hf)⟩⟩
end Go.Proofs.YtnjjceodpbhlmaaGreat.fnClaims
