/-
 Binomials.
-/
import Derived.Test.YthoilpmggmenbaaGreatPfIn
import Derived.Test.YthoilpmggmenbaaGreatQd0LawReports
import Derived.Test.YthoilpmggmenbaaGreatQd1LawReports
import Derived.Test.YthoilpmggmenbaaGreatQd2LawReports
import Derived.Test.YthoilpmggmenbaaGreatQd3LawReports
import Derived.Test.YthoilpmggmenbaaGreatPfPairB
import Derived.Test.YthoilpmggmenbaaGreatPfSch
import Derived.Test.YthoilpmggmenbaaGreatPfMatP
import Derived.Test.YthoilpmggmenbaaGreatPfRankA
import Derived.Test.YthoilpmggmenbaaGreatPfRotC
set_option linter.unusedSimpArgs false
set_option linter.unusedVariables false
namespace Go.Cat
variable{K:Nat→List D→List D→Prop}
end Go.Cat
namespace Go.Cat
set_option maxRecDepth 100000
variable{K:Nat→List D→List D→Prop}
def JB:List Int:=[1,1,2,4,9,21]
def JQ:List Int:=[1,1,3,12,55,273]
def JT:List Int:=[1,1,3,16,125,1296]
abbrev AN2:List (Nat×IF):=[(256,I256.v),(23,IC.v)]
abbrev ALO:List (Nat×IF):=[(267,I267.v),(22,IP.v)]
abbrev AOT:List (Nat×IF):=[(489,I489.v),(79,I79.v),(84,I84.v),(22,IP.v),(24,I24.v)]
abbrev AMZ:List (Nat×IF):=[(490,I490.v),(22,IP.v),(24,I24.v)]
abbrev Vy:List (Nat×IF):=[(495,I495.v),(23,IC.v),(25,I25.v)]
abbrev AP4:List (Nat×IF):=[(491,I491.v),(22,IP.v)]
abbrev AB6:List (Nat×IF):=[(496,I496.v),(23,IC.v)]
theorem AZH:BO 6 (fun n=>Fl (Dm (Dr AN2) 60 8 256 [.n n]) (JB.getD n 0))=true:=by kernel_rfl
theorem AdV[HA K]{n:Nat}(h:n<6):K 256 [.n n] [.n (JB.getD n 0)]:=run AN2 60 8 256 (G5 (BQ AZH n h))
theorem AVF:BO 6 (fun n=>Fl (Dm (Dr ALO) 60 8 267 [.n n]) (JB.getD n 0))=true:=by kernel_rfl
theorem AbN[HA K]{n:Nat}(h:n<6):K 267 [.n n] [.n (JB.getD n 0)]:=run ALO 60 8 267 (G5 (BQ AVF n h))
theorem AbP:BO 6 (fun n=>Fl (Dm (Dr AOT) 60 8 489 [.n n]) (J5.getD n 0))=true:=by kernel_rfl
theorem AZR[HA K]{n:Nat}(h:n<6):K 489 [.n n] [.n (J5.getD n 0)]:=run AOT 60 8 489 (G5 (BQ AbP n h))
theorem AbQ:BO 6 (fun n=>Fl (Dm (Dr AMZ) 60 8 490 [.n 3,.n n]) (JQ.getD n 0))=true:=by kernel_rfl
theorem AWC[HA K]{n:Nat}(h:n<6):K 490 [.n 3,.n n] [.n (JQ.getD n 0)]:=run AMZ 60 8 490 (G5 (BQ AbQ n h))
theorem AdS:BO 6 (fun n=>Fl (Dm (Dr Vy) 60 8 495 [.n 3,.n n]) (JQ.getD n 0))=true:=by kernel_rfl
theorem AU6[HA K]{n:Nat}(h:n<6):K 495 [.n 3,.n n] [.n (JQ.getD n 0)]:=run Vy 60 8 495 (G5 (BQ AdS n h))
theorem AX1:BO 6 (fun n=>Fl (Dm (Dr AP4) 60 8 491 [.n n]) (JT.getD n 0))=true:=by kernel_rfl
theorem AY1[HA K]{n:Nat}(h:n<6):K 491 [.n n] [.n (JT.getD n 0)]:=run AP4 60 8 491 (G5 (BQ AX1 n h))
theorem AX9:BO 6 (fun n=>Fl (Dm (Dr AB6) 60 8 496 [.n n]) (JT.getD n 0))=true:=by kernel_rfl
theorem AU1[HA K]{n:Nat}(h:n<6):K 496 [.n n] [.n (JT.getD n 0)]:=run AB6 60 8 496 (G5 (BQ AX9 n h))
def Gs(x:BT)(t:List BT)(j:Nat):Nat:=((List.range j).filter fun k:Nat=>DE x (A4 t k)).length
theorem AE4{x:BT}{t:List BT}{j:Nat}:Gs x t (j+1)=Gs x t j+if DE x (A4 t j)=true then 1 else 0:=by
 simp only[Gs,List.range_succ,List.filter_append,A7];by_cases h:DE x (A4 t j)=true
 ·simp[h]
 ·simp[h]
theorem U1{x:BT}{t:List BT}{j:Nat}:Gs x t j≤j:=by have:=List.length_filter_le (fun k:Nat=>DE x (A4 t k)) (List.range j);simpa[Gs]using this
def Gu(t:List BT):Nat→Nat
 |0=>0
 |i+1=>Gu t i+Gs (A4 t i) t t.length
theorem AEM{t:List BT}:∀{i:Nat},Gu t i≤i*t.length
 |0=>by simp[Gu]
 |i+1=>by
  have h1:=AEM (t:=t) (i:=i)
  have h2:=U1 (x:=A4 t i) (t:=t) (j:=t.length)
  simp only[Gu,Nat.add_mul,Nat.one_mul]
  omega
theorem AZP[HA K]{n:Nat}(h:n≤5):∃v:Int,0≤v∧v≤1764∧K 497 [.n n] [.n v]∧K 492 [.n n] [.n v]:=by
 obtain⟨t,t42,tn,ki,ks⟩:=Xd (K:=K) (n:=n) h;have hb:∀i,i≤t.length→Gu t i≤1764:=fun i hi=>by have h1:=AEM (t:=t) (i:=i);have h2:i*t.length≤42*42:=Nat.mul_le_mul (by omega) t42;omega
 have hin:AV 0 5 (n:Int)=true:=A8.2 (by omega);refine⟨Gu t t.length,by omega,by have:=hb t.length (Nat.le_refl _);omega,?_,?_⟩
 ·refine qb AGA rfl ?_;simp only[AGA];simp(disch:=first|omega|simp only[vl];omega) only[AA];refine AD (CK (K:=K)) rfl ?_;rw[hin];simp(disch:=first|omega|simp only[vl];omega) only[AA];refine AD (ki) rfl ?_;simp(disch:=first|omega|simp only[vl];omega) only[AA,List.length_map];refine Au (fun i (c:Int)=>c=Gu t i) (fun i c=>[.u,.u,.n c,DK t,.u,.u,.u,DK t,.n t.length,.n i,.u,.u,.u,.u,.u,.u]) t.length 0 rfl rfl (fun i c hi hc=>?_) (fun c hc=>?_)
  ·have b1:=hb i (by omega);have ei:=F1 hi;simp(disch:=first|omega|simp only[vl];omega) only[AA,List.length_map,ei];refine Au (fun j (e:Int)=>e=c+Gs (A4 t i) t j) (fun j e=>[.u,.u,.n e,DK t,.s (A4 t i).t,.u,.u,DK t,.n t.length,.n i,.u,DK t,.n t.length,.n j,.u,.u]) t.length c (by simp[Gs]) rfl (fun j e hj he=>?_) (fun e he=>?_)
   ·have ej:=F1 hj;have hs:=AE4 (x:=A4 t i) (t:=t) (j:=j);have hl:=U1 (x:=A4 t i) (t:=t) (j:=j);simp(disch:=first|omega|simp only[vl];omega) only[AA,List.length_map,ej];refine AD (UW (K:=K) (x:=A4 t i) (y:=A4 t j) (tn _ (FE hi)) (tn _ (FE hj))) rfl ?_
    cases q:DE (A4 t i) (A4 t j)with
    |false=>
     rw[q,if_neg (by simp)]at hs
     simp(disch:=first|omega|simp only[vl];omega) only[AA]
     exact⟨_,by rw[hs,he];omega,rfl⟩
    |true=>
     rw[q,if_pos rfl]at hs
     simp(disch:=first|omega|simp only[vl];omega) only[AA]
     exact⟨_,by rw[hs,he];omega,rfl⟩
   ·simp(disch:=first|omega|simp only[vl];omega) only[AA];exact⟨_,by rw[he,hc];simp only[Gu];omega,rfl⟩
  ·simp(disch:=first|omega|simp only[vl];omega) only[AA];rw[hc]
 ·refine qb AKF rfl ?_;simp only[AKF];simp(disch:=first|omega|simp only[vl];omega) only[AA];refine AD (Bj (K:=K)) rfl ?_;rw[hin];simp(disch:=first|omega|simp only[vl];omega) only[AA];refine AD (ks) rfl ?_;simp(disch:=first|omega|simp only[vl];omega) only[AA,List.length_map];refine Au (fun i (c:Int)=>c=Gu t i) (fun i c=>[.u,.u,DK t,.n c,.n i,.u,.u,.u,.u,.u]) t.length 0 rfl rfl (fun i c hi hc=>?_) (fun c hc=>?_)
  ·have b1:=hb i (by omega);have ei:=F1 hi;simp(disch:=first|omega|simp only[vl];omega) only[AA,List.length_map,ei];refine Au (fun j (e:Int)=>e=c+Gs (A4 t i) t j) (fun j e=>[.u,.u,DK t,.n e,.n i,.n j,.u,.u,.u,.u]) t.length c (by simp[Gs]) rfl (fun j e hj he=>?_) (fun e he=>?_)
   ·have ej:=F1 hj;have hs:=AE4 (x:=A4 t i) (t:=t) (j:=j);have hl:=U1 (x:=A4 t i) (t:=t) (j:=j);simp(disch:=first|omega|simp only[vl];omega) only[AA,List.length_map,ei,ej];refine AD (Uj (K:=K) (x:=A4 t i) (y:=A4 t j) (tn _ (FE hi)) (tn _ (FE hj))) rfl ?_
    cases q:DE (A4 t i) (A4 t j)with
    |false=>
     rw[q,if_neg (by simp)]at hs
     simp(disch:=first|omega|simp only[vl];omega) only[AA]
     exact⟨_,by rw[hs,he];omega,rfl⟩
    |true=>
     rw[q,if_pos rfl]at hs
     simp(disch:=first|omega|simp only[vl];omega) only[AA]
     exact⟨_,by rw[hs,he];omega,rfl⟩
   ·simp(disch:=first|omega|simp only[vl];omega) only[AA,List.length_map];exact⟨_,by rw[he,hc];simp only[Gu];omega,rfl⟩
  ·simp(disch:=first|omega|simp only[vl];omega) only[AA,List.length_map];rw[hc]
end Go.Cat
