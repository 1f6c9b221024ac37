/-
 What is counted at rotations; mirrors; weights.
-/
import Derived.Test.YthoilpmggmenbaaGreatPfAp2
import Derived.Test.YthoilpmggmenbaaGreatQd0LawReports
import Derived.Test.YthoilpmggmenbaaGreatQd1LawReports
import Derived.Test.YthoilpmggmenbaaGreatQd2LawReports
import Derived.Test.YthoilpmggmenbaaGreatQd3LawReports
set_option linter.unusedSimpArgs false
set_option linter.unusedVariables false
namespace Go.Cat
variable{K:Nat→List D→List D→Prop}
theorem AFG{f:BT→Int→Option BT}{x:BT}{k:Nat}:((C4 f x (k+1)).length:Int)=(C4 f x k).length+(if(f x (k:Nat)).isSome then 1 else 0):=by
 rw[Hf,A7]
 cases f x (k:Nat)<;>simp
theorem cr_i[HA K][El K]{x:BT}(h:x.n≤8):K 172 [.s x.t] [.n (C4 BF x x.n).length]:=by
 refine qb AOW rfl ?_;simp only[AOW];simp(disch:=omega) only[AA];refine AD (Ph (K:=K) (s:=x.t)) rfl ?_;simp(disch:=omega) only[AA,F7 h];refine AD (Fk (K:=K) h) rfl ?_;simp(disch:=omega) only[AA];refine Au (fun i (r:Int)=>r=(C4 BF x i).length) (fun i r=>[.s x.t,.u,.n r,.u,.u,.u,.n x.n,.n i,.u,.u]) x.n 0 rfl rfl (fun i r hi hP=>?_) (fun r hP=>?_)
 ·have hl:=F2 (f:=BF) (x:=x) (k:=i);have k1:=El.rr (K:=K) x (i:Nat) h (by omega) (by omega);have hs:=AFG (f:=BF) (x:=x) (k:=i);simp(disch:=omega) only[AA];refine AD (k1) rfl ?_
  cases hy:(BF x (i:Nat)).isSome
  ·simp(disch:=omega) only[AA];refine⟨_,?_,rfl⟩;rw[hP,hs,hy];simp
  ·simp(disch:=omega) only[AA];refine⟨_,?_,rfl⟩;rw[hP,hs,hy];simp
 ·simp(disch:=omega) only[AA];rw[hP]
theorem cr_s[HA K]{x:BT}(h:x.n≤8):K 165 [.s x.t] [.n (C4 BF x x.n).length]:=by
 refine qb AKE rfl ?_;simp only[AKE];simp(disch:=omega) only[AA];refine AD (F8 (K:=K) (s:=x.t)) rfl ?_;simp(disch:=omega) only[AA,F7 h];refine Au (fun i (r:Int)=>r=(C4 BF x i).length) (fun i r=>[.s x.t,.u,.n r,.n i,.u,.u,.u,.u]) x.n 0 rfl rfl (fun i r hi hP=>?_) (fun r hP=>?_)
 ·have hl:=F2 (f:=BF) (x:=x) (k:=i);have k1:=Tz (K:=K) (x:=x) (v:=(i:Nat)) h (by omega);have hs:=AFG (f:=BF) (x:=x) (k:=i);simp(disch:=omega) only[AA];refine AD (Dz (K:=K) h) rfl ?_;simp(disch:=omega) only[AA];rw[Dp]at k1;refine AD (k1) rfl ?_
  cases hy:(BF x (i:Nat)).isSome
  ·simp(disch:=omega) only[AA];refine⟨_,?_,rfl⟩;rw[hP,hs,hy];simp
  ·simp(disch:=omega) only[AA];refine⟨_,?_,rfl⟩;rw[hP,hs,hy];simp
 ·simp(disch:=omega) only[AA];refine AD (Dz (K:=K) h) rfl ?_;simp(disch:=omega) only[AA];rw[hP]
def Cy(x:BT):List BT:=C4 BF x x.n++C4 By x x.n
theorem N5{x:BT}:(Cy x).length≤2*x.n:=by have h1:=F2 (f:=BF) (x:=x) (k:=x.n);have h2:=F2 (f:=By) (x:=x) (k:=x.n);rw[Cy,A7];omega
theorem ADU[HA K][El K]{x:BT}(h:x.n≤8):K 173 [.s x.t] [DK (Cy x)]:=by have h1:=F2 (f:=BF) (x:=x) (k:=x.n);have h2:=F2 (f:=By) (x:=x) (k:=x.n);refine qb ZJ rfl ?_;simp only[ZJ];simp(disch:=first|omega|simp only[vl];omega) only[AA];refine AD (AV2 (K:=K) h) rfl ?_;simp(disch:=first|omega|simp only[vl];omega) only[AA];refine AD (AR1 (K:=K) h) rfl ?_;simp(disch:=first|omega|simp only[vl];omega) only[AA];rw[Cy,DK,List.map_append]
theorem AHD[HA K]{x:BT}(h:x.n≤8):K 166 [.s x.t] [DK (Cy x)]:=by
 have h1:=F2 (f:=BF) (x:=x) (k:=x.n);have h2:=F2 (f:=By) (x:=x) (k:=x.n);refine qb ADS rfl ?_;simp only[ADS];simp(disch:=first|omega|simp only[vl];omega) only[AA];refine Au (fun i (r:List (List Nat))=>r=(C4 BF x i).map BT.t) (fun i r=>[.s x.t,.u,LS r,.n i,.u,.u,.u,.u,.u,.u,.u,.u,.u]) x.n [] rfl rfl (fun i r hi hP=>?_) (fun r hP=>?_)
 ·have hl:=F2 (f:=BF) (x:=x) (k:=i);have hr:r.length≤i:=by rw[hP,List.length_map];exact hl
  have k1:=Tz (K:=K) (x:=x) (v:=(i:Nat)) h (by omega);simp(disch:=first|omega|simp only[vl];omega) only[AA];refine AD (Dz (K:=K) h) rfl ?_;simp(disch:=first|omega|simp only[vl];omega) only[AA];rw[Dp]at k1;refine AD (k1) rfl ?_
  cases hy:BF x (i:Nat)with
  |none=>
   simp only[Option.isSome_none,Option.elim_none]
   simp(disch:=first|omega|simp only[vl];omega) only[AA]
   refine⟨_,?_,rfl⟩
   rw[hP,Hf,hy]
   simp
  |some y=>
   simp only[Option.isSome_some,Option.elim_some]
   have tn:=BT.tl y
   have hn:=Fa hy
   simp(disch:=first|omega|simp only[vl];omega) only[AA]
   refine⟨_,?_,rfl⟩
   rw[hP,Hf,hy]
   simp
 ·have hr0:r.length≤x.n:=by rw[hP,List.length_map];exact h1
  simp(disch:=first|omega|simp only[vl];omega) only[AA];refine AD (Dz (K:=K) h) rfl ?_;simp(disch:=first|omega|simp only[vl];omega) only[AA];refine Au (fun i (q:List (List Nat))=>q=r++(C4 By x i).map BT.t) (fun i q=>[.s x.t,.u,LS q,.u,.u,.u,.n i,.u,.u,.u,.u,.u,.u]) x.n r (by simp[C4]) rfl (fun i q hi hQ=>?_) (fun q hQ=>?_)
  ·have hl:=F2 (f:=By) (x:=x) (k:=i);have hq:q.length≤x.n+i:=by rw[hQ,A7,List.length_map];omega
   have k1:=rl_s (K:=K) (x:=x) (v:=(i:Nat)) h (by omega);simp(disch:=first|omega|simp only[vl];omega) only[AA];refine AD (Dz (K:=K) h) rfl ?_;simp(disch:=first|omega|simp only[vl];omega) only[AA];rw[Dp]at k1;refine AD (k1) rfl ?_
   cases hy:By x (i:Nat)with
   |none=>
    simp only[Option.isSome_none,Option.elim_none]
    simp(disch:=first|omega|simp only[vl];omega) only[AA]
    refine⟨_,?_,rfl⟩
    rw[hQ,Hf,hy]
    simp
   |some y=>
    simp only[Option.isSome_some,Option.elim_some]
    have tn:=BT.tl y
    have hn:=J8 hy
    simp(disch:=first|omega|simp only[vl];omega) only[AA]
    refine⟨_,?_,rfl⟩
    rw[hQ,Hf,hy]
    simp
  ·simp(disch:=first|omega|simp only[vl];omega) only[AA];refine AD (Dz (K:=K) h) rfl ?_;simp(disch:=first|omega|simp only[vl];omega) only[AA];rw[hQ,hP,Cy,DK,List.map_append]
def BT.Cq:BT→BT
 |.lf=>.lf
 |.nd l r=>.nd r.Cq l.Cq
theorem Gz:∀{x:BT},x.Cq.n=x.n
 |.lf=>rfl
 |.nd l r=>by simp only[BT.Cq,BT.n,Gz (x:=l),Gz (x:=r)];omega
theorem Rv[HA K]:∀{x:BT},x.n≤100000→K 195 [x.d] [x.Cq.d]
 |.lf,_=>by
  refine qb P7 rfl ?_;simp only[P7]
  simp only[BT.d,BT.Cq]
  simp(disch:=omega) only[AA]
 |.nd l r,h=>by
  simp only[BT.n]at h
  have k1:=Rv (x:=r) (by omega)
  have k2:=Rv (x:=l) (by omega)
  refine qb P7 rfl ?_;simp only[P7]
  simp only[BT.d,BT.Cq]
  simp(disch:=omega) only[AA,BT.DZ,JU]
  refine AD (k1) rfl ?_
  simp(disch:=omega) only[AA,BT.DZ]
  refine AD (k2) rfl ?_
  simp(disch:=omega) only[AA,BT.DZ,BT.Q4]
theorem Kq[HA K]{x:BT}(h:x.n≤8):K 168 [.s x.t] [.s x.Cq.t,.b true]:=by have hn:=Gz (x:=x);refine qb Xk rfl ?_;simp only[Xk];simp(disch:=omega) only[AA];refine AD (KW (K:=K) h) rfl ?_;simp(disch:=omega) only[AA,BT.DZ];refine AD (Rv (K:=K) (x:=x) (by omega)) rfl ?_;simp(disch:=omega) only[AA];refine AD (IQ (K:=K) (x:=x.Cq) (by omega)) rfl ?_;simp(disch:=omega) only[AA]
theorem Hy[HA K]:∀{x:BT},x.n≤8→K 189 [.s x.t] [.s x.Cq.t]
 |.lf,_=>by
  refine qb Pw rfl ?_;simp only[Pw]
  simp only[BT.t,BT.Cq]
  simp(disch:=first|omega|simp only[vl];omega) only[AA]
 |.nd a b,h=>by
  have h':=h
  simp only[BT.n]at h'
  have k1:=Hy (x:=a) (by omega)
  have k2:=Hy (x:=b) (by omega)
  have ta:=BT.tl a
  have tb:=BT.tl b
  have na:=Gz (x:=a)
  have nb:=Gz (x:=b)
  have ta2:=BT.tl a.Cq
  have tb2:=BT.tl b.Cq
  have hl:=GM (a:=a) (b:=b)
  have ea:=Hd (a:=a) (b:=b)
  have ke:=HQ (K:=K) (a:=a) (b:=b) (by omega)
  have e0:=J6 (a:=a) (b:=b)
  have e1:=U5 (a:=a) (b:=b)
  have eb:=HZ (a:=a) (b:=b) (j:=(BT.nd a b).t.length-1) rfl
  simp only[BT.Cq]
  rw[show(BT.nd b.Cq a.Cq).t=40::(b.Cq.t++(a.Cq.t++[41]))from rfl]
  generalize hw:(BT.nd a b).t=w at hl ea eb ke e0 e1
  refine qb Pw rfl ?_;simp only[Pw]
  simp(disch:=first|omega|simp only[vl];omega) only[AA,e0,e1]
  refine AD (ke) rfl ?_
  simp(disch:=first|omega|simp only[vl];omega) only[AA,eb]
  refine AD (k2) rfl ?_
  simp(disch:=first|omega|simp only[vl];omega) only[AA,ea]
  refine AD (k1) rfl ?_
  simp(disch:=first|omega|simp only[vl];omega) only[AA]
  simp
theorem AX4[HA K]{x:BT}(h:x.n≤8):K 161 [.s x.t] [.s x.Cq.t,.b true]:=by refine qb AIM rfl ?_;simp only[AIM];simp(disch:=omega) only[AA];refine AD (F8 (K:=K) (s:=x.t)) rfl ?_;simp(disch:=omega) only[AA,F7 h];refine AD (Hy (K:=K) (x:=x) h) rfl ?_;simp(disch:=omega) only[AA]
def BT.w:BT→List Int
 |.lf=>[]
 |.nd l r=>l.w++[(r.n:Int)]++r.w
theorem Bm:∀{x:BT},x.w.length=x.n
 |.lf=>rfl
 |.nd l r=>by simp only[BT.w,BT.n,A7,Bm (x:=l),Bm (x:=r),AY,Ap];omega
theorem S9[HA K]:∀{x:BT}{o:List Int},x.n≤8→o.length+x.n≤100→K 199 [x.d,LI o] [LI (o++x.w)]
 |.lf,o,_,_=>by
  refine qb Ns rfl ?_;simp only[Ns]
  simp only[BT.d,BT.w,List.append_nil]
  simp(disch:=first|omega|simp only[vl];omega) only[AA]
 |.nd l r,o,h,ho=>by
  simp only[BT.n]at h ho
  have hw:=Bm (x:=l)
  have k1:=S9 (x:=l) (o:=o) (by omega) (by omega)
  have k2:=Ie (K:=K) r (by omega)
  have k3:=S9 (x:=r) (o:=o++l.w++[(r.n:Int)]) (by omega) (by simp only[A7,AY,Ap];omega)
  refine qb Ns rfl ?_;simp only[Ns]
  simp only[BT.d,BT.w]
  simp(disch:=first|omega|simp only[vl];omega) only[AA,BT.DZ,JU]
  refine AD (k1) rfl ?_
  simp(disch:=first|omega|simp only[vl];omega) only[AA,BT.DZ]
  refine AD (k2) rfl ?_
  simp(disch:=first|omega|simp only[vl];omega) only[AA,BT.DZ]
  refine AD (k3) rfl ?_
  simp(disch:=first|omega|simp only[vl];omega) only[AA]
  simp
theorem KY[HA K]{x:BT}(h:x.n≤8):K 171 [.s x.t] [LI x.w]:=by have k1:=S9 (K:=K) (x:=x) (o:=[]) h (by simp only[Ap];omega);refine qb AMG rfl ?_;simp only[AMG];simp(disch:=omega) only[AA];refine AD (KW (K:=K) h) rfl ?_;simp(disch:=omega) only[AA,BT.DZ];refine AD (k1) rfl ?_;simp(disch:=omega) only[AA]
def Hq:BT→Nat
 |.lf=>0
 |.nd _ r=>r.n
theorem Ca:∀{x:BT}{v:Nat},v<x.n→AE x.w (v:Nat)=Hq (x.at (v:Nat))
 |.lf,v,h=>by simp[BT.n]at h
 |.nd l r,v,h=>by
  simp only[BT.n]at h
  have hl:=Bm (x:=l)
  have hr:=Bm (x:=r)
  simp only[BT.w,BT.at]
  by_cases q:v<l.n
  ·rw[if_pos (by omega),←Ca q]
   simp only[AE,BH,Al]
   rw[CI,DC (by omega)]
  ·rw[if_neg (by omega)]
   by_cases q2:l.n<v
   ·rw[if_pos (by omega),show((v:Nat):Int)-l.n-1=((v-l.n-1:Nat):Int) by omega,←Ca (x:=r) (v:=v-l.n-1) (by omega)]
    simp only[AE,BH,Al]
    rw[F5 (by simp only[A7,AY,Ap];omega)]
    simp only[A7,AY,Ap,hl]
    congr 2
   ·obtain rfl:v=l.n:=by omega
    rw[if_neg (by omega)]
    simp only[AE,BH,Al,Hq]
    rw[DC (by simp only[A7,AY,Ap];omega),F5 (by omega)]
    simp[hl]
theorem AE3{a b:List Int}(h:a.length=b.length)(h2:∀i:Nat,i<a.length→AE a i=AE b i):a=b:=by refine List.ext_getElem h fun i h3 h4=>?_;have:=h2 i h3;simpa[AE,h3,h4]using this
theorem AYY{x:BT}{i:Nat}(h:i<x.n):x.w.take (i+1)=x.w.take i++[AE x.w (i:Nat)]:=by have hl:=Bm (x:=x);rw[CU (by omega)];congr 1;simp[AE,show i<x.w.length by omega]
theorem Lk[HA K]{x:BT}(h:x.n≤8):K 164 [.s x.t] [LI x.w]:=by
 have hw:=Bm (x:=x);refine qb ACO rfl ?_;simp only[ACO];simp(disch:=first|omega|simp only[vl];omega) only[AA];refine Au (fun i (r:List Int)=>r=x.w.take i) (fun i r=>[.s x.t,.u,LI r,.n i,.u,.u,.u]) x.n [] rfl rfl (fun i r hi hP=>?_) (fun r hP=>?_)
 ·have hr:r.length=i:=by rw[hP,List.length_take];omega
  obtain⟨a,b,hab⟩:=KQ (x:=x) (v:=(i:Nat)) (by omega) (by omega);have k1:=Lx (K:=K) (x:=x) (v:=(i:Nat)) h (by omega) (by omega);have hn:=MN (x:=x) (v:=(i:Nat));have ha:=Ca (x:=x) (v:=i) hi;rw[hab]at k1 hn ha;simp only[Hq]at ha;have hn':=hn;simp only[BT.n]at hn';have ta:=BT.tl a;have tb:=BT.tl b;have hl:=GM (a:=a) (b:=b);have ke:=HQ (K:=K) (a:=a) (b:=b) (by omega);have e1:((BT.nd a b).t.length:Int)-1-(1+(a.t.length:Int))-1=3*b.n:=by rw[hl];omega
  have e2:(3*(b.n:Int)).tdiv 3=b.n:=by rw[Int.mul_comm];exact Int.mul_tdiv_cancel _ (by omega)
  have e3:(3*(b.n:Int))/3=b.n:=by omega
  generalize hg:(BT.nd a b).t=w at hl ke e1;rw[hg]at k1;simp(disch:=first|omega|simp only[vl];omega) only[AA];refine AD (Dz (K:=K) h) rfl ?_;simp(disch:=first|omega|simp only[vl];omega) only[AA];refine AD (k1) rfl ?_;simp(disch:=first|omega|simp only[vl];omega) only[AA];refine AD (ke) rfl ?_;simp(disch:=first|omega|simp only[vl];omega) only[AA,e1,e2,e3];refine⟨_,?_,rfl⟩;rw[AYY hi,ha,hP]
 ·simp(disch:=first|omega|simp only[vl];omega) only[AA];refine AD (Dz (K:=K) h) rfl ?_;simp(disch:=first|omega|simp only[vl];omega) only[AA];rw[hP,List.take_of_length_le (by omega)]
def C5:BT→Int→List Int
 |.lf,d=>[d]
 |.nd l r,d=>C5 l (d+1)++C5 r (d+1)
theorem Mw:∀{x:BT}{d:Int},(C5 x d).length=x.n+1
 |.lf,_=>rfl
 |.nd l r,d=>by simp only[C5,BT.n,A7,Mw (x:=l),Mw (x:=r)];omega
theorem Mc:∀{x:BT}{d y:Int},y∈C5 x d→d≤y∧y≤d+x.n
 |.lf,d,y,h=>by simp[C5]at h;simp only[BT.n];omega
 |.nd l r,d,y,h=>by
  simp only[C5,Af]at h
  simp only[BT.n]
  rcases h with h|h
  ·have:=Mc h;omega
  ·have:=Mc h;omega
theorem R2[HA K]:∀{x:BT}{d:Int}{o:List Int},x.n≤8→0≤d→d+x.n≤1000→o.length+x.n≤100→K 209 [x.d,.n d,LI o] [LI (o++C5 x d)]
 |.lf,d,o,_,_,hd2,ho=>by
  simp only[BT.n]at ho hd2
  refine qb PH rfl ?_;simp only[PH]
  simp only[BT.d,C5]
  simp(disch:=first|omega|simp only[vl];omega) only[AA]
 |.nd l r,d,o,h,hd,hd2,ho=>by
  simp only[BT.n]at h ho hd2
  have hl:=Mw (x:=l) (d:=d+1)
  have k1:=R2 (x:=l) (d:=d+1) (o:=o) (by omega) (by omega) (by omega) (by omega)
  have k2:=R2 (x:=r) (d:=d+1) (o:=o++C5 l (d+1)) (by omega) (by omega) (by omega) (by rw[A7];omega)
  refine qb PH rfl ?_;simp only[PH]
  simp only[BT.d,C5]
  simp(disch:=first|omega|simp only[vl];omega) only[AA,BT.DZ,JU]
  refine AD (k1) rfl ?_
  simp(disch:=first|omega|simp only[vl];omega) only[AA,BT.DZ]
  refine AD (k2) rfl ?_
  simp(disch:=first|omega|simp only[vl];omega) only[AA]
  simp
end Go.Cat
