/-
 Lists of all paths: the closure that makes them, and what stands in them.
-/
import Derived.Test.YthoilpmggmenbaaGreatQd0LawReports
import Derived.Test.YthoilpmggmenbaaGreatQd1LawReports
import Derived.Test.YthoilpmggmenbaaGreatQd2LawReports
import Derived.Test.YthoilpmggmenbaaGreatQd3LawReports
import Derived.Test.YthoilpmggmenbaaGreatPfPlane
import Derived.Test.YthoilpmggmenbaaGreatPfStat
import Derived.Test.YthoilpmggmenbaaGreatPfRankA
import Derived.Test.YthoilpmggmenbaaGreatPfWrite
import Derived.Test.YthoilpmggmenbaaGreatPfRotM
import Derived.Test.YthoilpmggmenbaaGreatPfTri2
import Derived.Test.YthoilpmggmenbaaGreatCatFour
set_option linter.unusedSimpArgs false
set_option linter.unusedVariables false
namespace Go.Cat
variable{K:Nat→List D→List D→Prop}
end Go.Cat
namespace Go.Cat
variable{K:Nat→List D→List D→Prop}
noncomputable def GU(w:List Nat):Nat→List Nat
 |0=>[107,105,110,100,115]
 |i+1=>GU w i++[32]++AO GK i++[32]++([91]++CL w i++[93])
theorem Rx{w:List Nat}(hd:AM w=true):∀i:Nat,(CL w i).length≤5000
 |0=>by have hl:=(Ah hd).l;simp only[CL];omega
 |1=>by have hl:=(Ah hd).l;have:=Pn (w:=w);simp only[CL];omega
 |2=>by
  have hl:=KR hd
  simp only[CL,H7]
  split
  ·rename_i h
   obtain⟨h1,h2⟩:=T3 h
   have:=KU (sep:=[44]) (UO h2)
   have h3:=VD (p:=Dv w)
   have h4:(E2 (Dv w)).length*(20+[44].length)≤9*21:=Nat.mul_le_mul (by omega) (by simp)
   omega
  ·simp
 |3=>by
  obtain⟨x,rfl,hx⟩:=IY hd
  have:=BT.tl x
  simp only[CL,KG];omega
 |4=>by
  have hl:=(Ah hd).l
  have h1:=UL (d:=BP (H4 w))
  have h2:=BB (n:=(w.length:Int)/2+2) (by omega)
  simp only[CL,A7,AY,Ap];omega
 |5=>by
  have h1:=KU (sep:=[124]) (RO (p:=DO w))
  have h2:=U2 (p:=DO w)
  have h3:=Uz (p:=DO w)
  have h4:(EH (DO w)).length*(160+[124].length)≤8*161:=Nat.mul_le_mul (by omega) (by simp)
  simp only[CL,Im];omega
 |6=>by
  have hl:=V8 hd
  simp only[CL,FU]
  split
  ·rename_i h
   split
   ·simp
   ·have h1:=KU (sep:=[32]) (NU h (EA w).length (Nat.le_refl _))
    have h2:=N3 (m:=EA w) (EA w).length
    have h4:(Bk (EA w) (EA w).length).length*(41+[32].length)≤16*42:=Nat.mul_le_mul (by omega) (by simp)
    omega
  ·simp
 |7=>by
  have hl:=(Ah hd).l
  have h1:=V3 (w:=w)
  have h3:=I0 (r:=C7 w) (fun j _=>by have:=Ut hl j;omega) (C7 w).length (Nat.le_refl _)
  simp only[CL];omega
 |8=>by
  have hl:=(Ah hd).l
  have h1:=Kr hd
  have h3:=BB (n:=DU w) (by omega)
  have h4:=BB (n:=(w.length:Int)/2) (by omega)
  simp only[CL,A7,AY,Ap];omega
 |i+9=>by simp[CL]
theorem TI{i:Nat}:(AO GK i).length≤12:=Ql (b:=12) (ws:=GK) (by decide)
theorem R8{w:List Nat}(hd:AM w=true):∀i:Nat,(GU w i).length≤5+i*5020
 |0=>by simp[GU]
 |i+1=>by
  have h:=R8 hd i
  have h1:=Rx hd i
  have h2:=TI (i:=i)
  simp only[GU,A7,AY,Ap];omega
theorem kl_i[HA K]{w:List Nat}(h:w.length≤1048576):K 526 [.s w] [.s (if AM w=true then GU w 9 else [])]:=by
 refine qb AJY rfl ?_;simp only[AJY];simp(disch:=first|omega|simp only[vl];omega) only[AA]
 cases hd:AM w
 ·repeat(first|(refine AD (Bv (K:=K) (w:=w) (by omega)) rfl ?_;try simp(disch:=first|omega|simp only[vl];omega) only[AA,hd]))
  rfl
 ·repeat(first|(refine AD (Bv (K:=K) (w:=w) (by omega)) rfl ?_;try simp(disch:=first|omega|simp only[vl];omega) only[AA,hd]))
  refine AD (AXP (K:=K)) rfl ?_;have e9:GK.length=9:=rfl;simp(disch:=first|omega|simp only[vl];omega) only[AA];refine AL (fun _=>True) (fun i=>[.s w,.u,.s (GU w i),.u,.u,.u,LS GK,.n 9,.n i,.u]) 9 trivial rfl (fun i hi _=>?_) (fun _=>?_)
  ·have b1:=Rx hd i;have b4:=TI (i:=i);have b5:=R8 hd i;simp(disch:=first|omega|simp only[vl];omega) only[AA];refine AD (AbH (K:=K) hd i hi) rfl ?_;simp(disch:=first|omega|simp only[vl];omega) only[AA,UP];have kl:=Gb (K:=K) (ws:=[GU w i,AO GK i,[91]++CL w i++[93]]) (by simp) (by simp;omega);refine AD (kl) rfl ?_;simp(disch:=first|omega|simp only[vl];omega) only[AA,Ve];rfl
  ·simp(disch:=first|omega|simp only[vl];omega) only[AA]
theorem kl_s[HA K]{w:List Nat}(h:w.length≤1048576):K 525 [.s w] [.s (if AM w=true then GU w 9 else [])]:=by
 refine qb Z9 rfl ?_;simp only[Z9];simp(disch:=first|omega|simp only[vl];omega) only[AA]
 cases hd:AM w
 ·repeat(first|(refine AD (Bt (K:=K) (w:=w) (by omega)) rfl ?_;try simp(disch:=first|omega|simp only[vl];omega) only[AA,hd]))
  rfl
 ·repeat(first|(refine AD (Bt (K:=K) (w:=w) (by omega)) rfl ?_;try simp(disch:=first|omega|simp only[vl];omega) only[AA,hd]))
  refine AD (Ad3 (K:=K)) rfl ?_;have e9:GK.length=9:=rfl;simp(disch:=first|omega|simp only[vl];omega) only[AA];refine AL (fun _=>True) (fun i=>[.s w,.u,.s (GU w i),LS GK,.n i,.u,.u,.u]) 9 trivial rfl (fun i hi _=>?_) (fun _=>?_)
  ·have b1:=Rx hd i;have b4:=TI (i:=i);have b5:=R8 hd i;simp(disch:=first|omega|simp only[vl];omega) only[AA];refine AD (AW0 (K:=K) hd i hi) rfl ?_;simp(disch:=first|omega|simp only[vl];omega) only[AA];simp[GU]
  ·simp(disch:=first|omega|simp only[vl];omega) only[AA]
end Go.Cat
namespace Go.Cat
variable{K:Nat→List D→List D→Prop}
def BT.at:BT→Int→BT
 |.lf,_=>.lf
 |.nd l r,v=>if v<l.n then l.at v else if(l.n:Int)<v then r.at (v-l.n-1)else .nd l r
def BT.rep:BT→Int→BT→BT
 |.lf,_,_=>.lf
 |.nd l r,v,y=>if v<l.n then .nd (l.rep v y) r else if(l.n:Int)<v then .nd l (r.rep (v-l.n-1) y)else y
theorem KQ:∀{x:BT}{v:Int},0≤v→v<x.n→∃a b,x.at v=.nd a b
 |.lf,v,h1,h2=>by simp only[BT.n]at h2;omega
 |.nd l r,v,h1,h2=>by
  simp only[BT.n]at h2
  simp only[BT.at]
  split
  ·exact KQ h1 (by omega)
  ·split
   ·exact KQ (by omega) (by omega)
   ·exact⟨_,_,rfl⟩
theorem MN:∀{x:BT}{v:Int},(x.at v).n≤x.n
 |.lf,_=>Nat.le_refl _
 |.nd l r,v=>by
  simp only[BT.at]
  split
  ·have:=MN (x:=l) (v:=v);simp only[BT.n];omega
  ·split
   ·have:=MN (x:=r) (v:=v-l.n-1);simp only[BT.n];omega
   ·exact Nat.le_refl _
theorem AFY:∀{x:BT}{v:Int},v<0∨(x.n:Int)≤v→BF x v=none
 |.lf,_,_=>rfl
 |.nd l r,v,h=>by
  simp only[BT.n]at h
  simp only[BF]
  split
  ·rfl
  ·rw[if_neg (by omega),if_neg (by omega),AFY (by omega)];rfl
theorem ACS:∀{x:BT}{v:Int},v<0∨(x.n:Int)≤v→By x v=none
 |.lf,_,_=>rfl
 |.nd l r,v,h=>by
  simp only[BT.n]at h
  simp only[By]
  split
  ·rfl
  ·rw[if_neg (by omega),if_neg (by omega),ACS (by omega)];rfl
theorem OO:∀{x:BT}{v:Int}{c:BT},0≤v→v<x.n→x.at v=.nd .lf c→BF x v=none
 |.lf,_,_,_,_,_=>rfl
 |.nd l r,v,c,h1,h2,h=>by
  simp only[BT.n]at h2
  simp only[BT.at]at h
  simp only[BF]
  rw[if_neg (by omega)]
  by_cases q:v<(l.n:Int)
  ·rw[if_pos q]at h⊢
   rw[OO h1 q h];rfl
  ·rw[if_neg q]at h⊢
   by_cases q2:(l.n:Int)<v
   ·rw[if_pos q2]at h
    rw[if_neg (by omega),OO (by omega) (by omega) h];rfl
   ·rw[if_neg q2]at h
    rw[if_pos (by omega)]
    injection h with h3 _
    subst h3
    rfl
theorem LO:∀{x:BT}{v:Int}{a b c:BT},0≤v→v<x.n→x.at v=.nd (.nd a b) c→BF x v=some (x.rep v (.nd a (.nd b c)))
 |.lf,v,_,_,_,h1,h2,_=>by simp only[BT.n]at h2;omega
 |.nd l r,v,a,b,c,h1,h2,h=>by
  simp only[BT.n]at h2
  simp only[BT.at]at h
  simp only[BF,BT.rep]
  rw[if_neg (by omega)]
  by_cases q:v<(l.n:Int)
  ·rw[if_pos q]at h⊢
   rw[LO h1 q h,if_pos q];rfl
  ·rw[if_neg q]at h⊢
   rw[if_neg q]
   by_cases q2:(l.n:Int)<v
   ·rw[if_pos q2]at h⊢
    rw[if_neg (by omega),LO (by omega) (by omega) h];rfl
   ·rw[if_neg q2]at h⊢
    rw[if_pos (by omega)]
    injection h with h3 h4
    subst h3 h4
    rfl
theorem SV:∀{x:BT}{v:Int}{c:BT},0≤v→v<x.n→x.at v=.nd c .lf→By x v=none
 |.lf,_,_,_,_,_=>rfl
 |.nd l r,v,c,h1,h2,h=>by
  simp only[BT.n]at h2
  simp only[BT.at]at h
  simp only[By]
  rw[if_neg (by omega)]
  by_cases q:v<(l.n:Int)
  ·rw[if_pos q]at h⊢
   rw[SV h1 q h];rfl
  ·rw[if_neg q]at h⊢
   by_cases q2:(l.n:Int)<v
   ·rw[if_pos q2]at h
    rw[if_neg (by omega),SV (by omega) (by omega) h];rfl
   ·rw[if_neg q2]at h
    rw[if_pos (by omega)]
    injection h with h3 h4
    subst h4
    rfl
theorem UE:∀{x:BT}{v:Int}{a b c:BT},0≤v→v<x.n→x.at v=.nd a (.nd b c)→By x v=some (x.rep v (.nd (.nd a b) c))
 |.lf,v,_,_,_,h1,h2,_=>by simp only[BT.n]at h2;omega
 |.nd l r,v,a,b,c,h1,h2,h=>by
  simp only[BT.n]at h2
  simp only[BT.at]at h
  simp only[By,BT.rep]
  rw[if_neg (by omega)]
  by_cases q:v<(l.n:Int)
  ·rw[if_pos q]at h⊢
   rw[UE h1 q h,if_pos q];rfl
  ·rw[if_neg q]at h⊢
   rw[if_neg q]
   by_cases q2:(l.n:Int)<v
   ·rw[if_pos q2]at h⊢
    rw[if_neg (by omega),UE (by omega) (by omega) h];rfl
   ·rw[if_neg q2]at h⊢
    rw[if_pos (by omega)]
    injection h with h3 h4
    subst h3 h4
    rfl
theorem AMX{a:BT}:((a.t.length:Int)-1).tdiv 3=a.n:=by rw[BT.tl,Int.tdiv_eq_ediv_of_nonneg (by omega)];omega
theorem AEL{a:BT}:((a.t.length:Int)-1)/3=a.n:=by rw[BT.tl];omega
theorem O6:∀{x:BT}{v:Int}{y:BT},(x.rep v y).n≤x.n+y.n
 |.lf,_,_=>by simp[BT.rep,BT.n]
 |.nd l r,v,y=>by
  simp only[BT.rep]
  split
  ·have:=O6 (x:=l) (v:=v) (y:=y);simp only[BT.n];omega
  ·split
   ·have:=O6 (x:=r) (v:=v-l.n-1) (y:=y);simp only[BT.n];omega
   ·omega
theorem Lx[HA K]:∀{x:BT}{v:Int},x.n≤8→0≤v→v<x.n→K 191 [.s x.t,.n v] [.s (x.at v).t]
 |.lf,v,_,h1,h2=>by simp only[BT.n]at h2;omega
 |.nd a b,v,h,h1,h2=>by
  have h':=h
  have h2':=h2
  simp only[BT.n]at h' h2'
  have ta:=BT.tl a
  have tb:=BT.tl b
  have hl:=GM (a:=a) (b:=b)
  have ea:=Hd (a:=a) (b:=b)
  have ke:=HQ (K:=K) (a:=a) (b:=b) (by omega)
  have e0:=J6 (a:=a) (b:=b)
  have eb:=HZ (a:=a) (b:=b) (j:=(BT.nd a b).t.length-1) rfl
  have hq:=AMX (a:=a)
  have hq2:=AEL (a:=a)
  simp only[BT.at]
  by_cases q:v<(a.n:Int)
  ·have k1:=Lx (x:=a) (v:=v) (by omega) h1 q
   rw[if_pos q]
   generalize hw:(BT.nd a b).t=w at hl ea eb ke e0
   refine qb K9 rfl ?_;simp only[K9]
   simp(disch:=omega) only[AA,e0]
   refine AD (ke) rfl ?_
   simp(disch:=omega) only[AA,ea,hq,hq2]
   refine AD (k1) rfl ?_
   simp(disch:=omega) only[AA]
  ·rw[if_neg q]
   by_cases q2:(a.n:Int)<v
   ·have k2:=Lx (x:=b) (v:=v-a.n-1) (by omega) (by omega) (by omega)
    rw[if_pos q2]
    generalize hw:(BT.nd a b).t=w at hl ea eb ke e0
    refine qb K9 rfl ?_;simp only[K9]
    simp(disch:=omega) only[AA,e0]
    refine AD (ke) rfl ?_
    simp(disch:=omega) only[AA,ea,hq,hq2,eb]
    refine AD (k2) rfl ?_
    simp(disch:=omega) only[AA]
   ·rw[if_neg q2]
    generalize hw:(BT.nd a b).t=w at hl ea eb ke e0
    refine qb K9 rfl ?_;simp only[K9]
    simp(disch:=omega) only[AA,e0]
    refine AD (ke) rfl ?_
    simp(disch:=omega) only[AA,ea,hq,hq2]
theorem P5[HA K]:∀{x:BT}{v:Int}{y:BT},x.n≤8→y.n≤8→0≤v→v<x.n→K 207 [.s x.t,.n v,.s y.t] [.s (x.rep v y).t]
 |.lf,v,_,_,_,h1,h2=>by simp only[BT.n]at h2;omega
 |.nd a b,v,y,h,hy,h1,h2=>by
  have h':=h
  have h2':=h2
  simp only[BT.n]at h' h2'
  have ta:=BT.tl a
  have tb:=BT.tl b
  have hl:=GM (a:=a) (b:=b)
  have ea:=Hd (a:=a) (b:=b)
  have ke:=HQ (K:=K) (a:=a) (b:=b) (by omega)
  have e0:=J6 (a:=a) (b:=b)
  have eb:=HZ (a:=a) (b:=b) (j:=(BT.nd a b).t.length-1) rfl
  have hq:=AMX (a:=a)
  have hq2:=AEL (a:=a)
  simp only[BT.rep]
  by_cases q:v<(a.n:Int)
  ·have k1:=P5 (x:=a) (v:=v) (y:=y) (by omega) hy h1 q
   have n1:=O6 (x:=a) (v:=v) (y:=y)
   have t1:=BT.tl (a.rep v y)
   rw[if_pos q]
   simp only[BT.t]
   generalize hw:(BT.nd a b).t=w at hl ea eb ke e0
   simp only[BT.t]at hw
   rw[hw]
   refine qb Ka rfl ?_;simp only[Ka]
   simp(disch:=first|omega|simp only[vl];omega) only[AA,e0]
   refine AD (ke) rfl ?_
   simp(disch:=first|omega|simp only[vl];omega) only[AA,ea,hq,hq2,eb]
   refine AD (k1) rfl ?_
   simp(disch:=first|omega|simp only[vl];omega) only[AA]
   simp
  ·rw[if_neg q]
   by_cases q2:(a.n:Int)<v
   ·have k2:=P5 (x:=b) (v:=v-a.n-1) (y:=y) (by omega) hy (by omega) (by omega)
    have n1:=O6 (x:=b) (v:=v-a.n-1) (y:=y)
    have t1:=BT.tl (b.rep (v-a.n-1) y)
    rw[if_pos q2]
    simp only[BT.t]
    generalize hw:(BT.nd a b).t=w at hl ea eb ke e0
    simp only[BT.t]at hw
    rw[hw]
    refine qb Ka rfl ?_;simp only[Ka]
    simp(disch:=first|omega|simp only[vl];omega) only[AA,e0]
    refine AD (ke) rfl ?_
    simp(disch:=first|omega|simp only[vl];omega) only[AA,ea,hq,hq2,eb]
    refine AD (k2) rfl ?_
    simp(disch:=first|omega|simp only[vl];omega) only[AA]
    simp
   ·rw[if_neg q2]
    generalize hw:(BT.nd a b).t=w at hl ea eb ke e0
    refine qb Ka rfl ?_;simp only[Ka]
    simp(disch:=first|omega|simp only[vl];omega) only[AA,e0]
    refine AD (ke) rfl ?_
    simp(disch:=first|omega|simp only[vl];omega) only[AA,ea,hq,hq2,eb]
def Dp(y:Option BT):List D:=[.s (y.elim [] BT.t),.b y.isSome]
theorem U5{a b:BT}:¬(BT.nd a b).t=[46]:=by simp[BT.t]
theorem Tz[HA K]{x:BT}{v:Int}(h:x.n≤8)(hv:-1000000000≤v∧v≤1000000000):K 192 [.s x.t,.n v] (Dp (BF x v)):=by
 refine qb WW rfl ?_;simp only[WW];simp(disch:=first|omega|simp only[vl];omega) only[AA];refine AD (Dz (K:=K) h) rfl ?_;simp(disch:=first|omega|simp only[vl];omega) only[AA];refine AD (Bj (K:=K)) rfl ?_
 cases hi:AV 0 ((x.n:Int)-1) v
 ·have:v<0∨(x.n:Int)≤v:=by
   have:=Nc.1 hi
   omega
  simp(disch:=first|omega|simp only[vl];omega) only[AA]
  rw[AFY this]
  rfl
 ·have hi2:=A8.1 hi;obtain⟨a,b,hab⟩:=KQ (x:=x) (v:=v) (by omega) (by omega);have k1:=Lx (K:=K) (x:=x) (v:=v) h (by omega) (by omega);have hn:=MN (x:=x) (v:=v);rw[hab]at k1 hn;have hn':=hn;simp only[BT.n]at hn';have ta:=BT.tl a;have tb:=BT.tl b;have hl:=GM (a:=a) (b:=b);have ea:=Hd (a:=a) (b:=b);have ke:=HQ (K:=K) (a:=a) (b:=b) (by omega);have eb:=HZ (a:=a) (b:=b) (j:=(BT.nd a b).t.length-1) rfl;simp(disch:=first|omega|simp only[vl];omega) only[AA];refine AD (k1) rfl ?_;simp(disch:=first|omega|simp only[vl];omega) only[AA];refine AD (ke) rfl ?_
  cases a with
  |lf=>
   have e3:(BT.lf.t==[46])=true:=rfl
   simp(disch:=first|omega|simp only[vl];omega) only[AA,ea,e3]
   rw[OO (by omega) (by omega) hab]
   rfl
  |nd a1 a2=>
   have e3:=J6 (a:=a1) (b:=a2)
   have e4:=U5 (a:=a1) (b:=a2)
   have hn2:=hn'
   simp only[BT.n]at hn2
   have ta1:=BT.tl a1
   have ta2:=BT.tl a2
   have hl2:=GM (a:=a1) (b:=a2)
   have ea2:=Hd (a:=a1) (b:=a2)
   have ke2:=HQ (K:=K) (a:=a1) (b:=a2) (by omega)
   have eb2:=HZ (a:=a1) (b:=a2) (j:=(BT.nd a1 a2).t.length-1) rfl
   have k5:=P5 (K:=K) (x:=x) (v:=v) (y:=.nd a1 (.nd a2 b)) h (by simp only[BT.n];omega) (by omega) (by omega)
   rw[LO (by omega) (by omega) hab]
   simp(disch:=first|omega|simp only[vl];omega) only[AA,ea,e3,e4]
   refine AD (ke2) rfl ?_
   simp(disch:=first|omega|simp only[vl];omega) only[AA,ea2,eb2,eb]
   have ey:(40::(a1.t++[40]++a2.t++b.t++[41,41]))=(BT.nd a1 (.nd a2 b)).t:=by simp[BT.t]
   rw[ey]
   refine AD (k5) rfl ?_
   simp(disch:=first|omega|simp only[vl];omega) only[AA]
   rfl
theorem rl_s[HA K]{x:BT}{v:Int}(h:x.n≤8)(hv:-1000000000≤v∧v≤1000000000):K 193 [.s x.t,.n v] (Dp (By x v)):=by
 refine qb XB rfl ?_;simp only[XB];simp(disch:=first|omega|simp only[vl];omega) only[AA];refine AD (Dz (K:=K) h) rfl ?_;simp(disch:=first|omega|simp only[vl];omega) only[AA];refine AD (Bj (K:=K)) rfl ?_
 cases hi:AV 0 ((x.n:Int)-1) v
 ·have:v<0∨(x.n:Int)≤v:=by
   have:=Nc.1 hi
   omega
  simp(disch:=first|omega|simp only[vl];omega) only[AA]
  rw[ACS this]
  rfl
 ·have hi2:=A8.1 hi;obtain⟨b,a,hab⟩:=KQ (x:=x) (v:=v) (by omega) (by omega);have k1:=Lx (K:=K) (x:=x) (v:=v) h (by omega) (by omega);have hn:=MN (x:=x) (v:=v);rw[hab]at k1 hn;have hn':=hn;simp only[BT.n]at hn';have ta:=BT.tl a;have tb:=BT.tl b;have hl:=GM (a:=b) (b:=a);have ea:=Hd (a:=b) (b:=a);have ke:=HQ (K:=K) (a:=b) (b:=a) (by omega);have eb:=HZ (a:=b) (b:=a) (j:=(BT.nd b a).t.length-1) rfl;simp(disch:=first|omega|simp only[vl];omega) only[AA];refine AD (k1) rfl ?_;simp(disch:=first|omega|simp only[vl];omega) only[AA];refine AD (ke) rfl ?_
  cases a with
  |lf=>
   have e3:(BT.lf.t==[46])=true:=rfl
   simp(disch:=first|omega|simp only[vl];omega) only[AA,eb,e3]
   rw[SV (by omega) (by omega) hab]
   rfl
  |nd a1 a2=>
   have e3:=J6 (a:=a1) (b:=a2)
   have e4:=U5 (a:=a1) (b:=a2)
   have hn2:=hn'
   simp only[BT.n]at hn2
   have ta1:=BT.tl a1
   have ta2:=BT.tl a2
   have hl2:=GM (a:=a1) (b:=a2)
   have ea2:=Hd (a:=a1) (b:=a2)
   have ke2:=HQ (K:=K) (a:=a1) (b:=a2) (by omega)
   have eb2:=HZ (a:=a1) (b:=a2) (j:=(BT.nd a1 a2).t.length-1) rfl
   have k5:=P5 (K:=K) (x:=x) (v:=v) (y:=.nd (.nd b a1) a2) h (by simp only[BT.n];omega) (by omega) (by omega)
   rw[UE (by omega) (by omega) hab]
   simp(disch:=first|omega|simp only[vl];omega) only[AA,eb,e3,e4]
   refine AD (ke2) rfl ?_
   simp(disch:=first|omega|simp only[vl];omega) only[AA,ea,ea2,eb2,eb]
   have ey:(40::40::(b.t++a1.t++[41]++a2.t++[41]))=(BT.nd (.nd b a1) a2).t:=by simp[BT.t]
   rw[ey]
   refine AD (k5) rfl ?_
   simp(disch:=first|omega|simp only[vl];omega) only[AA]
   rfl
def C4(f:BT→Int→Option BT)(x:BT)(k:Nat):List BT:=(List.range k).filterMap fun i:Nat=>f x i
theorem Hf{f:BT→Int→Option BT}{x:BT}{k:Nat}:C4 f x (k+1)=C4 f x k++(f x (k:Nat)).toList:=by simp only[C4,List.range_succ,List.filterMap_append];congr 1
theorem F2{f:BT→Int→Option BT}{x:BT}{k:Nat}:(C4 f x k).length≤k:=by have:=List.length_filterMap_le (fun i:Nat=>f x i) (List.range k);simpa[C4]using this
abbrev DK(l:List BT):D:=LS (l.map BT.t)
theorem AV2[HA K][El K]{x:BT}(h:x.n≤8):K 201 [.s x.t,.f 200 []] [DK (C4 BF x x.n)]:=by
 refine qb ADB rfl ?_;simp only[ADB];simp(disch:=first|omega|simp only[vl];omega) only[AA];refine Au (fun i (r:List (List Nat))=>r=(C4 BF x i).map BT.t) (fun i r=>[.s x.t,.f 200 [],.u,LS r,.n i,.u,.u,.u,.u]) x.n [] rfl rfl (fun i r hi hP=>?_) (fun r hP=>?_)
 ·have hl:=F2 (f:=BF) (x:=x) (k:=i);have hr:r.length≤i:=by rw[hP,List.length_map];exact hl
  simp(disch:=first|omega|simp only[vl];omega) only[AA];refine AD (Fk (K:=K) h) rfl ?_;have k1:=El.rr (K:=K) x (i:Nat) h (by omega) (by omega);simp(disch:=first|omega|simp only[vl];omega) only[AA];refine AD (k1) rfl ?_
  cases hy:BF x (i:Nat)with
  |none=>
   simp only[Option.isSome_none,Option.elim_none]
   simp(disch:=first|omega|simp only[vl];omega) only[AA]
   refine⟨_,?_,rfl⟩
   rw[hP,Hf,hy]
   simp
  |some y=>
   simp only[Option.isSome_some,Option.elim_some]
   have tn:=BT.tl y
   have hn:=Fa hy
   simp(disch:=first|omega|simp only[vl];omega) only[AA]
   refine⟨_,?_,rfl⟩
   rw[hP,Hf,hy]
   simp
 ·simp(disch:=first|omega|simp only[vl];omega) only[AA];refine AD (Fk (K:=K) h) rfl ?_;simp(disch:=first|omega|simp only[vl];omega) only[AA];rw[hP]
theorem AR1[HA K][El K]{x:BT}(h:x.n≤8):K 201 [.s x.t,.f 202 []] [DK (C4 By x x.n)]:=by
 refine qb AOU rfl ?_;simp only[AOU];simp(disch:=first|omega|simp only[vl];omega) only[AA];refine Au (fun i (r:List (List Nat))=>r=(C4 By x i).map BT.t) (fun i r=>[.s x.t,.f 202 [],.u,LS r,.n i,.u,.u,.u,.u]) x.n [] rfl rfl (fun i r hi hP=>?_) (fun r hP=>?_)
 ·have hl:=F2 (f:=By) (x:=x) (k:=i);have hr:r.length≤i:=by rw[hP,List.length_map];exact hl
  simp(disch:=first|omega|simp only[vl];omega) only[AA];refine AD (Fk (K:=K) h) rfl ?_;have k1:=El.rl (K:=K) x (i:Nat) h (by omega) (by omega);simp(disch:=first|omega|simp only[vl];omega) only[AA];refine AD (k1) rfl ?_
  cases hy:By x (i:Nat)with
  |none=>
   simp only[Option.isSome_none,Option.elim_none]
   simp(disch:=first|omega|simp only[vl];omega) only[AA]
   refine⟨_,?_,rfl⟩
   rw[hP,Hf,hy]
   simp
  |some y=>
   simp only[Option.isSome_some,Option.elim_some]
   have tn:=BT.tl y
   have hn:=J8 hy
   simp(disch:=first|omega|simp only[vl];omega) only[AA]
   refine⟨_,?_,rfl⟩
   rw[hP,Hf,hy]
   simp
 ·simp(disch:=first|omega|simp only[vl];omega) only[AA];refine AD (Fk (K:=K) h) rfl ?_;simp(disch:=first|omega|simp only[vl];omega) only[AA];rw[hP]
end Go.Cat
