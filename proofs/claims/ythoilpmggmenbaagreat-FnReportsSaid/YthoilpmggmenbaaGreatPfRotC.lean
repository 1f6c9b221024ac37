/-
 Levels of leaves, heights.
-/
import Derived.Test.YthoilpmggmenbaaGreatQd0LawReports
import Derived.Test.YthoilpmggmenbaaGreatQd1LawReports
import Derived.Test.YthoilpmggmenbaaGreatQd2LawReports
import Derived.Test.YthoilpmggmenbaaGreatQd3LawReports
import Derived.Test.YthoilpmggmenbaaGreatPfRotB
import Derived.Test.YthoilpmggmenbaaGreatPfFmt
import Derived.Test.YthoilpmggmenbaaGreatPfWr1
import Derived.Test.YthoilpmggmenbaaGreatPfMatP
import Derived.Test.YthoilpmggmenbaaGreatPfPLine
set_option linter.unusedSimpArgs false
set_option linter.unusedVariables false
namespace Go.Cat
variable{K:Nat→List D→List D→Prop}
def Da(s:Int×List Int)(c:Nat):Int×List Int:=if c=40 then(s.1+1,s.2)else if c=41 then(s.1-1,s.2)else(s.1,s.2++[s.1])
theorem Rs:∀{x:BT}{h:Int}{o:List Int},x.t.foldl Da (h,o)=(h,o++C5 x h)
 |.lf,h,o=>by simp[BT.t,Da,C5]
 |.nd l r,h,o=>by
  have e:(BT.nd l r).t=40::(l.t++(r.t++[41])):=rfl
  rw[e,List.foldl_cons,List.foldl_append,List.foldl_append,show Da (h,o) 40=(h+1,o)from rfl,Rs (x:=l),Rs (x:=r)]
  simp[Da,C5]
theorem AYB:∀{s:List Nat},-(s.length:Int)≤(s.foldl Da (0,[])).1∧(s.foldl Da (0,[])).1≤s.length∧(s.foldl Da (0,[])).2.length≤s.length:=by
 intro s;have key:∀(s:List Nat)(a:Int×List Int),a.1-s.length≤(s.foldl Da a).1∧(s.foldl Da a).1≤a.1+s.length∧(s.foldl Da a).2.length≤a.2.length+s.length:=by
  intro s;induction s with
  |nil=>intro a;simp
  |cons c s ih=>
   intro a
   have:=ih (Da a c)
   rw[List.foldl_cons,AY]
   have h2:a.1-1≤(Da a c).1∧(Da a c).1≤a.1+1∧(Da a c).2.length≤a.2.length+1:=by
    unfold Da
    split
    ·simp only;omega
    ·split
     ·simp only;omega
     ·simp only[A7,AY,Ap];omega
   omega
 have:=key s (0,[]);simp only[Ap]at this;omega
theorem ll_s[HA K]{x:BT}(h:x.n≤8):K 190 [.s x.t] [LI (C5 x 0)]:=by
 have ht:=BT.tl x;have hx:=Rs (x:=x) (h:=0) (o:=[]);have ki:=F8 (K:=K) (s:=x.t);rw[F7 h]at ki;have h256:=BT.LD x;generalize x.t=w at ht hx ki h256⊢;refine qb APF rfl ?_;simp only[APF];simp(disch:=first|omega|simp only[vl];omega) only[AA];refine Au (fun i (r:Int×List Int)=>r=(w.take i).foldl Da (0,[])) (fun i r=>[.s w,.u,LI r.2,.n r.1,.n i,.u,.u,.u,.u]) w.length (0,[]) rfl rfl (fun i r hi hP=>?_) (fun r hP=>?_)
 ·have hb:=AYB (s:=w.take i);rw[←hP,List.length_take]at hb;have hs:(w.take (i+1)).foldl Da (0,[])=Da r (w[i]'hi):=by rw[CU hi,List.foldl_append,←hP];rfl
  have hc0:w[i]'hi=AK w i:=by simp[AK,hi]
  rw[hc0]at hs;by_cases h1:AK w i=40
  ·simp(disch:=first|omega|simp only[vl];omega) only[AA];refine AD (ki) rfl ?_;simp(disch:=first|omega|simp only[vl];omega) only[AA];refine⟨(r.1+1,r.2),?_,rfl⟩;rw[hs,Da,if_pos h1]
  ·by_cases h2:AK w i=41
   ·simp(disch:=first|omega|simp only[vl];omega) only[AA];refine AD (ki) rfl ?_;simp(disch:=first|omega|simp only[vl];omega) only[AA];refine⟨(r.1-1,r.2),?_,rfl⟩;rw[hs,Da,if_neg h1,if_pos h2]
   ·simp(disch:=first|omega|simp only[vl];omega) only[AA];refine AD (ki) rfl ?_;simp(disch:=first|omega|simp only[vl];omega) only[AA];refine⟨(r.1,r.2++[r.1]),?_,rfl⟩;rw[hs,Da,if_neg h1,if_neg h2]
 ·simp(disch:=first|omega|simp only[vl];omega) only[AA];rw[hP,List.take_of_length_le (Nat.le_refl _),hx];rfl
theorem ll_i[HA K]{x:BT}(h:x.n≤8):K 198 [.s x.t] [LI (C5 x 0)]:=by have k1:=R2 (K:=K) (x:=x) (d:=0) (o:=[]) h (by omega) (by omega) (by simp only[Ap];omega);refine qb AFB rfl ?_;simp only[AFB];simp(disch:=first|omega|simp only[vl];omega) only[AA];refine AD (KW (K:=K) h) rfl ?_;simp(disch:=first|omega|simp only[vl];omega) only[AA,BT.DZ];refine AD (k1) rfl ?_;simp(disch:=first|omega|simp only[vl];omega) only[AA]
def Gg(x:BT):Int:=(C5 x 0).foldl max 0
theorem foldl_max{l:List Int}{a:Int}(h:∀y∈l,0≤y)(hl:l≠[])(ha:a≤0):l.foldl max a=l.foldl max 0:=by
 cases l with
 |nil=>exact(hl rfl).elim
 |cons y l=>
  have:=h y (by simp)
  rw[List.foldl_cons,List.foldl_cons]
  congr 1;omega
theorem Ub{l:List Int}{a m:Int}(h:∀y∈l,0≤y∧y≤m)(ha:-1≤a∧a≤m):-1≤l.foldl max a∧l.foldl max a≤m:=by
 induction l generalizing a with
 |nil=>exact ha
 |cons y l ih=>
  rw[List.foldl_cons]
  have:=h y (by simp)
  exact ih (fun z hz=>h z (by simp[hz])) (by omega)
theorem W3{l:List Int}{i:Nat}{a:Int}(h:i<l.length):(l.take (i+1)).foldl max a=max ((l.take i).foldl max a) (AE l (i:Nat)):=by rw[CU h,List.foldl_append];simp[AE,h]
theorem ht_i[HA K]{x:BT}(h:x.n≤8):K 170 [.s x.t] [.n (Gg x)]:=by
 have hl:=Mw (x:=x) (d:=0);have hm:∀y∈C5 x 0,0≤y∧y≤8:=fun y hy=>by have:=Mc hy;omega
 refine qb Vj rfl ?_;simp only[Vj];simp(disch:=first|omega|simp only[vl];omega) only[AA];refine AD (Ph (K:=K) (s:=x.t)) rfl ?_;simp(disch:=first|omega|simp only[vl];omega) only[AA,F7 h];refine AD (ll_i (K:=K) h) rfl ?_;simp(disch:=first|omega|simp only[vl];omega) only[AA];refine Au (fun i (r:Int)=>r=((C5 x 0).take i).foldl max 0) (fun i r=>[.u,.u,.n r,.u,.u,LI (C5 x 0),.n (C5 x 0).length,.n i,.u]) (C5 x 0).length 0 rfl rfl (fun i r hi hP=>?_) (fun r hP=>?_)
 ·have hb:=Ub (l:=(C5 x 0).take i) (a:=0) (m:=8) (fun y hy=>hm y (List.mem_of_mem_take hy)) (by omega);rw[←hP]at hb;have hs:=W3 (a:=0) hi;simp(disch:=first|omega|simp only[vl];omega) only[AA];refine⟨_,?_,rfl⟩;rw[hs,hP]
 ·simp(disch:=first|omega|simp only[vl];omega) only[AA];rw[hP,List.take_of_length_le (Nat.le_refl _)];rfl
theorem ht_s[HA K]{x:BT}(h:x.n≤8):K 163 [.s x.t] [.n (Gg x)]:=by
 have hl:=Mw (x:=x) (d:=0);have hm:∀y∈C5 x 0,0≤y∧y≤8:=fun y hy=>by have:=Mc hy;omega
 have hf:(C5 x 0).foldl max (-1)=Gg x:=foldl_max (fun y hy=>(hm y hy).1) (by intro q;rw[q]at hl;cases hl) (by omega);refine qb ANM rfl ?_;simp only[ANM];simp(disch:=first|omega|simp only[vl];omega) only[AA];refine AD (ll_s (K:=K) h) rfl ?_;simp(disch:=first|omega|simp only[vl];omega) only[AA];refine Au (fun i (r:Int)=>r=((C5 x 0).take i).foldl max (-1)) (fun i r=>[.u,.u,LI (C5 x 0),.n r,.n i,.u]) (C5 x 0).length (-1) rfl rfl (fun i r hi hP=>?_) (fun r hP=>?_)
 ·have hb:=Ub (l:=(C5 x 0).take i) (a:=-1) (m:=8) (fun y hy=>hm y (List.mem_of_mem_take hy)) (by omega);rw[←hP]at hb;have hs:=W3 (a:=-1) hi;simp(disch:=first|omega|simp only[vl];omega) only[AA];refine⟨_,?_,rfl⟩;rw[hs,hP]
 ·simp(disch:=first|omega|simp only[vl];omega) only[AA];rw[hP,List.take_of_length_le (Nat.le_refl _),hf]
end Go.Cat
namespace Go.Cat
variable{K:Nat→List D→List D→Prop}
def EI(l:List Int):List Nat:=if l=[]then [110,111,110,101]else glue [44] (l.map Ai)
def Gl(l:List Int):Prop:=∀x∈l,-9223372036854775808≤x∧x≤9223372036854775807
theorem AJW{l:List Int}(h:Gl l){i:Nat}(hi:i<l.length):-9223372036854775808≤AE l i∧AE l i≤9223372036854775807:=h _ (by simp[AE,hi])
theorem UY{α:Type}{l:List Int}{f:Int→α}{i:Nat}(h:i<l.length):(l.take (i+1)).map f=(l.take i).map f++[f (AE l i)]:=by rw[CU h,List.map_append];simp[AE,h]
theorem Il{l:List Int}(h:Gl l):(EI l).length≤l.length*21+4:=by
 unfold EI;split
 ·simp
 ·have:=KU (sep:=[44]) (ws:=l.map Ai) (b:=20) fun x hx=>by
   obtain⟨y,hy,rfl⟩:=List.mem_map.1 hx
   exact BB (h y hy)
  simp only[List.length_map,AY,Ap]at this
  omega
theorem Ml[HA K]{l:List Int}(h:l.length≤1000)(h2:Gl l):K 142 [LI l] [.s (EI l)]:=by
 refine qb Zn rfl ?_;simp only[Zn];by_cases h0:l=[]
 ·subst h0;have e:(([]:List Int).length:Int)=0:=rfl;simp(disch:=first|omega|simp only[vl];omega) only[AA,e];rfl
 ·have hl:0<l.length:=List.length_pos_iff.2 h0;simp(disch:=first|omega|simp only[vl];omega) only[AA];refine Au (fun i (r:List (List Nat))=>r=(l.take i).map Ai) (fun i r=>[.u,.u,LS r,.u,.u,LI l,.n l.length,.n i,.u]) l.length [] rfl rfl (fun i r hi hP=>?_) (fun r hP=>?_)
  ·have hr:r.length=i:=by rw[hP];simp;omega
   have hb:=AJW h2 hi;simp(disch:=first|omega|simp only[vl];omega) only[AA];refine AD (CZ (K:=K) hb) rfl ?_;simp(disch:=first|omega|simp only[vl];omega) only[AA];refine⟨_,?_,rfl⟩;rw[hP,UY hi]
  ·rw[List.take_of_length_le (by omega)]at hP;have h3:∀x∈r,x.length≤100000:=fun x hx=>by rw[hP]at hx;obtain⟨y,hy,rfl⟩:=List.mem_map.1 hx;have:=BB (h2 y hy);omega
   have h4:r.length≤100000:=by rw[hP];simp;omega
   simp(disch:=first|omega|simp only[vl];omega) only[AA];refine AD (JI (K:=K) (ws:=r) (sep:=[44]) h4 h3 (by simp)) rfl ?_;simp(disch:=first|omega|simp only[vl];omega) only[AA];rw[EI,if_neg h0,hP]
theorem MU[HA K]{l:List Int}(h:l.length≤1000)(h2:Gl l):K 137 [LI l] [.s (EI l)]:=by
 refine qb Yw rfl ?_;simp only[Yw];simp(disch:=first|omega|simp only[vl];omega) only[AA];have hlen:∀i,(glue [44] ((l.take i).map Ai)).length≤21000:=fun i=>by
  have:=KU (sep:=[44]) (ws:=(l.take i).map Ai) (b:=20) fun x hx=>by obtain⟨y,hy,rfl⟩:=List.mem_map.1 hx;exact BB (h2 y (List.mem_of_mem_take hy))
  simp only[List.length_map,AY,Ap,List.length_take]at this;omega
 refine Au (fun i (s:List Nat)=>s=glue [44] ((l.take i).map Ai)) (fun i s=>[LI l,.u,.s s,.n i,.u,.u,.u]) l.length [] rfl rfl (fun i s hi hP=>?_) (fun s hP=>?_)
 ·have hb:=AJW h2 hi;have hf:=BB hb;have hs:=hlen i;rw[←hP]at hs;by_cases h0:0<i
  ·simp(disch:=first|omega|simp only[vl];omega) only[AA];refine AD (Bp (K:=K) hb) rfl ?_;simp(disch:=first|omega|simp only[vl];omega) only[AA];refine⟨_,?_,rfl⟩;rw[UY hi,Qm,←hP,if_pos (by simp;omega)]
  ·simp(disch:=first|omega|simp only[vl];omega) only[AA];refine AD (Bp (K:=K) hb) rfl ?_;simp(disch:=first|omega|simp only[vl];omega) only[AA];refine⟨_,?_,rfl⟩;rw[UY hi,Qm,←hP,if_neg (by simp;omega)];simp
 ·rw[List.take_of_length_le (by omega)]at hP;by_cases h0:l=[]
  ·have hs:s=[]:=by rw[hP,h0];rfl
   subst hs;simp(disch:=first|omega|simp only[vl];omega) only[AA];rw[EI,if_pos h0]
  ·have hs:s≠[]:=by
    obtain⟨l',x,rfl⟩:∃l' x,l=l'++[x]:=⟨l.dropLast,l.getLast h0,(List.dropLast_concat_getLast h0).symm⟩
    rw[hP,List.map_append,List.map_cons,List.map_nil,Qm]
    intro e
    have:=congrArg List.length e
    have:=T0 (n:=x)
    simp only[A7,Ap]at*
    omega
   have hb:(s==[])=false:=by simpa using hs
   simp(disch:=first|omega|simp only[vl];omega) only[AA,hb]
   rw[EI,if_neg h0,hP]
end Go.Cat
namespace Go.Cat
variable{K:Nat→List D→List D→Prop}
set_option maxRecDepth 100000
structure CLs(t:List (List Nat))(n o:List Int)(r:List (List Int)):Prop where
 lt:t.length≤1000
 ln:n.length≤1000
 lo:o.length≤1000
 lr:r.length≤1000
 lrs:∀x∈r,x.length≤1000
theorem CLs.sm{t:List (List Nat)}{n o:List Int}{r:List (List Int)}(h:CLs t n o r):CLsm t n o r:=⟨by have:=h.lt;omega,by have:=h.ln;omega,by have:=h.lo;omega,by have:=h.lr;omega,fun x hx=>by have:=h.lrs x hx;omega⟩
end Go.Cat
namespace Go.Cat
variable{K:Nat→List D→List D→Prop}
def Pf(x:BT):List Nat:=[116,114,101,101,32]++x.t++[32,110,111,100,101,115,32]++Ai x.n++[32,104,101,105,103,104,116,32]++Ai (Gg x)++[32,119,101,105,103,104,116,115,32]++EI x.w++[32,117,112,32]++Ai (C4 BF x x.n).length++[32,110,101,105,103,104,98,111,117,114,115,32]++Ai (Cy x).length++[32,109,105,114,114,111,114,32]++x.Cq.t
theorem AS6{a0 a1 a2 a3 a4 a5 a6 a7 a8 a9 a10 a11 a12 a13:List Nat}:C2 [.s a0,.s a1,.s a2,.s a3,.s a4,.s a5,.s a6,.s a7,.s a8,.s a9,.s a10,.s a11,.s a12,.s a13]=some (LS [a0,a1,a2,a3,a4,a5,a6,a7,a8,a9,a10,a11,a12,a13]):=rfl
theorem XW{x:BT}(h:x.n≤8):-1≤Gg x∧Gg x≤8:=Ub (fun y hy=>by have:=Mc hy;omega) (by omega)
theorem Q7:∀{x:BT}{y:Int},y∈x.w→0≤y∧y≤x.n
 |.lf,y,h=>by simp[BT.w]at h
 |.nd l r,y,h=>by
  simp only[BT.w,Af,List.mem_singleton]at h
  simp only[BT.n]
  rcases h with(h|rfl)|h
  ·have:=Q7 h;omega
  ·omega
  ·have:=Q7 h;omega
theorem ATW[HA K][El K]{x:BT}(h:x.n≤8):K 125 [.s x.t] [.s (Pf x)]:=by
 have ht:=BT.tl x;have hm:=BT.tl x.Cq;have hmn:=Gz (x:=x);have hb:=XW h;have hw:=Bm (x:=x);have hi:Gl x.w:=fun y hy=>by have:=Q7 hy;omega
 have hc:=F2 (f:=BF) (x:=x) (k:=x.n);have hnb:=N5 (x:=x);have f1:=BB (n:=(x.n:Int)) (by omega);have f2:=BB (n:=Gg x) (by omega);have f3:=BB (n:=((C4 BF x x.n).length:Int)) (by omega);have f4:=BB (n:=((Cy x).length:Int)) (by omega);have f5:=Il hi;refine qb Pu rfl ?_;simp only[Pu];simp(disch:=first|omega|simp only[vl];omega) only[AA];refine AD (Ph (K:=K) (s:=x.t)) rfl ?_;simp(disch:=first|omega|simp only[vl];omega) only[AA,F7 h];refine AD (Kq (K:=K) h) rfl ?_;simp(disch:=first|omega|simp only[vl];omega) only[AA];refine AD (Fk (K:=K) h) rfl ?_;simp(disch:=first|omega|simp only[vl];omega) only[AA];refine AD (CZ (K:=K) (n:=(x.n:Int)) (by omega)) rfl ?_;simp(disch:=first|omega|simp only[vl];omega) only[AA];refine AD (ht_i (K:=K) h) rfl ?_;simp(disch:=first|omega|simp only[vl];omega) only[AA];refine AD (CZ (K:=K) (n:=Gg x) (by omega)) rfl ?_;simp(disch:=first|omega|simp only[vl];omega) only[AA];refine AD (KY (K:=K) h) rfl ?_;simp(disch:=first|omega|simp only[vl];omega) only[AA];refine AD (Ml (K:=K) (l:=x.w) (by omega) hi) rfl ?_;simp(disch:=first|omega|simp only[vl];omega) only[AA];refine AD (cr_i (K:=K) h) rfl ?_;simp(disch:=first|omega|simp only[vl];omega) only[AA];refine AD (CZ (K:=K) (n:=((C4 BF x x.n).length:Int)) (by omega)) rfl ?_;simp(disch:=first|omega|simp only[vl];omega) only[AA];refine AD (ADU (K:=K) h) rfl ?_;simp(disch:=first|omega|simp only[vl];omega) only[AA];rw[List.length_map];refine AD (CZ (K:=K) (n:=((Cy x).length:Int)) (by omega)) rfl ?_;simp(disch:=first|omega|simp only[vl];omega) only[AA,AS6];have hln:=Gb (K:=K) (ws:=[[116,114,101,101],x.t,[110,111,100,101,115],Ai x.n,[104,101,105,103,104,116],Ai (Gg x),[119,101,105,103,104,116,115],EI x.w,[117,112],Ai (C4 BF x x.n).length,[110,101,105,103,104,98,111,117,114,115],Ai (Cy x).length,[109,105,114,114,111,114],x.Cq.t]) (by simp) (by simp;omega);refine AD (hln) rfl ?_;simp(disch:=first|omega|simp only[vl];omega) only[AA];simp[Pf,glue,BN,AO]
theorem ARZ[HA K]{x:BT}(h:x.n≤8):K 124 [.s x.t] [.s (Pf x)]:=by
 have ht:=BT.tl x;have hm:=BT.tl x.Cq;have hmn:=Gz (x:=x);have hb:=XW h;have hw:=Bm (x:=x);have hi:Gl x.w:=fun y hy=>by have:=Q7 hy;omega
 have hc:=F2 (f:=BF) (x:=x) (k:=x.n);have hnb:=N5 (x:=x);have f1:=BB (n:=(x.n:Int)) (by omega);have f2:=BB (n:=Gg x) (by omega);have f3:=BB (n:=((C4 BF x x.n).length:Int)) (by omega);have f4:=BB (n:=((Cy x).length:Int)) (by omega);have f5:=Il hi;refine qb Oy rfl ?_;simp only[Oy];simp(disch:=first|omega|simp only[vl];omega) only[AA];refine AD (F8 (K:=K) (s:=x.t)) rfl ?_;simp(disch:=first|omega|simp only[vl];omega) only[AA,F7 h];refine AD (AX4 (K:=K) h) rfl ?_;simp(disch:=first|omega|simp only[vl];omega) only[AA];refine AD (Dz (K:=K) h) rfl ?_;simp(disch:=first|omega|simp only[vl];omega) only[AA];refine AD (Bp (K:=K) (n:=(x.n:Int)) (by omega)) rfl ?_;simp(disch:=first|omega|simp only[vl];omega) only[AA];refine AD (ht_s (K:=K) h) rfl ?_;simp(disch:=first|omega|simp only[vl];omega) only[AA];refine AD (Bp (K:=K) (n:=Gg x) (by omega)) rfl ?_;simp(disch:=first|omega|simp only[vl];omega) only[AA];refine AD (Lk (K:=K) h) rfl ?_;simp(disch:=first|omega|simp only[vl];omega) only[AA];refine AD (MU (K:=K) (l:=x.w) (by omega) hi) rfl ?_;simp(disch:=first|omega|simp only[vl];omega) only[AA];refine AD (cr_s (K:=K) h) rfl ?_;simp(disch:=first|omega|simp only[vl];omega) only[AA];refine AD (Bp (K:=K) (n:=((C4 BF x x.n).length:Int)) (by omega)) rfl ?_;simp(disch:=first|omega|simp only[vl];omega) only[AA];refine AD (AHD (K:=K) h) rfl ?_;simp(disch:=first|omega|simp only[vl];omega) only[AA];rw[List.length_map];refine AD (Bp (K:=K) (n:=((Cy x).length:Int)) (by omega)) rfl ?_;simp(disch:=first|omega|simp only[vl];omega) only[AA];simp[Pf]
theorem AVK[HA K]{s:List Nat}(h:Ct s=false):K 125 [.s s] [.s []]∧K 124 [.s s] [.s []]:=by
 constructor
 ·refine qb Pu rfl ?_;simp only[Pu];simp(disch:=first|omega|simp only[vl];omega) only[AA];refine AD (Ph (K:=K) (s:=s)) rfl ?_;simp(disch:=first|omega|simp only[vl];omega) only[AA,h]
 ·refine qb Oy rfl ?_;simp only[Oy];simp(disch:=first|omega|simp only[vl];omega) only[AA];refine AD (F8 (K:=K) (s:=s)) rfl ?_;simp(disch:=first|omega|simp only[vl];omega) only[AA,h]
theorem Ac9[HA K][El K](s:List Nat):∃v,K 125 [.s s] [.s v]∧K 124 [.s s] [.s v]:=by
 cases hb:Ct s with
 |false=>exact⟨_,AVK (K:=K) hb⟩
 |true=>
  obtain⟨x,rfl,hx⟩:=JM hb
  exact⟨_,ATW hx,ARZ hx⟩
end Go.Cat
