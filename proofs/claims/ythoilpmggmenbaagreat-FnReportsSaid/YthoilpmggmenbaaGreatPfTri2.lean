/-
 Triangulations of trees, both sides.
-/
import Derived.Test.YthoilpmggmenbaaGreatQd0LawReports
import Derived.Test.YthoilpmggmenbaaGreatQd1LawReports
import Derived.Test.YthoilpmggmenbaaGreatQd2LawReports
import Derived.Test.YthoilpmggmenbaaGreatQd3LawReports
import Derived.Test.YthoilpmggmenbaaGreatPfSrt
set_option linter.unusedSimpArgs false
set_option linter.unusedVariables false
namespace Go.Cat
variable{K:Nat→List D→List D→Prop}
theorem Fk[HA K]{x:BT}(h:x.n≤8):K 169 [.s x.t] [.n x.n]:=by refine qb Qx rfl ?_;simp only[Qx];simp(disch:=omega) only[AA];refine AD (KW (K:=K) h) rfl ?_;simp(disch:=omega) only[AA,BT.DZ];refine AD (Ie (K:=K) x (by omega)) rfl ?_;simp(disch:=omega) only[AA]
theorem N8[HA K]{s:List Nat}(h:Ct s=false):K 169 [.s s] [.n (-1)]:=by refine qb Qx rfl ?_;simp only[Qx];simp(disch:=omega) only[AA];refine AD (SE (K:=K) h) rfl ?_;simp(disch:=omega) only[AA]
theorem Dz[HA K]{x:BT}(h:x.n≤8):K 162 [.s x.t] [.n x.n]:=by have hl:=BT.tl x;refine qb ANW rfl ?_;simp only[ANW];simp(disch:=omega) only[AA];refine AD (F8 (K:=K) (s:=x.t)) rfl ?_;simp(disch:=omega) only[AA,F7 h];exact Dn (by omega)
def BP(x:BT):List (List Int):=DN (Cm x 0 ((x.n:Int)+1))
theorem Tj{x:BT}:(BP x).length=(Cm x 0 ((x.n:Int)+1)).length:=AAB
theorem QY[HA K]{x:BT}(h:x.n≤8):K 536 [.s x.t] [LL (BP x),.b true]:=by have hl:=LQ (x:=x) (l:=0) (r:=(x.n:Int)+1);refine qb Z3 rfl ?_;simp only[Z3];simp(disch:=omega) only[AA];refine AD (KW (K:=K) h) rfl ?_;simp(disch:=omega) only[AA,BT.DZ];refine AD (Ie (K:=K) x (by omega)) rfl ?_;simp(disch:=omega) only[AA,PN];have kt:=TY (K:=K) (x:=x) (l:=0) (r:=(x.n:Int)+1) (c:=[]) (s:=[]) (by omega) (by omega) (by omega) (by omega) (by simp;omega) (by simp;omega);rw[List.nil_append,List.nil_append]at kt;refine AD (kt) rfl ?_;simp(disch:=omega) only[AA];refine AD (Vs (K:=K) (d:=Cm x 0 ((x.n:Int)+1)) (by omega) JO) rfl ?_;simp(disch:=omega) only[AA];rfl
theorem Mt[HA K]{x y:List Int}(hx:CT x)(hy:CT y):K 374 [LI x,LI y] [.b (B9 x y)]:=by
 have lx:x.length=2:=hx;have ly:y.length=2:=hy;refine qb AG8 rfl ?_;simp only[AG8];simp(disch:=omega) only[AA];by_cases h1:AE x 0<AE y 0
 ·simp(disch:=omega) only[AA];simp[B9,h1]
 ·by_cases h2:AE x 0=AE y 0
  ·simp(disch:=omega) only[AA,h2];simp[B9,h2]
  ·simp(disch:=omega) only[AA];simp[B9,h1,h2]
theorem AdX{b:List (List Int)}{i:Nat}(h:i<b.length):AG b i∈b:=by simp[AG,h]
theorem Ad2{l:List (List Int)}{k:Nat}(h:k<l.length):l.take (k+1)=l.take k++[AG l k]:=by rw[CU h];simp[AG,h]
theorem ASQ{l:List (List Int)}{k:Nat}(h:k<l.length):l.drop k=AG l k::l.drop (k+1):=by rw[List.drop_eq_getElem_cons h];simp[AG,h]
theorem AV5{l:List (List Int)}{k:Nat}:sub l 0 k=l.take k:=by simp[sub]
theorem ATY{l:List (List Int)}{k:Nat}:sub l k l.length=l.drop k:=by simp[sub]
theorem AJV{rs:List (List Int)}{j:Int}(h:0≤j∧j≤rs.length):E8 (LL rs) none (some (.n j))=some (LL (sub rs 0 j)):=I6 LI JZ (FG (by omega)) (by omega) (by omega)
theorem AHJ[HA K]{l:List (List Int)}{x:List Int}(hl:l.length≤100000)(hr:∀z∈l,CT z)(hx:CT x):K 362 [LL l,LI x] [LL (BY x l.reverse).reverse]:=by
 refine qb AM5 rfl ?_;simp only[AM5];simp(disch:=first|omega|simp only[vl];omega) only[AA];refine Be (fun(k:Nat)=>k≤l.length∧(BY x (l.take k).reverse).reverse++l.drop k=(BY x l.reverse).reverse) (fun k=>[LL l,LI x,.u,.n k,.u]) (fun k=>k) l.length ⟨Nat.le_refl _,by rw[List.take_length,List.drop_length,List.append_nil]⟩ rfl ?_;intro k hk;obtain⟨h1,h2⟩:=hk
 cases k with
 |zero=>
  have e:sub l 0 (0:Int)=[]:=by simp[sub]
  have e2:sub l 0 (l.length:Int)=l:=by simp[sub]
  rw[List.take_zero,List.drop_zero]at h2
  simp(disch:=first|omega|simp only[vl];omega) only[AA,PN,Fm,Li,AJV,e,e2]
  rw[←h2]
  simp[BY]
 |succ k=>
  have hlt:k<l.length:=by omega
  have hz:=hr _ (AdX hlt)
  have kb:=Mt (K:=K) hx hz
  have et:=Ad2 hlt
  rw[et,List.reverse_append,List.reverse_singleton,List.singleton_append]at h2
  simp(disch:=first|omega|simp only[vl];omega) only[AA,CA]
  refine AD (kb) rfl ?_
  cases hc:B9 x (AG l k)
  ·rw[BY,hc]at h2
   have e1:sub l 0 ((k:Int)+1)=l.take (k+1):=by rw[show(k:Int)+1=((k+1:Nat):Int) by omega,AV5]
   have e2:sub l ((k:Int)+1) (l.length:Nat)=l.drop (k+1):=by rw[show(k:Int)+1=((k+1:Nat):Int) by omega,ATY]
   have e3:(l.take (k+1)).length=k+1:=by simp;omega
   have e4:(l.drop (k+1)).length≤l.length:=by simp
   simp(disch:=first|omega|simp only[vl];omega) only[AA,CA,PN,Fm,Li,AJV,e1,e2]
   rw[←h2,et]
   simp
  ·rw[BY,if_pos hc,List.reverse_cons,CI,List.singleton_append,←ASQ hlt]at h2
   simp(disch:=first|omega|simp only[vl];omega) only[AA,CA]
   exact⟨k,by omega,⟨by omega,h2⟩,rfl⟩
def DI(N:Int):BT→Int→Int→List (List Int)
 |.lf,_,_=>[]
 |.nd a b,l,r=>(if 1<r-l∧¬(l=0∧r=N-1)then [[l,r]]else [])++(DI N a l (l+1+a.n)++DI N b (l+1+a.n) r)
theorem Qs{N:Int}:∀{x:BT}{l r:Int},∀z∈DI N x l r,CT z
 |.lf,_,_,z,h=>by simp[DI]at h
 |.nd a b,l,r,z,h=>by
  simp only[DI,Af]at h
  rcases h with h|h|h
  ·split at h
   ·simp at h;subst h;rfl
   ·cases h
  ·exact Qs z h
  ·exact Qs z h
theorem RX{N:Int}:∀{x:BT}{l r:Int},(DI N x l r).length≤x.n
 |.lf,_,_=>by simp[DI]
 |.nd a b,l,r=>by
  have h1:=RX (N:=N) (x:=a) (l:=l) (r:=l+1+a.n)
  have h2:=RX (N:=N) (x:=b) (l:=l+1+a.n) (r:=r)
  simp only[DI,A7,BT.n]
  have:(if 1<r-l∧¬(l=0∧r=N-1)then [[l,r]]else []).length≤1:=by split<;>simp
  omega
theorem OG{N:Int}:∀{x:BT}{l r:Int},r=l+x.n+1→¬(l=0∧r=N-1)→0≤l→r≤N-1→(DI N x l r).Perm ((if x.EX=true then []else [[l,r]])++Cm x l r)
 |.lf,l,r,_,_,_,_=>by simp[DI,Cm,BT.EX]
 |.nd a b,l,r,e,hn,h0,hN=>by
  simp only[BT.n]at e
  have pa:=OG (N:=N) (x:=a) (l:=l) (r:=l+a.n+1) rfl (by omega) h0 (by omega)
  have pb:=OG (N:=N) (x:=b) (l:=l+a.n+1) (r:=r) (by omega) (by omega) (by omega) hN
  have em:l+1+(a.n:Int)=l+a.n+1:=by omega
  rw[show(BT.nd a b).EX=false from rfl]
  simp only[DI,Cm,em,HF,if_false]
  rw[if_pos ⟨by omega,hn⟩]
  refine List.Perm.append_left _ ?_
  refine(pa.append pb).trans ?_
  generalize (if a.EX=true then []else [[l,l+(a.n:Int)+1]])=A
  generalize (if b.EX=true then []else [[l+(a.n:Int)+1,r]])=B
  generalize Cm a l (l+a.n+1)=IA
  generalize Cm b (l+a.n+1) r=IB
  rw[CI]
  refine List.Perm.append_left A ?_
  rw[←CI,←CI]
  exact List.Perm.append_right IB List.perm_append_comm
theorem AdW{x:BT}:(DI ((x.n:Int)+2) x 0 ((x.n:Int)+1)).Perm (Cm x 0 ((x.n:Int)+1)):=by
 cases x with
 |lf=>simp[DI,Cm]
 |nd a b=>
  have pa:=OG (N:=((BT.nd a b).n:Int)+2) (x:=a) (l:=0) (r:=0+(a.n:Int)+1) rfl (by simp only[BT.n];omega) (by omega) (by simp only[BT.n];omega)
  have pb:=OG (N:=((BT.nd a b).n:Int)+2) (x:=b) (l:=0+(a.n:Int)+1) (r:=((BT.nd a b).n:Int)+1) (by simp only[BT.n];omega) (by omega) (by omega) (by omega)
  have em:(0:Int)+1+(a.n:Int)=0+a.n+1:=by omega
  rw[DI,Cm,if_neg (by omega),List.nil_append,em]
  refine(pa.append pb).trans ?_
  generalize (if a.EX=true then []else [[(0:Int),0+(a.n:Int)+1]])=A
  generalize (if b.EX=true then []else [[0+(a.n:Int)+1,((BT.nd a b).n:Int)+1]])=B
  generalize Cm a 0 (0+a.n+1)=IA
  generalize Cm b (0+a.n+1) (((BT.nd a b).n:Int)+1)=IB
  rw[CI]
  refine List.Perm.append_left A ?_
  rw[←CI,←CI]
  exact List.Perm.append_right IB List.perm_append_comm
theorem GM{a b:BT}:(BT.nd a b).t.length=a.t.length+b.t.length+2:=by simp[BT.t];omega
theorem Hd{a b:BT}:sub (BT.nd a b).t 1 (1+(a.t.length:Int))=a.t:=by
 have e:(1+(a.t.length:Int)).toNat=a.t.length+1:=by omega
 show(List.take (1+(a.t.length:Int)).toNat (BT.nd a b).t).drop (1:Int).toNat=_;rw[e];simp[BT.t]
theorem HZ{a b:BT}{j:Int}(hj:j=(BT.nd a b).t.length-1):sub (BT.nd a b).t (1+(a.t.length:Int)) j=b.t:=by
 have e:(1+(a.t.length:Int)).toNat=(40::a.t).length:=by simp;omega
 have hl:=GM (a:=a) (b:=b);have e2:j.toNat=(40::a.t++b.t).length:=by simp;omega
 have e3:(BT.nd a b).t=(40::a.t++b.t)++[41]:=by simp[BT.t]
 show(List.take j.toNat (BT.nd a b).t).drop (1+(a.t.length:Int)).toNat=_;rw[e,e2,e3,List.take_left,List.drop_left]
theorem HQ[HA K]{a b:BT}(h:(BT.nd a b).n≤1000000):K 188 [.s (BT.nd a b).t,.n 1] [.n (1+a.t.length)]:=by have hl:=BT.tl (.nd a b);exact Jg (K:=K) (s:=(BT.nd a b).t) (by omega) a 1 (b.t++[41]) (by simp[BT.t])
theorem J6{a b:BT}:((BT.nd a b).t==[46])=false:=by simp[BT.t]
theorem SL[HA K]:∀{x:BT}{l r N:Int}{d:List (List Int)},x.n≤8→0≤l→l+x.n≤1000→0≤r→r≤1000→0≤N→N≤1000→d.length+x.n≤100000→(∀z∈d,CT z)→
  K 540 [.s x.t,.n l,.n r,LL d,.n N] [LL ((DI N x l r).foldl (fun t x=>BY x t) d.reverse).reverse]
 |.lf,l,r,N,d,_,_,_,_,_,_,_,_,_=>by
  refine qb Nn rfl ?_;simp only[Nn]
  simp only[BT.t,DI,List.foldl_nil,List.reverse_reverse]
  simp(disch:=omega) only[AA]
 |.nd a b,l,r,N,d,h,h0,h1,h2,h3,h4,h5,h6,hr=>by
  have h':=h
  simp only[BT.n]at h h1 h6
  have hl:=GM (a:=a) (b:=b)
  have ta:=BT.tl a
  have tb:=BT.tl b
  have ea:=Hd (a:=a) (b:=b)
  have eb:=HZ (a:=a) (b:=b) (j:=(BT.nd a b).t.length-1) rfl
  have kn:=Dz (K:=K) (x:=a) (by omega)
  have ke:=HQ (K:=K) (a:=a) (b:=b) (by simp only[BT.n];omega)
  have la:=RX (N:=N) (x:=a) (l:=l) (r:=l+1+a.n)
  have ra:=Qs (N:=N) (x:=a) (l:=l) (r:=l+1+a.n)
  have e0:=J6 (a:=a) (b:=b)
  obtain⟨d1,hd1⟩:∃d1,d1=(if 1<r-l∧¬(l=0∧r=N-1)then(BY [l,r] d.reverse).reverse else d):=⟨_,rfl⟩
  have hd1l:d1.length≤d.length+1:=by rw[hd1];split<;>simp[Ug]
  have hd1r:∀z∈d1,CT z:=by
   intro z hz
   rw[hd1]at hz
   split at hz
   ·rw[List.mem_reverse,OL,List.mem_reverse]at hz
    rcases hz with hz|hz
    ·rw[hz];rfl
    ·exact hr z hz
   ·exact hr z hz
  have hfin:(DI N (.nd a b) l r).foldl (fun t x=>BY x t) d.reverse=(DI N b (l+1+a.n) r).foldl (fun t x=>BY x t) ((DI N a l (l+1+a.n)).foldl (fun t x=>BY x t) d1.reverse):=by
   rw[DI,List.foldl_append,List.foldl_append,hd1]
   congr 2
   split
   ·rw[List.reverse_reverse];rfl
   ·rfl
  rw[hfin]
  obtain⟨d2,hd2⟩:∃d2,d2=((DI N a l (l+1+a.n)).foldl (fun t x=>BY x t) d1.reverse).reverse:=⟨_,rfl⟩
  have hd2l:d2.length=d1.length+(DI N a l (l+1+a.n)).length:=by rw[hd2,List.length_reverse,Qe,List.length_reverse]
  have hd2r:∀z∈d2,CT z:=by
   intro z hz
   rw[hd2,List.mem_reverse,PC,List.mem_reverse]at hz
   rcases hz with hz|hz
   ·exact ra z hz
   ·exact hd1r z hz
  have ka:=SL (x:=a) (l:=l) (r:=l+1+a.n) (N:=N) (d:=d1) (by omega) h0 (by omega) (by omega) (by omega) h4 h5 (by omega) hd1r
  have kb:=SL (x:=b) (l:=l+1+a.n) (r:=r) (N:=N) (d:=d2) (by omega) (by omega) (by omega) h2 h3 h4 h5 (by omega) hd2r
  rw[←hd2]at ka
  have hd2':(DI N a l (l+1+a.n)).foldl (fun t x=>BY x t) d1.reverse=d2.reverse:=by rw[hd2,List.reverse_reverse]
  rw[hd2']
  generalize hw:(BT.nd a b).t=w at hl ea eb ke e0
  refine qb Nn rfl ?_;simp only[Nn]
  by_cases hc:1<r-l∧¬(l=0∧r=N-1)
  ·rw[if_pos hc]at hd1
   have kp:=AHJ (K:=K) (l:=d) (x:=[l,r]) (by omega) hr rfl
   rw[←hd1]at kp
   obtain⟨c1,c2⟩:=hc
   by_cases c3:l=0
   ·have c4:¬r=N-1:=fun q=>c2 ⟨c3,q⟩
    simp(disch:=omega) only[AA,e0,MM]
    refine AD (kp) rfl ?_
    simp(disch:=omega) only[AA]
    refine AD (ke) rfl ?_
    simp(disch:=omega) only[AA,ea]
    refine AD (kn) rfl ?_
    simp(disch:=omega) only[AA,ea]
    refine AD (ka) rfl ?_
    simp(disch:=omega) only[AA,eb]
    refine AD (kb) rfl ?_
    simp(disch:=omega) only[AA]
   ·simp(disch:=omega) only[AA,e0,MM]
    refine AD (kp) rfl ?_
    simp(disch:=omega) only[AA]
    refine AD (ke) rfl ?_
    simp(disch:=omega) only[AA,ea]
    refine AD (kn) rfl ?_
    simp(disch:=omega) only[AA,ea]
    refine AD (ka) rfl ?_
    simp(disch:=omega) only[AA,eb]
    refine AD (kb) rfl ?_
    simp(disch:=omega) only[AA]
  ·rw[if_neg hc]at hd1
   subst hd1
   by_cases c1:1<r-l
   ·have c3:l=0:=by
     refine Classical.byContradiction fun q=>hc ⟨c1,fun q2=>q q2.1⟩
    have c4:r=N-1:=by
     refine Classical.byContradiction fun q=>hc ⟨c1,fun q2=>q q2.2⟩
    simp(disch:=omega) only[AA,e0]
    refine AD (ke) rfl ?_
    simp(disch:=omega) only[AA,ea]
    refine AD (kn) rfl ?_
    simp(disch:=omega) only[AA,ea]
    refine AD (ka) rfl ?_
    simp(disch:=omega) only[AA,eb]
    refine AD (kb) rfl ?_
    simp(disch:=omega) only[AA]
   ·simp(disch:=omega) only[AA,e0]
    refine AD (ke) rfl ?_
    simp(disch:=omega) only[AA,ea]
    refine AD (kn) rfl ?_
    simp(disch:=omega) only[AA,ea]
    refine AD (ka) rfl ?_
    simp(disch:=omega) only[AA,eb]
    refine AD (kb) rfl ?_
    simp(disch:=omega) only[AA]
theorem MT[HA K]{x:BT}(h:x.n≤8):K 531 [.s x.t] [LL (BP x),.b true]:=by
 have kc:=SL (K:=K) (x:=x) (l:=0) (r:=(x.n:Int)+1) (N:=(x.n:Int)+2) (d:=[]) h (by omega) (by omega) (by omega) (by omega) (by omega) (by omega) (by simp;omega) (by simp);have e:((DI ((x.n:Int)+2) x 0 ((x.n:Int)+1)).foldl (fun t x=>BY x t) ([]:List (List Int)).reverse).reverse=BP x:=by have:=ARS (AdW (x:=x)) Qs;rw[BP,←this];rfl
 rw[e]at kc;refine qb Wj rfl ?_;simp only[Wj];simp(disch:=omega) only[AA];refine AD (F8 (K:=K) (s:=x.t)) rfl ?_;simp(disch:=omega) only[AA,F7 h];refine AD (Dz (K:=K) h) rfl ?_;have e2:(x.n:Int)+2-1=(x.n:Int)+1:=by omega
 simp(disch:=omega) only[AA,PN,e2];refine AD (kc) rfl ?_;simp(disch:=omega) only[AA]
end Go.Cat
