/-
 Schroeder numbers, and what is asked of the program's own function.
-/
import Derived.Test.YthoilpmggmenbaaGreatQd0LawReports
import Derived.Test.YthoilpmggmenbaaGreatQd1LawReports
import Derived.Test.YthoilpmggmenbaaGreatQd2LawReports
import Derived.Test.YthoilpmggmenbaaGreatQd3LawReports
import Derived.Test.YthoilpmggmenbaaGreatPfRotM
import Derived.Test.YthoilpmggmenbaaGreatPfStat
import Derived.Test.YthoilpmggmenbaaGreatPfIn
import Derived.Test.YthoilpmggmenbaaGreatCatFour
set_option linter.unusedSimpArgs false
set_option linter.unusedVariables false
namespace Go.Cat
def J5:List Int:=[1,2,6,22,90,394]
theorem AW4{P:Program}{fid:Nat→Nat}{f:Nat}{n v:Int}(h:∀w,Calls P f #[.int .i64 n] w fun e w'=>e=.returned (.int .i64 v)∧Gr w w'):GY P fid f ⟨[.v],[.v],[],none⟩ [.n n] [.n v]:=by
 intro w X args B hnd hX hE _;match args,hE with
 |[],hE=>simp[BV]at hE
 |_::_::_,hE=>simp[BV]at hE
 |[v0],hE=>
  simp only[BV,AF,Rd]at hE
  obtain⟨B1,B2,rfl,⟨rfl,rfl⟩,rfl⟩:=hE
  refine(h w).mono ?_
  rintro e w' ⟨rfl,g1,g2,g3,g4,g5⟩
  refine⟨_,[.int .i64 v],[],rfl,rfl,rfl,⟨g1,fun b hb _=>g2 b hb⟩,g3,g4,g5,List.nodup_nil,by simp,?_⟩
  simp only[Sg.outs,List.map_nil,List.append_nil,BV,AF,Rd]
  exact⟨[],[],rfl,⟨rfl,trivial⟩,rfl⟩
class MD(K:Nat→List D→List D→Prop):Prop where
 sch:∀n:Nat,n≤5→K 494 [.n n] [.n (J5.getD n 0)]
end Go.Cat
namespace Go.Cat
variable{K:Nat→List D→List D→Prop}
def DM(c:Nat):List Nat→Nat
 |[]=>0
 |x::l=>if x=c then DM c l+1 else 0
theorem KF{c:Nat}:∀l:List Nat,DM c l≤l.length
 |[]=>Nat.le_refl _
 |x::l=>by
  have:=KF (c:=c) l
  unfold DM
  split<;>simp only[AY]<;>omega
theorem ML{c:Nat}:∀{l:List Nat}{i:Nat},i<l.length→(i<DM c l→AK l i=c)∧(i=DM c l→AK l i≠c)
 |[],i,h=>by simp at h
 |x::l,0,_=>by
  have e:AK (x::l) ((0:Nat):Int)=x:=by simp[AK]
  rw[e]
  unfold DM
  split
  ·rename_i hx;exact⟨fun _=>hx,fun q=>by omega⟩
  ·rename_i hx;exact⟨fun q=>by omega,fun _=>hx⟩
 |x::l,i+1,h=>by
  have e:AK (x::l) ((i+1:Nat):Int)=AK l i:=by simp[AK]
  rw[e]
  have ih:=ML (c:=c) (l:=l) (i:=i) (by simpa using h)
  unfold DM
  split
  ·exact⟨fun q=>ih.1 (by omega),fun q=>ih.2 (by omega)⟩
  ·exact⟨fun q=>by omega,fun q=>by omega⟩
theorem Zh{w:List Nat}{i:Nat}(h:i<w.length):AK w.reverse i=AK w ((w.length:Int)-1-i):=by
 have e:((w.length:Int)-1-i).toNat=w.length-1-i:=by omega
 simp only[AK,BH,e,Al,List.getElem?_reverse h]
theorem AT3[HA K]{w:List Nat}(h:w.length≤16):K 295 [.s w,.b false] [.n (DM 117 w)]:=by
 have hr:=KF (c:=117) w;refine qb O1 rfl ?_;simp only[O1];simp(disch:=omega) only[AA];refine Be (fun(x:Nat)=>x≤DM 117 w) (fun x=>[.s w,.b false,.u,.n x,.u]) (fun x=>DM 117 w-x) 0 (by omega) rfl ?_;intro x hx;by_cases hxl:x<w.length
 ·have ha:=ML (c:=117) hxl;by_cases hxr:x<DM 117 w
  ·simp(disch:=omega) only[AA,ha.1 hxr];exact⟨x+1,by omega,by omega,by simp⟩
  ·have:=ha.2 (by omega);simp(disch:=omega) only[AA];exact Dn (by omega)
 ·simp(disch:=omega) only[AA];exact Dn (by omega)
theorem AaO[HA K]{w:List Nat}(h:w.length≤16):K 295 [.s w,.b true] [.n (DM 100 w.reverse)]:=by
 have hr:=KF (c:=100) w.reverse;rw[List.length_reverse]at hr;refine qb O1 rfl ?_;simp only[O1];simp(disch:=omega) only[AA];refine Be (fun(x:Nat)=>x≤DM 100 w.reverse) (fun x=>[.s w,.b true,.u,.n x,.u]) (fun x=>DM 100 w.reverse-x) 0 (by omega) rfl ?_;intro x hx;by_cases hxl:x<w.length
 ·have ha:=ML (c:=100) (l:=w.reverse) (i:=x) (by simpa using hxl);rw[Zh hxl]at ha;by_cases hxr:x<DM 100 w.reverse
  ·simp(disch:=omega) only[AA,ha.1 hxr];exact⟨x+1,by omega,by omega,by simp⟩
  ·have:=ha.2 (by omega);simp(disch:=omega) only[AA];exact Dn (by omega)
 ·simp(disch:=omega) only[AA];exact Dn (by omega)
def DB(w:List Nat):List Nat:=w.map (Ge 117 40 41)
theorem Pn{w:List Nat}:(DB w).length=w.length:=by simp[DB]
theorem Wx:∀{w:List Nat},GR w=true→only 40 41 (DB w)=true
 |[],_=>rfl
 |c::w,h=>by
  rw[MK,AX,Aj]at h
  have:=Wx (w:=w) h.2
  simp only[DB,List.map_cons,AK1,AX,Aj]
  refine⟨?_,this⟩
  unfold Ge
  split<;>simp
theorem AIZ:∀{w:List Nat},GR w=true→(DB w).map (Ge 40 117 100)=w
 |[],_=>rfl
 |c::w,h=>by
  rw[MK,AX,Aj]at h
  have:=AIZ (w:=w) h.2
  simp only[DB,List.map_cons]at this⊢
  rw[this]
  rcases h.1 with rfl|rfl<;>rfl
theorem ZH[HA K]{w:List Nat}(hd:AM w=true):K 508 [.s w] [.s (DB w),.b true]:=by
 have hl:=(Ah hd).l;have ha:=P0 hd;have k1:=AEI (K:=K) (w:=w) (a:=117) (b:=100) (c:=40) (d:=41) (by omega) (by omega) (by omega);rw[AUW,ha]at k1;simp only[if_true]at k1;refine qb ZN rfl ?_;simp only[ZN];simp(disch:=omega) only[AA];repeat(first|(refine AD (Bv (K:=K) (w:=w) (by omega)) rfl ?_;try simp(disch:=omega) only[AA,hd]))
 refine AD (k1) rfl ?_;simp(disch:=omega) only[AA];rfl
theorem pb_i[HA K]{w:List Nat}(hd:AM w=true):K 515 [.s (DB w)] [.s w,.b true]:=by have hl:=(Ah hd).l;have ha:=P0 hd;have hb:=Pn (w:=w);have k1:=AEI (K:=K) (w:=DB w) (a:=40) (b:=41) (c:=117) (d:=100) (by omega) (by omega) (by omega);rw[Wx ha,AIZ ha]at k1;simp only[if_true]at k1;refine qb AKB rfl ?_;simp only[AKB];simp(disch:=omega) only[AA];refine AD (k1) rfl ?_;simp(disch:=omega) only[AA];repeat(first|(refine AD (Bv (K:=K) (w:=w) (by omega)) rfl ?_;try simp(disch:=omega) only[AA,hd]))
theorem ACY{w:List Nat}{i:Nat}(h:i<w.length):AK (DB w) i=Ge 117 40 41 (AK w i):=by simp[AK,DB,h]
theorem ABR{w:List Nat}{i:Nat}(h:i<w.length):w.take (i+1)=w.take i++[AK w i]:=by rw[CU h];simp[AK,h]
theorem AKJ[HA K]{w:List Nat}(hd:AM w=true):K 297 [.s w] [.s (DB w),.b true]:=by
 have hD:=Ah hd;have hl:=hD.l;have hb:=Pn (w:=w);refine qb ABK rfl ?_;simp only[ABK];simp(disch:=first|omega|simp only[vl];omega) only[AA];refine AL (fun _=>True) (fun i=>[.s w,.u,.u,.s ((DB w).take i),.n i,.u,.u]) w.length trivial (by simp) (fun i hi _=>?_) (fun _=>?_)
 ·have ht:((DB w).take i).length=i:=by simp;omega
  have e:=ABR (w:=DB w) (i:=i) (by omega);rw[ACY hi]at e;rw[e];rcases hD.ud i hi with hu|hu
  ·simp(disch:=first|omega|simp only[vl];omega) only[AA];repeat(first|(refine AD (Bt (K:=K) (w:=w) (by omega)) rfl ?_;try simp(disch:=first|omega|simp only[vl];omega) only[AA,hd,hu]))
   rfl
  ·simp(disch:=first|omega|simp only[vl];omega) only[AA];repeat(first|(refine AD (Bt (K:=K) (w:=w) (by omega)) rfl ?_;try simp(disch:=first|omega|simp only[vl];omega) only[AA,hd,hu]))
   rfl
 ·have ht:(DB w).take w.length=DB w:=List.take_of_length_le (by omega);rw[ht];simp(disch:=first|omega|simp only[vl];omega) only[AA];repeat(first|(refine AD (Bt (K:=K) (w:=w) (by omega)) rfl ?_;try simp(disch:=first|omega|simp only[vl];omega) only[AA,hd]))
theorem pb_s[HA K]{w:List Nat}(hd:AM w=true):K 320 [.s (DB w)] [.s w,.b true]:=by
 have hD:=Ah hd;have hl:=hD.l;have hb:=Pn (w:=w);refine qb AO8 rfl ?_;simp only[AO8];simp(disch:=first|omega|simp only[vl];omega) only[AA];refine AL (fun _=>True) (fun i=>[.s (DB w),.u,.u,.s (w.take i),.n i,.u,.u,.u,.u,.u]) w.length trivial (by simp) (fun i hi _=>?_) (fun _=>?_)
 ·have ht:(w.take i).length=i:=by simp;omega
  have e:=ACY hi;rw[ABR hi];rcases hD.ud i hi with hu|hu
  ·rw[hu]at e⊢;have e:AK (DB w) i=40:=e;simp(disch:=first|omega|simp only[vl];omega) only[AA,e]
  ·rw[hu]at e⊢;have e:AK (DB w) i=41:=e;simp(disch:=first|omega|simp only[vl];omega) only[AA,e]
 ·rw[List.take_length];simp(disch:=first|omega|simp only[vl];omega) only[AA];repeat(first|(refine AD (Bt (K:=K) (w:=w) (by omega)) rfl ?_;try simp(disch:=first|omega|simp only[vl];omega) only[AA,hd]))
def FY(w:List Nat):Nat→Int
 |0=>0
 |i+1=>max (FY w i) (Hh w i)
theorem dp_i[HA K]{w:List Nat}(hd:AM w=true):K 509 [.s (DB w)] [.n (FY w (w.length+1))]:=by
 have hl:=(Ah hd).l;have hlen:=HY (w:=w);refine qb ANQ rfl ?_;simp only[ANQ];simp(disch:=omega) only[AA];refine AD (pb_i (K:=K) hd) rfl ?_;simp(disch:=omega) only[AA];refine AD (RJ (K:=K) hd) rfl ?_;simp(disch:=omega) only[AA,hlen];refine AL (fun _=>True) (fun i=>[.u,.u,.u,.u,.n (FY w i),.u,.u,LI (hL w),.n (w.length+1:Nat),.n i,.u]) (w.length+1) trivial (by simp[FY]) (fun i hi _=>?_) (fun _=>?_)
 ·have e:=HI (w:=w) (i:=i) (by omega);simp(disch:=omega) only[AA,hlen,e];simp only[FY]
 ·simp(disch:=omega) only[AA]
theorem dp_s[HA K]{w:List Nat}(hd:AM w=true):K 298 [.s (DB w)] [.n (FY w (w.length+1))]:=by
 have hl:=(Ah hd).l;have hlen:=HY (w:=w);refine qb ABH rfl ?_;simp only[ABH];simp(disch:=omega) only[AA];refine AD (pb_s (K:=K) hd) rfl ?_;simp(disch:=omega) only[AA];refine AD (VG (K:=K) hd) rfl ?_;simp(disch:=omega) only[AA];refine AL (fun _=>True) (fun i=>[.u,.u,.u,.u,LI (hL w),.n (FY w i),.n i,.u,.u]) (w.length+1) trivial (by simp[FY]) (fun i hi _=>?_) (fun _=>?_)
 ·have e:=HI (w:=w) (i:=i) (by omega);simp(disch:=omega) only[AA,hlen,e];simp only[FY]
 ·simp(disch:=omega) only[AA,hlen]
theorem AMW{w:List Nat}:∀i:Nat,0≤FY w i∧FY w i≤i
 |0=>by simp[FY]
 |i+1=>by
  have:=AMW (w:=w) i
  have:=F3 (w:=w) (i:=i)
  simp only[FY];omega
end Go.Cat
namespace Go.Cat
variable{K:Nat→List D→List D→Prop}
def YN(p:List Int)(i:Nat):Prop:=∀j:Nat,j<i→AV 0 ((p.length:Int)-1) (AE p j)=true∧∀k:Nat,k<j→AE p k≠AE p j
instance{p:List Int}{i:Nat}:Decidable (YN p i):=by unfold YN;infer_instance
theorem Rw[HA K]{p:List Int}(h:p.length≤1000000000):K 75 [LI p] [LI p]:=by refine qb I75 rfl ?_;simp only[I75];simp(disch:=first|omega|simp only[vl];omega) only[AA,D8]
end Go.Cat
namespace Go.Cat
variable{K:Nat→List D→List D→Prop}
def D5:Nat→List Nat
 |0=>[]
 |n+1=>D5 ((n+1)/10)++[48+(n+1)%10]
decreasing_by omega
end Go.Cat
namespace Go.Cat
variable{K:Nat→List D→List D→Prop}
theorem Mn{t:List Int}{y:Int}:AE (t++[y]) t.length=y:=by simp[AE]
theorem Mg{t:List Int}{y:Int}:sub (t++[y]) 0 t.length=t:=by simp[sub]
end Go.Cat
