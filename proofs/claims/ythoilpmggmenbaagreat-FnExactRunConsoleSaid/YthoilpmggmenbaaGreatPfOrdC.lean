/-
 A claim that one tree lies below another, on both sides.
-/
import Derived.Test.YthoilpmggmenbaaGreatPfWayD
set_option linter.unusedSimpArgs false
set_option linter.unusedVariables false
namespace Go.Cat
variable{K:Nat->List D->List D->Prop}
def QM(x y:BT):Option BT:=(CK BB x x.n).find? λz=>Cr z y
theorem AIP{x z:BT}(h:z∈CK BB x x.n):∃v:Nat,v<x.n/\BB x (v:Nat)=some z:=by simp only[CK,List.mem_filterMap,List.mem_range]at h;exact h
theorem AAS{x y:BT}(h:Gf x y)(a:x≠y):∃z,QM x y=some z/\Gf z y/\x.w.sum<z.w.sum/\z.n=x.n:=by
 obtain⟨v,z,g,i,l⟩:=AK2 h (λe=>a (SZ e));have s:(QM x y).isSome=true:=by simp only[QM,List.find?_isSome];exact⟨z,by simp only[CK,List.mem_filterMap,List.mem_range];exact⟨v,g,i⟩,J6.2 l⟩
 obtain⟨u,b⟩:=Option.isSome_iff_exists.1 s;have c:=List.find?_some b;obtain⟨k,f,H⟩:=AIP (List.mem_of_find?_eq_some b);exact⟨u,b,J6.1 c,AC7 f H,GK H⟩
def FA(y:BT):Nat->BT->List BT
 |0,_=>[]
 |k+1,x=>if x.t=y.t then []else match QM x y with
  |none=>[]
  |some z=>z::FA y k z
theorem AHC{y:BT}:∀{k:Nat}{x:BT},(FA y k x).length<=k
 |0,x=>by simp[FA]
 |k+1,x=>by simp only[FA];split;simp;split;simp;rename_i z _;have:=AHC (y:=y) (k:=k) (x:=z);simp only[AO];omega
theorem ARN{y z:BT}{k:Nat}(h:z.t=y.t):FA y k z=[]:=by
 cases k with
 |zero=>rfl
 |succ k=>simp only[FA,if_pos h]
theorem AfC{l:List BT}{i:Nat}(h:i<l.length):AG (l.map BT.t) (i:Nat)=(l[i]).t:=by simp[AG,h]
abbrev ocC(x y:BT):D:=.g [.n 1,.s x.t,.s y.t,LS (x.t::(FA y 64 x).map BT.t),.l [],.l [],.l []]
abbrev QZ:D:=.g [.n 0,.s [],.s [],.l [],.l [],.l [],.l []]
theorem AFX{x:List (List Nat)}:CG 1 (LS x,1)=true:=by simp[CG,LS,D.one,CY,D.flat]
theorem AF6:CG 1 (.l [],1)=true:=by simp[CG,D.one,CY,D.flat]
theorem Ah6[HA K][Ds K]{x y:BT}(J:x.n<=8)(B:y.n<=8)(h:Gf x y):K 340 [.s x.t,.s y.t] [ocC x y,.b true]:=by
 have M:=Nc (K:=K) J B;rw[J6.2 h]at M;have wx:=Rs J;have wy:=Rs B;refine qw AJA ?_;refine cW M ?_;refine Bj (λ(s:Nat×BT×List (List Nat))=>Gf s.2.1 y/\s.2.1.n=x.n/\y.w.sum-s.2.1.w.sum<=s.1/\s.2.2.length+s.1<=65/\s.2.2++(FA y s.1 s.2.1).map BT.t=x.t::(FA y 64 x).map BT.t) (λs=>[.u,.s y.t,QZ,.u,.g [.n 1,.s x.t,.s y.t,LS s.2.2,.l [],.l [],.l []],.s s.2.1.t,.u,.u,.u,.u,.u,.u,.u,.u]) (λs=>s.1) (64,x,[x.t]) ⟨h,rfl,by show y.w.sum-x.w.sum<=64;omega,by simp,rfl⟩ rfl ?_;rintro⟨k,z,acc⟩ ⟨I,O,P,Q,G⟩;simp only at I O P Q G|-;by_cases q:z.t=y.t;rw[ARN q,List.map_nil,List.append_nil]at G;have j:(z.t==y.t)=true:=by rw[beq_iff_eq];exact q
 simp(disch:=try exact dV) only[AD,EC,Dq,F3,EH,AFX,AF6,j];rw[G];obtain⟨w,C,F,Z,e4⟩:=AAS I (λe=>q (by rw[e]));have e5:=YZ F;have j:(z.t==y.t)=false:=by rw[beq_eq_false_iff_ne];exact q
 cases k with
 |zero=>omega
 |succ k=>
  have N:FA y (k+1) z=w::FA y k w:=by simp only[FA,if_neg q,C]
  rw[N]at G
  obtain⟨W,L,U,o,H⟩:=List.find?_eq_some_iff_getElem.1 C
  have hl:=Fj (f:=BB) (x:=z) (k:=z.n)
  simp(disch:=try exact dV) only[AD,j]
  refine cW (ANI (by omega)) ?_
  refine AN (λi=>i<=L) (λi=>[.u,.s y.t,QZ,.u,.g [.n 1,.s x.t,.s y.t,LS acc,.l [],.l [],.l []],.s z.t,.u,.u,.u,D3 (CK BB z z.n),.n (CK BB z z.n).length,.n i,.u,.u]) (CK BB z z.n).length (Nat.zero_le _) (by simp) (λi hi R=>?_) (λR=>by omega)
  have c:=AfC hi
  obtain⟨v,hv,V⟩:=AIP (List.getElem_mem hi)
  have en:=GK V
  have a:=Nc (K:=K) (x:=(CK BB z z.n)[i]) (y:=y) (by omega) B
  by_cases Y:i=L
  .subst Y
   rw[o]at c a
   rw[W]at a
   simp(disch:=try exact dV) only[AD,c]
   refine cB a ?_
   simp(disch:=try exact dV) only[AD,EC,Dq,F3,EH,AiC,YN,Wi,Option.map_some,List.set]
   exact⟨(k,w,acc++[w.t]),by simp,⟨F,by simp only;omega,by simp only;omega,by simp;omega,by simp only;rw[<-G];simp⟩,rfl⟩
  .have:=H i (by omega)
   have T:Cr (CK BB z z.n)[i] y=false:=by simpa using this
   rw[T]at a
   simp(disch:=try exact dV) only[AD,c]
   refine cW a ?_
   omega
def MQ(x:BT)(i:Nat):List BT:=(List.range' (x.n-i) i).filterMap λj:Nat=>BB x j
theorem AWR{x:BT}:MQ x x.n=CK BB x x.n:=by simp only[MQ,CK,Nat.sub_self,List.range_eq_range']
theorem AYY{x:BT}{i:Nat}(h:i<x.n):MQ x (i+1)=(BB x ((x.n-1-i:Nat):Int)).toList++MQ x i:=by
 simp only[MQ];rw[show x.n-(i+1)=x.n-1-i by omega,List.range'_succ,show x.n-1-i+1=x.n-i by omega,List.filterMap_cons]
 cases BB x ((x.n-1-i:Nat):Int)<;>simp
theorem AUT[HA K]{x y:BT}(B:x.n<=8)(j:y.n<=8)(h:Gf x y):K 339 [.s x.t,.s y.t] [ocC x y,.b true]:=by
 have C:=N0 (K:=K) B j;rw[J6.2 h]at C;have W:=Rs B;have T:=Rs j;refine qw AIS ?_;refine cW C ?_;refine Bj (λ(s:Nat×BT×List (List Nat))=>Gf s.2.1 y/\s.2.1.n=x.n/\y.w.sum-s.2.1.w.sum<=s.1/\s.2.2.length+s.1<=65/\s.2.2++(FA y s.1 s.2.1).map BT.t=x.t::(FA y 64 x).map BT.t) (λs=>[.s x.t,.s y.t,QZ,.u,LS s.2.2,.s s.2.1.t,.u,.u,.u,.u,.u,.u,.u,.u]) (λs=>s.1) (64,x,[x.t]) ⟨h,rfl,by show y.w.sum-x.w.sum<=64;omega,by simp,rfl⟩ rfl ?_;rintro⟨k,z,acc⟩ ⟨G,L,M,N,g⟩;simp only at G L M N g|-;by_cases q:z.t=y.t;rw[ARN q,List.map_nil,List.append_nil]at g;have c:(z.t==y.t)=true:=by rw[beq_iff_eq];exact q
 simp(disch:=try exact dV) only[AD,EC,Dq,F3,EH,AFX,AF6,c];rw[g];obtain⟨w,l,o,O,Q⟩:=AAS G (λe=>q (by rw[e]));have R:=YZ o;have c:(z.t==y.t)=false:=by rw[beq_eq_false_iff_ne];exact q
 cases k with
 |zero=>omega
 |succ k=>
  have I:FA y (k+1) z=w::FA y k w:=by simp only[FA,if_neg q,l]
  rw[I]at g
  simp(disch:=try exact dV) only[AD,c]
  refine cW (EV (by omega)) ?_
  refine Aj (λi (r:List Nat)=>r=(((MQ z i).find? λu=>Cr u y).map BT.t).getD []) (λi r=>[.s x.t,.s y.t,QZ,.u,LS acc,.s z.t,.s r,.n ((z.n:Int)-1-i),.u,.u,.u,.u,.u,.u]) z.n [] rfl (by simp) (λi r hi P=>?_) (λr P=>?_)
  .have ev:(z.n:Int)-1-i=((z.n-1-i:Nat):Int):=by omega
   have H:=AYY hi
   refine wW ?_
   have F:=US (K:=K) (x:=z) (v:=(z.n:Int)-1-i) (by omega) (by omega)
   have J:BB z ((z.n:Int)-1-i)=BB z ((z.n-1-i:Nat):Int):=by rw[ev]
   rw[Ef,J]at F
   refine cB F ?_
   cases f:BB z ((z.n-1-i:Nat):Int)with
   |none=>
    rw[f]at H
    simp only[Option.isSome_none,Option.elim_none]
    refine wW ?_
    refine⟨r,?_,by simp;omega⟩
    rw[P,H];simp
   |some u=>
    rw[f]at H
    have un:=GK f
    simp only[Option.isSome_some,Option.elim_some]
    refine wW ?_
    refine cB (N0 (by omega) j) ?_
    cases hb:Cr u y with
    |false=>
     refine wW ?_
     refine⟨r,?_,by simp;omega⟩
     rw[P,H];simp[hb]
    |true=>
     refine wW ?_
     refine⟨u.t,?_,by simp;omega⟩
     rw[H];simp[hb]
  .rw[AWR]at P
   have a:=l
   simp only[QM]at a
   rw[a]at P
   simp only[Option.map_some,Option.getD_some]at P
   subst P
   simp(disch:=try exact dV) only[AD,EH]
   exact⟨(k,w,acc++[w.t]),by simp,⟨o,by simp only;omega,by simp only;omega,by simp;omega,by simp only;rw[<-g];simp⟩,rfl⟩
end Go.Cat
namespace Go.Cat
variable{K:Nat->List D->List D->Prop}
theorem AcM[HA K](a b:List Nat):∃r,K 350 [.s a,.s b] [.b r]/\K 349 [.s a,.s b] [.b r]/\(r=true->∃x y:BT,a=x.t/\b=y.t/\x.n<=8/\y.n<=8/\Gf x y):=by
 cases ha:Az a with
 |false=>
  refine⟨false,?_,?_,by simp⟩
  .refine qw VM ?_
   exact cZ (APD ha)
  .refine qw Vn ?_
   exact cZ (YG ha)
 |true=>
  obtain⟨x,rfl,H⟩:=FL ha
  cases hb:Az b with
  |false=>
   refine⟨false,?_,?_,by simp⟩
   .refine qw VM ?_
    exact cZ (ZT H hb)
   .refine qw Vn ?_
    exact cZ (YJ H hb)
  |true=>
   obtain⟨y,rfl,c⟩:=FL hb
   exact⟨Cr x y,Nc H c,N0 H c,λh=>⟨x,y,rfl,rfl,H,c,J6.1 h⟩⟩
theorem AXM[HA K][Ds K](a b:List Nat):∃(k:Int)(f s:List Nat)(t:List (List Nat))(r:Bool),t.length<=100/\f.length<=a.length/\K 340 [.s a,.s b] [CL k f s t [] [] [],.b r]/\K 339 [.s a,.s b] [CL k f s t [] [] [],.b r]:=by
 obtain⟨r,e,g,i⟩:=AcM (K:=K) a b
 cases r with
 |true=>
  obtain⟨x,y,rfl,rfl,H,c,h⟩:=i rfl
  have l:=AHC (y:=y) (k:=64) (x:=x)
  exact⟨1,x.t,y.t,x.t::(FA y 64 x).map BT.t,true,by simp;omega,Nat.le_refl _,Ah6 H c h,AUT H c h⟩
 |false=>
  refine⟨0,[],[],[],false,by simp,by simp,?_,?_⟩
  .refine qw AJA ?_
   exact cZ e
  .refine qw AIS ?_
   exact cZ g
end Go.Cat
namespace Go.Cat
variable{K:Nat->List D->List D->Prop}
theorem Sv{x:List (List Nat)}:CG 1 (LS x,1)=true:=by simp[CG,LS,D.one,CY,D.flat]
theorem D1:CG 1 (.l [],1)=true:=by simp[CG,D.one,CY,D.flat]
theorem cd_t[HA K]{a b:List Nat}{t:List (List Nat)}(h:t.length<=43)(H:0<t.length)(k:K 348 [.s a,.s b] [LS t,.b true])(ks:K 347 [.s a,.s b] [LS t,.b true]):K 338 [.s a,.s b] [CL 2 a b t [] [] [],.b true]/\K 337 [.s a,.s b] [CL 2 a b t [] [] [],.b true]:=by constructor;refine qw ARX ?_;refine cB k ?_;simp(disch:=try exact dV) only[AD,Sv,D1];rfl;refine qw AKI ?_;refine cB ks ?_;simp(disch:=try exact dV) only[AD,Sv,D1];rfl
theorem AkL[HA K][Ds K](a b:List Nat):∃(k:Int)(f s:List Nat)(t:List (List Nat))(r:Bool),t.length<=100/\f.length<=a.length/\K 338 [.s a,.s b] [CL k f s t [] [] [],.b r]/\K 337 [.s a,.s b] [CL k f s t [] [] [],.b r]:=by
 obtain⟨t,r,h,H,i,ks⟩:=OG (K:=K) a b
 cases r with
 |true=>
  exact⟨2,a,b,t,true,by omega,Nat.le_refl _,cd_t h (H rfl) i ks⟩
 |false=>
  refine⟨0,[],[],[],false,by simp,by simp,?_,?_⟩
  .refine qw ARX ?_
   refine cB i ?_
   simp(disch:=try exact dV) only[AD,Sv,D1]
   rfl
  .refine qw AKI ?_
   refine cB ks ?_
   simp(disch:=try exact dV) only[AD,Sv,D1]
   rfl
end Go.Cat
namespace Go.Cat
variable{K:Nat->List D->List D->Prop}
theorem NS{x:List Int}:CG 1 (LI x,1)=true:=by simp[CG,LI,D.one,CY,D.flat]
theorem Ng:CG 1 (.l [],1)=true:=by simp[CG,D.one,CY,D.flat]
theorem AB5{p:List Int}(h:p.length<=1048576):ED true (.l []) (LI p)=some (LI p):=Qt (zs:=[]) (by simp;omega)
noncomputable def Ka(p:List Int):Int:=if DE p=true then 3 else if C2 p=true then 4 else 0
noncomputable def Hp(p:List Int):List Int:=if C2 p=true then p else []
noncomputable def IK(p:List Int):List Int:=if DE p=true then []else if C2 p=true then IG p else []
noncomputable abbrev KJ(p:List Int):D:=CL (Ka p) (DR p) [] [] (Hp p) (IK p) []
theorem AX5[HA K]{p:List Int}(h:p.length<=1048576):K 121 [LI p] [KJ p,.b (C2 p)]:=by
 refine qw I121 ?_;refine cB (Oj (by omega)) ?_
 cases H:C2 p;have e:DE p=false:=by simp[DE,H]
 have a:DR p=[]:=by simp[DR,e]
 simp only[KJ,Ka,Hp,IK,e,a,H];simp(disch:=omega) only[AD,NS,Ng];rfl;have c:=(Qz H).1;refine wW ?_;refine cB (AUE (by omega)) ?_
 cases o:DE p;have a:DR p=[]:=by simp[DR,o]
 simp only[KJ,Ka,Hp,IK,o,a,H];refine wW ?_;refine cW (AdN (by omega)) ?_;refine cB (Ps (by omega)) ?_;simp(disch:=omega) only[AD,NS,Ng];rfl;simp only[KJ,Ka,Hp,IK,o,H];refine wW ?_;refine cB (Ps (by omega)) ?_;simp(disch:=omega) only[AD,NS,Ng];rfl
theorem AfK[HA K]{p:List Int}(h:p.length<=1048576)(H:C2 p=false):K 156 [LI p] [.s [],.b false]:=by refine qw AI5 ?_;repeat(refine cB (Mt (by omega)) ?_;try simp(disch:=omega) only[AD,H])
theorem AVH[HA K]{p:List Int}(h:p.length<=1048576)(c:C2 p=false):K 49 [LI p] [LI [],.b false]:=by have H:=AB8 (K:=K) (p:=p) h;obtain⟨e,a⟩:=T7 c;rw[e,a]at H;exact H
theorem AYZ[HA K]{p:List Int}(h:p.length<=1048576):K 120 [LI p] [KJ p,.b (C2 p)]:=by
 refine qb I120 ?_
 cases H:C2 p;have e:DE p=false:=by simp[DE,H]
 have a:DR p=[]:=by simp[DR,e]
 simp only[KJ,Ka,Hp,IK,e,a,H];refine wW ?_;refine cW (AfK h H) ?_;refine cB (AVH h H) ?_;simp(disch:=omega) only[AD,NS,Ng];rfl;have f:=(Qz H).1;refine wW ?_;refine cB (ANT (by omega)) ?_
 cases o:DE p;have a:DR p=[]:=by simp[DR,o]
 have c:Hv p=true:=by rw[AgZ];simpa[DE,FC,H]using o
 simp only[KJ,Ka,Hp,IK,o,a,H];refine wW ?_;refine cB (AB8 (by omega)) ?_;simp(disch:=omega) only[AD,NS,Ng,AB5,c];rfl;simp only[KJ,Ka,Hp,IK,o,H];simp(disch:=omega) only[AD,NS,Ng,AB5];rfl
theorem AYU(p:List Int)(h:p.length<=1048576):CLs [] (Hp p) (IK p) []:=by
 have a:=Ac4 (p:=p);refine⟨by simp,?_,?_,by simp,by simp⟩;unfold Hp;split;rename_i H;have:=(Qz H).1;omega;simp;unfold IK;repeat' split
 all_goals first|omega|simp
end Go.Cat
