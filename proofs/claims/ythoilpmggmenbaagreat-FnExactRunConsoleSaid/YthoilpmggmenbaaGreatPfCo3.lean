/-
 RunConsole: both sides.
-/
import Derived.Test.YthoilpmggmenbaaGreatPfCkA
set_option linter.unusedSimpArgs false
set_option linter.unusedVariables false
namespace Go.Cat
variable{K:Nat->List D->List D->Prop}
set_option maxRecDepth 100000
set_option maxHeartbeats 2000000 in
theorem AaQ[HA K][Ds K]{a b c:List Nat}(M:b.length<=2000)(N:c.length<=2000):ABU K [.s a,.s b,.s c] [.s a,.s b,.s c] 678 682:=by
 have o:∀{a c:List Nat},a≠c->(a==c)=false:=λh=>by simpa using h
 have I:=Jk (K:=K) (s:=b);have e:=Jk (K:=K) (s:=c);have sb:=Ez (K:=K) (s:=b);have G:=Ez (K:=K) (s:=c);by_cases H:a=[112,97,105,114]
 .subst H;obtain⟨v,C,i,ks⟩:=AW5 (K:=K) b c;refine⟨IE v,Az b&&Az c,P2 C,?_,?_⟩
  .refine qb OH ?_;generalize Az b=x at*;generalize Az c=y at*
   cases x<;>cases y
   all_goals
    simp(disch:=try exact dV) only[AD,BK,Nat.reduceBEq,D1,EH,FJ]
    repeat(refine cB (by first|exact I|exact e|exact i|exact OJ|fail) ?_;try simp(disch:=try exact dV) only[AD,BK,Nat.reduceBEq,D1,EH,FJ])
  refine qb Pc ?_;generalize Az b=x at*;generalize Az c=y at*
  cases x<;>cases y
  all_goals
   simp(disch:=try exact dV) only[AD,BK,Nat.reduceBEq,D1]
   repeat(refine cB (by first|exact sb|exact G|exact ks|exact P1|fail) ?_;try simp(disch:=try exact dV) only[AD,BK,Nat.reduceBEq,D1])
   try rfl
 by_cases g:a=[115,105,101,118,101]
 .subst g;obtain⟨v,C,i,ks⟩:=AcC (K:=K) b (pR c);have P:=NM (K:=K) (s:=c) (by omega);have ps:=S1 (K:=K) (s:=c) (by omega);refine⟨IE v,C5 c,P2 C,?_,?_⟩
  .refine qb OH ?_;generalize Az b=x at*;generalize Az c=y at*
   cases x<;>cases y
   all_goals
    simp(disch:=try exact dV) only[AD,BK,Nat.reduceBEq,D1,EH,FJ]
    repeat(refine cB (by first|exact I|exact e|exact P|exact i|exact OJ|fail) ?_;try simp(disch:=try exact dV) only[AD,BK,Nat.reduceBEq,D1,EH,FJ])
  refine qb Pc ?_;simp(disch:=try exact dV) only[AD,BK,Nat.reduceBEq,D1];refine cB ps ?_
  cases h:C5 c
  .simp(disch:=try exact dV) only[AD,BK,Nat.reduceBEq,D1];try rfl
  simp(disch:=try exact dV) only[AD,BK,Nat.reduceBEq,D1];repeat(refine cB (by first|exact ks|exact P1|fail) ?_;try simp(disch:=try exact dV) only[AD,BK,Nat.reduceBEq,D1])
 by_cases j:a=[111,114,100,101,114]
 .subst j;obtain⟨k,f,s,t,w,L,J,i,ks⟩:=AXM (K:=K) b c;have l:Mb f t [] [] []:=⟨by omega,by simp,by simp,by simp,by simp⟩;have F:=X8 (K:=K) (k:=k) (s:=s) l;have B:=XH (K:=K) (k:=k) (s:=s) (w:=w) l;refine⟨if w=true then Cu k f t [] [] []else [110,111],Az b&&Az c,?_,?_,?_⟩;exact Uu
  .refine qb OH ?_;generalize Az b=x at*;generalize Az c=y at*
   cases x<;>cases y<;>cases w
   all_goals
    simp(disch:=try exact dV) only[AD,BK,Nat.reduceBEq,D1,EH,FJ]
    repeat(refine cB (by first|exact I|exact e|exact i|exact F|fail) ?_;try simp(disch:=try exact dV) only[AD,BK,Nat.reduceBEq,D1,EH,FJ])
    try rfl
  refine qb Pc ?_;generalize Az b=x at*;generalize Az c=y at*
  cases x<;>cases y
  all_goals
   simp(disch:=try exact dV) only[AD,BK,Nat.reduceBEq,D1]
   repeat(refine cB (by first|exact sb|exact G|exact ks|exact B|fail) ?_;try simp(disch:=try exact dV) only[AD,BK,Nat.reduceBEq,D1,EH,FJ])
   try rfl
 by_cases q:a=[100,105,115,116,97,110,99,101]
 .subst q;obtain⟨k,f,s,t,w,L,J,i,ks⟩:=AkL (K:=K) b c;have l:Mb f t [] [] []:=⟨by omega,by simp,by simp,by simp,by simp⟩;have F:=X8 (K:=K) (k:=k) (s:=s) l;have B:=XH (K:=K) (k:=k) (s:=s) (w:=w) l;refine⟨if w=true then Cu k f t [] [] []else [110,111],Az b&&Az c,?_,?_,?_⟩;exact Uu
  .refine qb OH ?_;generalize Az b=x at*;generalize Az c=y at*
   cases x<;>cases y<;>cases w
   all_goals
    simp(disch:=try exact dV) only[AD,BK,Nat.reduceBEq,D1,EH,FJ]
    repeat(refine cB (by first|exact I|exact e|exact i|exact F|fail) ?_;try simp(disch:=try exact dV) only[AD,BK,Nat.reduceBEq,D1,EH,FJ])
    try rfl
  refine qb Pc ?_;generalize Az b=x at*;generalize Az c=y at*
  cases x<;>cases y
  all_goals
   simp(disch:=try exact dV) only[AD,BK,Nat.reduceBEq,D1]
   repeat(refine cB (by first|exact sb|exact G|exact ks|exact B|fail) ?_;try simp(disch:=try exact dV) only[AD,BK,Nat.reduceBEq,D1,EH,FJ])
   try rfl
 refine⟨[],false,Q8,?_,?_⟩
 .refine qb OH ?_;generalize Az b=x at*;generalize Az c=y at*
  cases x<;>cases y
  all_goals
   simp(disch:=try exact dV) only[AD,BK,Nat.reduceBEq,D1,EH,FJ,o H,o g,o j,o q]
   repeat(refine cB (by first|exact I|exact e|fail) ?_;try simp(disch:=try exact dV) only[AD,BK,Nat.reduceBEq,D1,EH,FJ,o H,o g,o j,o q])
 refine qb Pc ?_;simp(disch:=try exact dV) only[AD,BK,Nat.reduceBEq,D1,o H,o g,o j,o q];try rfl
end Go.Cat
namespace Go.Cat
variable{K:Nat->List D->List D->Prop}
set_option maxRecDepth 100000
theorem Sk{b:Nat}{P:Nat->Prop}:∀{s acc:List Nat}{p:List Nat},(∀c∈acc,P c)->(∀c∈s,P c)->p∈DN b acc s->∀c∈p,P c
 |[],acc,p,e,_,h=>by simp only[DN,List.mem_singleton]at h;rw[h];exact e
 |a::s,acc,p,e,f,h=>by simp only[DN]at h;split at h;rcases A7.1 h with rfl|h;exact e;exact Sk (acc:=[]) (by simp) (λc H=>f c (BN _ H)) h;refine Sk (acc:=acc++[a]) (λc H=>?_) (λc H=>f c (BN _ H)) h;rcases Ac.1 H with q|q;exact e c q;rw[List.mem_singleton.1 q];exact f a (by simp)
set_option maxHeartbeats 2000000 in
theorem AWX[HA K][Ds K][KN K][Hi K][Ow K]{l:List Nat}(V:l.length<=2000)(L:∀c∈l,c<256):∃v:List Nat,Nw v/\K 672 [LS (AP 32 l)] [.s v]/\K 674 [.s l] [.s v]:=by
 have M:∀p∈AP 32 l,p.length<=2000/\∀c∈p,c<256:=λp F=>by have:=Li F;simp only[A6]at this;exact⟨by omega,Sk (P:=λc=>c<256) (by simp) L F⟩
 have H:=AQU (K:=K) (s:=l) (b:=32) (by omega);have h0:=(Gj (b:=32) (s:=l) (acc:=[])).1;have J:=(Gj (b:=32) (s:=l) (acc:=[])).2;change 0<(AP 32 l).length at h0;change (AP 32 l).length<=l.length+1 at J;generalize AP 32 l=ws at*;have h:∀i:Nat,i<ws.length->(AG ws i).length<=2000/\∀c∈AG ws i,c<256:=λi hi=>M _ (by simp[AG,hi]);by_cases Y:ws.length=2;have w0:=h 0 (by omega);have W:=h 1 (by omega);obtain⟨v,r,f,g,ks⟩:=AZQ (K:=K) (a:=AG ws 0) (b:=AG ws 1) W.1;refine⟨if r=true then v else [119,104,97,116],by cases r<;>first|exact f|exact OK,?_,?_⟩;refine qw QA ?_;refine cB g ?_
 cases r;exact wZ;exact wZ;refine qw P6 ?_;refine cW H ?_;exact cZ ks;by_cases Z:ws.length=3;have w0:=h 0 (by omega);have W:=h 1 (by omega);have G:=h 2 (by omega);obtain⟨v,r,f,g,ks⟩:=AaQ (K:=K) (a:=AG ws 0) (b:=AG ws 1) (c:=AG ws 2) W.1 G.1;refine⟨if r=true then v else [119,104,97,116],by cases r<;>first|exact f|exact OK,?_,?_⟩;refine qw QA ?_;refine cB g ?_
 cases r;exact wZ;exact wZ;refine qw P6 ?_;refine cW H ?_;exact cZ ks;by_cases n4:ws.length=4
 .have W:=h 1 (by omega);have G:=h 2 (by omega);have B:=h 3 (by omega);have w4:(AG ws 3).length<=2000:=B.1;have e:∀x:List Nat,Ah.contains x=decide (x∈Ah):=λx=>by simp
  have I:=AE0 (K:=K) (p:=Ah) (x:=AG ws 1) (by decide);have c2:=AE0 (K:=K) (p:=Ah) (x:=AG ws 2) (by decide);have s1:=Un (K:=K) (ws:=Ah) (k:=AG ws 1) (by decide);have s2:=Un (K:=K) (ws:=Ah) (k:=AG ws 2) (by decide);rw[e]at s1 s2;obtain⟨z,T⟩:=Ow.ex (K:=K) (AG ws 3) (by omega) B.2;have R:=AiM (K:=K) (s:=AG ws 3) (by omega);have hd:(CM (AG ws 3)).length<=2000:=by simp[CM];omega
  have j:∀c∈CM (AG ws 3),c<256:=λc C=>by simp only[CM,List.mem_map]at C;obtain⟨x,O,rfl⟩:=C;have:=B.2 x O;split<;>omega
  have g:=Ag7 (K:=K) (a:=AG ws 1) (b:=AG ws 2) (s:=CM (AG ws 3)) (by omega);have ks:=AdO (K:=K) (a:=AG ws 1) (b:=AG ws 2) (s:=CM (AG ws 3)) (by omega) j;have N:=Aa4 (a:=AG ws 1) (b:=AG ws 2) (s:=CM (AG ws 3));have f:(Jg (AG ws 1) (AG ws 2) (CM (AG ws 3))).length<=100000:=by unfold Jg;split;have:=AaG (k:=AG ws 2) (w:=E5 (AG ws 1) (CM (AG ws 3)));omega;simp
  generalize Jg (AG ws 1) (AG ws 2) (CM (AG ws 3))=v at*;generalize QN (AG ws 1) (AG ws 2) (CM (AG ws 3))=w at*;have U:=OJ (K:=K) (v:=v);have os:=P1 (K:=K) (v:=v);generalize decide (AG ws 1∈Ah)=q at*;generalize decide (AG ws 2∈Ah)=Q at*;have o:=P2 ⟨f,N⟩
  cases hq:(AG ws 0==[99,111,110,118,101,114,116])
  .refine⟨[119,104,97,116],OK,?_,?_⟩
   .refine qb QA ?_;simp(disch:=try exact dV) only[AD,hq];try rfl
   refine qw P6 ?_;refine cB H ?_;simp(disch:=try exact dV) only[AD,hq];try rfl
  refine⟨if q=true/\Q=true then IE v else [119,104,97,116],by split<;>first|exact o|exact OK,?_,?_⟩
  .refine qb QA ?_
   cases q<;>cases Q
   all_goals
    simp(disch:=try exact dV) only[AD,hq]
    repeat(refine cB (by first|exact AKB|exact I|exact c2|exact T|exact g|exact U|fail) ?_;try simp(disch:=try exact dV) only[AD,hq])
    try rfl
  refine qb P6 ?_
  cases q<;>cases Q
  all_goals
   refine wW ?_
   repeat(refine cB (by first|exact H|exact Jj|exact s1|exact s2|exact R|exact ks|exact os|fail) ?_;try simp(disch:=try exact dV) only[AD,hq])
   try rfl
 refine⟨[119,104,97,116],OK,?_,?_⟩;exact qz QA;refine qw P6 ?_;exact cZ H
end Go.Cat
namespace Go.Cat
variable{K:Nat->List D->List D->Prop}
set_option maxRecDepth 100000
theorem Si{ss:List (List Nat)}{j:Int}(h:0<=j/\j<=ss.length):Ep (LS ss) none (some (.n j))=some (LS (sub ss 0 j)):=JO D.s KX (Fe (by omega)) (by omega) (by omega)
def Cd(ws:List (List Nat)):List (List Nat):=if AG ws ((ws.length:Int)-1)=[]then sub ws 0 ((ws.length:Int)-1)else ws
def oG(g:Nat->List Nat)(ws:List (List Nat)):Nat->List Nat
 |0=>[]
 |i+1=>if AG ws i=[]then oG g ws i else oG g ws i++g i++[10]
def Jb(g:Nat->List Nat)(s:List Nat):List Nat:=if 2000<s.length then []else if 20<(Cd (AP 10 s)).length then []else oG g (Cd (AP 10 s)) (Cd (AP 10 s)).length
theorem AIQ{g:Nat->List Nat}{s:List Nat}(h:2000<s.length):Jb g s=[]:=by simp[Jb,h]
theorem AET{ws:List (List Nat)}:(Cd ws).length<=ws.length:=by unfold Cd;split;rw[K9];omega;exact Nat.le_refl _
theorem AES{ws:List (List Nat)}{i:Nat}(h:i<(Cd ws).length):AG (Cd ws) i∈ws:=by
 have:AG (Cd ws) i∈Cd ws:=by simp[AG,h]
 unfold Cd at this|-;split at this;rename_i q;rw[if_pos q];simp only[sub,Int.toNat_zero,List.drop_zero]at this|-;exact List.mem_of_mem_take this;rename_i q;rw[if_neg q];exact this
theorem Tx{g:Nat->List Nat}{us:List (List Nat)}(H:∀i,i<us.length->(g i).length<=100000):∀i,i<=us.length->(oG g us i).length<=100001*i
 |0,_=>by simp[oG]
 |i+1,h=>by have a:=Tx H i (by omega);have b:=H i (by omega);simp only[oG];split;omega;simp only[A4,AO,A6];omega
theorem Xn{s:List Nat}:0<(AP 10 s).length/\(AP 10 s).length<=s.length+1/\∀i,i<(Cd (AP 10 s)).length->(AG (Cd (AP 10 s)) i).length<=s.length:=
 ⟨(Gj (b:=10) (s:=s) (acc:=[])).1,(Gj (b:=10) (s:=s) (acc:=[])).2,λi hi=>by
   have:(AG (Cd (AP 10 s)) i).length<=([]:List Nat).length+s.length:=Li (AES hi)
   simp only[A6]at this
   omega⟩
theorem Sj{a:List Nat}:(a==([]:List Nat))=decide (a=[]):=by cases h:(a==([]:List Nat))<;>simp_all
set_option maxHeartbeats 1000000 in
theorem AVM[HA K]{s:List Nat}{g:Nat->List Nat}(H:s.length<=2000->∀i,i<(Cd (AP 10 s)).length->(g i).length<=100000/\K 672 [LS (AP 32 (AG (Cd (AP 10 s)) i))] [.s (g i)])(O:s.length<=1048576):K 667 [.s s] [.s (Jb g s)]:=by
 refine qb I667 ?_;by_cases o:2000<s.length;rw[AIQ o];exact wZ;by_cases h0:s=[];subst h0;exact wZ;have f:(s==([]:List Nat))=false:=by simpa using h0
 have H:=H (by omega);obtain⟨I,J,B⟩:=Xn (s:=s);have k:=AET (ws:=AP 10 s);have C:Jb g s=if 20<(Cd (AP 10 s)).length then []else oG g (Cd (AP 10 s)) (Cd (AP 10 s)).length:=by simp[Jb,o]
 simp(disch:=try exact dV) only[AD,f];refine cB (Nf (by omega)) ?_;rw[C];clear C;generalize AP 10 s=ws at*;obtain⟨us,l⟩:∃us,us=Cd ws:=⟨_,rfl⟩;rw[<-l]at H B k|-;have q:=Sj (a:=AG ws ((ws.length:Int)-1));by_cases b:AG ws ((ws.length:Int)-1)=[]
 all_goals
  first
  |(have e:sub ws 0 ((ws.length:Int)-1)=us:=by rw[l,Cd,if_pos b]
    rw[decide_eq_true b]at q
    simp(disch:=try exact dV) only[AD,q,Si,e])
  |(have e:ws=us:=by rw[l,Cd,if_neg b]
    rw[decide_eq_false b]at q
    simp(disch:=try exact dV) only[AD,q,Si]
    rw[e])
  by_cases x:20<us.length
  .refine wW ?_
   rw[if_pos x]
  rw[if_neg x]
  refine wW ?_
  refine AN (λ_=>True) (λi=>[.u,.u,.u,.s (oG g us i),.u,.u,.u,.u,LS us,.n us.length,.n i,.u,.u]) us.length trivial rfl (λi hi _=>?_) (λ_=>?_)
  .have N:=Tx (λj G=>(H j G).1) i (by omega)
   obtain⟨F,M⟩:=H i hi
   have L:=B i hi
   have h:=Sj (a:=AG us i)
   by_cases c:AG us i=[]
   .rw[decide_eq_true c]at h
    simp(disch:=try exact dV) only[AD,h]
    simp only[oG,if_pos c]
   .rw[decide_eq_false c]at h
    simp(disch:=try exact dV) only[AD,h]
    refine cW (Nf (by omega)) ?_
    refine cW M ?_
    simp only[oG,if_neg c]
  .exact wZ
set_option maxHeartbeats 1000000 in
theorem Af5[HA K]{s:List Nat}{g:Nat->List Nat}(H:s.length<=2000->∀i,i<(Cd (AP 10 s)).length->(g i).length<=100000/\K 674 [.s (AG (Cd (AP 10 s)) i)] [.s (g i)])(M:s.length<=1048576):K 668 [.s s] [.s (Jb g s)]:=by
 refine qb I668 ?_;by_cases l:2000<s.length;rw[AIQ l];exact wZ;have H:=H (by omega);obtain⟨F,G,I⟩:=Xn (s:=s);have f:=AET (ws:=AP 10 s);have x:Jb g s=if 20<(Cd (AP 10 s)).length then []else oG g (Cd (AP 10 s)) (Cd (AP 10 s)).length:=by simp[Jb,l]
 refine wW ?_;refine cB (AQU (by omega)) ?_;rw[x];clear x;generalize AP 10 s=ws at*;obtain⟨us,k⟩:∃us,us=Cd ws:=⟨_,rfl⟩;rw[<-k]at H I f|-;have q:=Sj (a:=AG ws ((ws.length:Int)-1));by_cases b:AG ws ((ws.length:Int)-1)=[]
 all_goals
  first
  |(have e:sub ws 0 ((ws.length:Int)-1)=us:=by rw[k,Cd,if_pos b]
    rw[decide_eq_true b]at q
    simp(disch:=try exact dV) only[AD,q,Si,e])
  |(have e:ws=us:=by rw[k,Cd,if_neg b]
    rw[decide_eq_false b]at q
    simp(disch:=try exact dV) only[AD,q,Si]
    rw[e])
  by_cases o:20<us.length
  .refine wW ?_
   rw[if_pos o]
  rw[if_neg o]
  refine wW ?_
  refine AN (λ_=>True) (λi=>[.u,.u,LS us,.s (oG g us i),.n i,.u,.u,.u,.u,.u]) us.length trivial rfl (λi hi _=>?_) (λ_=>?_)
  .have L:=Tx (λj C=>(H j C).1) i (by omega)
   obtain⟨B,J⟩:=H i hi
   have h:=Sj (a:=AG us i)
   by_cases c:AG us i=[]
   .rw[decide_eq_true c]at h
    simp(disch:=try exact dV) only[AD,h]
    simp only[oG,if_pos c]
   .rw[decide_eq_false c]at h
    simp(disch:=try exact dV) only[AD,h]
    refine cW J ?_
    simp only[oG,if_neg c]
  .exact wZ
end Go.Cat
namespace Go.Cat
variable{K:Nat->List D->List D->Prop}
set_option maxRecDepth 100000
def AEI(f:List Nat->List Nat)(s:List Nat):List Nat:=Jb (λi=>f (AG (Cd (AP 10 s)) i)) s
theorem AiZ[HA K][Ds K][KN K][Hi K][Ow K]:∃f:List Nat->List Nat,(∀l,l.length<=2000->(∀c∈l,c<256)->Nw (f l))/\∀s,s.length<=1048576->(∀c∈s,c<256)->K 667 [.s s] [.s (AEI f s)]/\K 668 [.s s] [.s (AEI f s)]:=by
 obtain⟨f,H⟩:=Classical.axiomOfChoice λl:List Nat=>show ∃v:List Nat,l.length<=2000->(∀c∈l,c<256)->Nw v/\K 672 [LS (AP 32 l)] [.s v]/\K 674 [.s l] [.s v] by by_cases h:l.length<=2000/\∀c∈l,c<256;obtain⟨v,g⟩:=AWX (K:=K) h.1 h.2;exact⟨v,λ_ _=>g⟩;exact⟨[],λa b=>(h ⟨a,b⟩).elim⟩
 refine⟨f,λl a b=>(H l a b).1,λs e j=>?_⟩;have h:=λ(k:s.length<=2000) i (hi:i<(Cd (AP 10 s)).length)=>H (AG (Cd (AP 10 s)) i) (by have:=(Xn (s:=s)).2.2 i hi;omega) (Sk (P:=λc=>c<256) (by simp) j (AES hi));exact⟨AVM (λa i b=>⟨(h a i b).1.1,(h a i b).2.1⟩) e,Af5 (λa i b=>⟨(h a i b).1.1,(h a i b).2.2⟩) e⟩
theorem AgA[HA K][Ds K][KN K][Hi K][Ow K]{s:List Nat}(H:∀c∈s,c<256)(h:s.length<=9223372036854775807):K 658 [.s s] [.b true]:=by
 refine qb I658 ?_;by_cases g:s.length<=1048576;obtain⟨f,_,a⟩:=AiZ (K:=K);obtain⟨k,ks⟩:=a s g H;have e:∀v:List Nat,(v==v)=true:=λv=>by simp
 refine wW ?_;refine cW ks ?_;refine cB k ?_;simp(disch:=try exact dV) only[AD,e];exact wZ
end Go.Cat
