/-
 Sorting of rows of three numbers.
-/
import Derived.Test.YthoilpmggmenbaaGreatPfCkQ
import Derived.Test.YthoilpmggmenbaaGreatPfSvC
set_option linter.unusedSimpArgs false
set_option linter.unusedVariables false
namespace Go.Cat
variable{K:Nat->List D->List D->Prop}
end Go.Cat
namespace Go.Cat
variable{K:Nat->List D->List D->Prop}
set_option maxRecDepth 100000
end Go.Cat
namespace Go.Cat
variable{K:Nat->List D->List D->Prop}
theorem AU3[HA K]{p:List (List Nat)}{x:List Nat}(h:p.length<=1000000):∃rs,(∃j:Int,rs=[.n j]/\decide (j>=0)=decide (x∈p)/\j<=1000000)/\K 654 [LS p,.s x] rs:=by
 refine qx I654 ?_;refine wW ?_;refine AR (λi=>x∉p.take i) (λi=>[LS p,.s x,.u,.u,.n p.length,.n i,.u,.u]) p.length (by simp) rfl (λi hi P=>?_) (λP=>?_);have a:p.take (i+1)=p.take i++[AH p i]:=by rw[CO hi];simp[AH,hi]
 have H:AH p i∈p:=by simp[AH,hi]
 cases c:(x==AH p i);simp(disch:=omega) only[AD,c];rw[a];intro q;rcases Ac.1 q with q|q;exact P q;simp only[List.mem_singleton]at q;rw[q]at c;simp at c;have e:x=AH p i:=by simpa using c
 simp(disch:=omega) only[AD,c];exact⟨_,rfl,by rw[e];simp[H],by omega⟩;rw[List.take_length]at P;refine wW ?_;exact⟨_,rfl,by simp[P],by omega⟩
theorem ZR[HA K]{p:List (List Nat)}{x:List Nat}(h:p.length<=1000000):K 651 [LS p,.s x] [.b (decide (x∈p))]:=by refine qb I651 ?_;obtain⟨_,⟨j,rfl,H,a⟩,k⟩:=AU3 (K:=K) (x:=x) h;refine wW ?_;refine cW k ?_;exact Db (by rw[<-H])
end Go.Cat
namespace Go.Cat
set_option maxRecDepth 100000
theorem Tl:∀{w:List Nat}{h k:Int},Bb w h=some k->∀c∈w,c=117\/c=100
 |[],_,_,_,c,H=>by cases H
 |a::w,h,k,e,c,H=>by
  simp only[Bb]at e;split at e;rcases AY.1 H with rfl|q;left;assumption;exact Tl e c q;split at e;split at e
  cases e;rcases AY.1 H with rfl|q;right;assumption;exact Tl e c q
  cases e
theorem UJ{w:List Nat}(h:AK w=true):∀c∈w,c=117\/c=100:=by simp only[AK,AU,Ad]at h;exact Tl h.1
theorem SL{w:List Nat}(h:AK w=true):10∉w:=λq=>by have:=UJ h 10 q;omega
theorem ALK{t:List (List Nat)}(h:∀j:Nat,j<t.length->Bq (AH t j)=true):∀i,i<=t.length->10∉Es t i
 |0,_=>by simp[Es]
 |i+1,hi=>by obtain⟨x,H,_⟩:=GF (h i (by omega));simp[Es,ALK h i (by omega),H,Jm]
theorem O3{k:Int}:10∉DR k:=by unfold DR;split;exact YK (by decide);decide
theorem AVH{k:Int}{f:List Nat}{t:List (List Nat)}{n o:List Int}{r:List (List Int)}:10∉Ce k f t n o r:=by unfold Ce;split;split;rename_i h;simp[O3,ALK h.2 t.length (Nat.le_refl _)];decide;split;split;rename_i h;simp[O3,UF,SL h];decide;split;split;decide;simp[O3,UF,AWW];split;simp[O3,UF];decide
end Go.Cat
namespace Go.Cat
variable{K:Nat->List D->List D->Prop}
set_option maxRecDepth 100000
class OO(K:Nat->List D->List D->Prop):Prop where
 ex:∀s:List Nat,s.length<=1000000->(∀c∈s,c<256)->∃b,K 679 [.s s] [.s (Da s),.b b]
theorem CR:(∀(a b:Nat)(l m:List Nat),(a::l==b::m)=(a==b&&l==m))/\(∀(a:Nat)(l:List Nat),(a::l==[])=false)/\(∀(b:Nat)(m:List Nat),([]==b::m)=false)/\(([]:List Nat)==[])=true/\(∀b,(true&&b)=b)/\∀b,(false&&b)=false:=
 ⟨λ_ _ _ _=>rfl,λ_ _=>rfl,λ_ _=>rfl,rfl,λ_=>rfl,λ_=>rfl⟩
theorem AQE{p:Bool}{k:Int}{f:List Nat}{t:List (List Nat)}{n o:List Int}{r:List (List Int)}:Nw (if p=true then Ce k f t n o r else [110,111]):=by split;exact⟨ALN,AVH⟩;exact⟨by simp,by simp⟩
end Go.Cat
namespace Go.Cat
variable{K:Nat->List D->List D->Prop}
set_option maxRecDepth 100000
end Go.Cat
namespace Go.Cat
variable{K:Nat->List D->List D->Prop}
set_option maxRecDepth 100000
end Go.Cat
namespace Go.Cat
variable{K:Nat->List D->List D->Prop}
set_option maxRecDepth 100000
theorem ZE{ss:List (List Nat)}{j:Int}(h:0<=j/\j<=ss.length):Ec (LS ss) none (some (.n j))=some (LS (sub ss 0 j)):=IV D.s JS (FG (by omega)) (by omega) (by omega)
def DG(ws:List (List Nat)):List (List Nat):=if AH ws ((ws.length:Int)-1)=[]then sub ws 0 ((ws.length:Int)-1)else ws
def oG(g:Nat->List Nat)(ws:List (List Nat)):Nat->List Nat
 |0=>[]
 |i+1=>if AH ws i=[]then oG g ws i else oG g ws i++g i++[10]
def KE(g:Nat->List Nat)(s:List Nat):List Nat:=if 2000<s.length then []else if 20<(DG (Ag 10 s)).length then []else oG g (DG (Ag 10 s)) (DG (Ag 10 s)).length
theorem AWX{g:Nat->List Nat}{s:List Nat}(h:2000<s.length):KE g s=[]:=by simp[KE,h]
theorem AYM{ws:List (List Nat)}:(DG ws).length<=ws.length:=by unfold DG;split;rw[LO];omega;exact Nat.le_refl _
theorem Ac7{ws:List (List Nat)}{i:Nat}(h:i<(DG ws).length):AH (DG ws) i∈ws:=by
 have:AH (DG ws) i∈DG ws:=by simp[AH,h]
 unfold DG at this|-;split at this;rename_i q;rw[if_pos q];simp only[sub,Int.toNat_zero,List.drop_zero]at this|-;exact List.mem_of_mem_take this;rename_i q;rw[if_neg q];exact this
theorem AE4{g:Nat->List Nat}{us:List (List Nat)}(H:∀i,i<us.length->(g i).length<=100000):∀i,i<=us.length->(oG g us i).length<=100001*i
 |0,_=>by simp[oG]
 |i+1,h=>by have a:=AE4 H i (by omega);have b:=H i (by omega);simp only[oG];split;omega;simp only[AZ,AO,Aa];omega
theorem AYO{s:List Nat}:0<(Ag 10 s).length/\(Ag 10 s).length<=s.length+1/\∀i,i<(DG (Ag 10 s)).length->(AH (DG (Ag 10 s)) i).length<=s.length:=
 ⟨(Jg (b:=10) (s:=s) (acc:=[])).1,(Jg (b:=10) (s:=s) (acc:=[])).2,λi hi=>by
   have:(AH (DG (Ag 10 s)) i).length<=([]:List Nat).length+s.length:=OD (Ac7 hi)
   simp only[Aa]at this
   omega⟩
theorem AFT{a:List Nat}:(a==([]:List Nat))=decide (a=[]):=by cases h:(a==([]:List Nat))<;>simp_all
set_option maxHeartbeats 1000000 in
theorem AQL[HA K]{s:List Nat}{g:Nat->List Nat}(H:s.length<=2000->∀i,i<(DG (Ag 10 s)).length->(g i).length<=100000/\K 672 [LS (Ag 32 (AH (DG (Ag 10 s)) i))] [.s (g i)])(O:s.length<=1048576):K 667 [.s s] [.s (KE g s)]:=by
 refine qb I667 ?_;by_cases o:2000<s.length;rw[AWX o];exact wZ;by_cases h0:s=[];subst h0;exact wZ;have f:(s==([]:List Nat))=false:=by simpa using h0
 have H:=H (by omega);obtain⟨I,J,B⟩:=AYO (s:=s);have k:=AYM (ws:=Ag 10 s);have C:KE g s=if 20<(DG (Ag 10 s)).length then []else oG g (DG (Ag 10 s)) (DG (Ag 10 s)).length:=by simp[KE,o]
 simp(disch:=try exact dV) only[AD,f];refine cB (No (by omega)) ?_;rw[C];clear C;generalize Ag 10 s=ws at*;obtain⟨us,l⟩:∃us,us=DG ws:=⟨_,rfl⟩;rw[<-l]at H B k|-;have q:=AFT (a:=AH ws ((ws.length:Int)-1));by_cases b:AH ws ((ws.length:Int)-1)=[]
 all_goals
  first
  |(have e:sub ws 0 ((ws.length:Int)-1)=us:=by rw[l,DG,if_pos b]
    rw[decide_eq_true b]at q
    simp(disch:=try exact dV) only[AD,q,ZE,e])
  |(have e:ws=us:=by rw[l,DG,if_neg b]
    rw[decide_eq_false b]at q
    simp(disch:=try exact dV) only[AD,q,ZE]
    rw[e])
  by_cases x:20<us.length
  .refine wW ?_
   rw[if_pos x]
  rw[if_neg x]
  refine wW ?_
  refine AR (λ_=>True) (λi=>[.u,.u,.u,.s (oG g us i),.u,.u,.u,.u,LS us,.n us.length,.n i,.u,.u]) us.length trivial rfl (λi hi _=>?_) (λ_=>?_)
  .have N:=AE4 (λj G=>(H j G).1) i (by omega)
   obtain⟨F,M⟩:=H i hi
   have L:=B i hi
   have h:=AFT (a:=AH us i)
   by_cases c:AH us i=[]
   .rw[decide_eq_true c]at h
    simp(disch:=try exact dV) only[AD,h]
    simp only[oG,if_pos c]
   .rw[decide_eq_false c]at h
    simp(disch:=try exact dV) only[AD,h]
    refine cW (No (by omega)) ?_
    refine cW M ?_
    simp only[oG,if_neg c]
  .exact wZ
end Go.Cat
namespace Go.Cat
set_option maxRecDepth 100000
def jn(s:List (List Nat)):List Nat:=s.flatMap λl=>l++[10]
theorem OH{b:Nat}:∀{s acc:List Nat},b∉s->Ct b acc s=[acc++s]
 |[],acc,_=>by simp[Ct]
 |a::s,acc,h=>by simp only[AY,not_or]at h;simp only[Ct];rw[if_neg λq=>h.1 q.symm,OH h.2];simp
theorem Il{b:Nat}:∀{l acc r:List Nat},b∉l->Ct b acc (l++b::r)=(acc++l)::Ct b [] r
 |[],acc,r,_=>by simp[Ct]
 |a::l,acc,r,h=>by simp only[AY,not_or]at h;simp only[List.cons_append,Ct];rw[if_neg λq=>h.1 q.symm,Il h.2];simp
theorem ZK:∀{o:List (List Nat)}{r:List Nat},(∀l∈o,10∉l)->Ag 10 (jn o++r)=o++Ag 10 r
 |[],r,_=>rfl
 |l::o,r,h=>by
  have e:jn (l::o)++r=l++10::(jn o++r):=by simp[jn]
  rw[e,Ag,Il (h l (by simp))];have:=ZK (o:=o) (r:=r) λx H=>h x (by simp[H]);simp only[Ag]at this;rw[this];simp[Ag]
theorem Ab1{o:List (List Nat)}{f:List Nat}:DG (o++[f])=if f=[]then o else o++[f]:=by
 have h:((o++[f]).length:Int)-1=(o.length:Nat):=by simp
 have H:AH (o++[f]) (o.length:Nat)=f:=by simp[AH]
 unfold DG;rw[h,H];split;simp[sub];rfl
theorem AUN{o:List (List Nat)}{f s:List Nat}(a:∀l∈o,10∉l)(H:10∉f)(h:jn o++f=s):DG (Ag 10 s)=if f=[]then o else o++[f]:=by rw[<-h,ZK a,<-Ab1];simp only[Ag,OH H,List.nil_append]
end Go.Cat
namespace Go.Cat
variable{K:Nat->List D->List D->Prop}
set_option maxRecDepth 100000
theorem Qv[HA K]{a b v:List Nat}(k:K 677 [.s a,.s b] [.s v,.b true]):K 672 [LS [a,b]] [.s v]:=by have c:AH [a,b] 0=a:=rfl;have f:AH [a,b] 1=b:=rfl;have e:([a,b]:List (List Nat)).length=2:=rfl;refine qb TI ?_;simp(disch:=try exact dV) only[AD,e,c,f];exact cZ k
theorem RQ[HA K]{a b c v:List Nat}(k:K 678 [.s a,.s b,.s c] [.s v,.b true]):K 672 [LS [a,b,c]] [.s v]:=by have f:AH [a,b,c] 0=a:=rfl;have g:AH [a,b,c] 1=b:=rfl;have h:AH [a,b,c] 2=c:=rfl;have e:([a,b,c]:List (List Nat)).length=3:=rfl;refine qb TI ?_;simp(disch:=try exact dV) only[AD,e,f,g,h];exact cZ k
theorem RW{v:List Nat}(h:v≠[]):RB v=v:=by simp[RB,h]
theorem APE[HA K]{b v:List Nat}(k:K 458 [.s b] [.s v])(a:K 67 [.s b] [.b true]):K 672 [LS [[112,97,116,104],b]] [.s v]:=by refine Qv ?_;refine qb OM ?_;simp(disch:=try exact dV) only[AD,CR,Nat.reduceBEq];repeat(refine cB (by first|exact k|exact a|fail) ?_;try simp(disch:=try exact dV) only[AD,CR,Nat.reduceBEq])
theorem AXX[HA K]{b v:List Nat}(k:K 526 [.s b] [.s v])(a:K 67 [.s b] [.b true]):K 672 [LS [[107,105,110,100,115],b]] [.s v]:=by refine Qv ?_;refine qb OM ?_;simp(disch:=try exact dV) only[AD,CR,Nat.reduceBEq];repeat(refine cB (by first|exact k|exact a|fail) ?_;try simp(disch:=try exact dV) only[AD,CR,Nat.reduceBEq])
theorem Ad0[HA K]{b v:List Nat}(k:K 125 [.s b] [.s v])(a:K 167 [.s b] [.b true]):K 672 [LS [[116,114,101,101],b]] [.s v]:=by refine Qv ?_;refine qb OM ?_;simp(disch:=try exact dV) only[AD,CR,Nat.reduceBEq];repeat(refine cB (by first|exact k|exact a|fail) ?_;try simp(disch:=try exact dV) only[AD,CR,Nat.reduceBEq])
theorem Aa3[HA K]{b v:List Nat}{n:Int}(a:K 562 [.s b] [.n n,.b true])(c:K 456 [.n n] [.s v])(h:v≠[]):K 672 [LS [[99,111,117,110,116],b]] [.s v]:=by have k:=R5 (K:=K) (v:=v);rw[RW h]at k;refine Qv ?_;refine qb OM ?_;simp(disch:=try exact dV) only[AD,CR,Nat.reduceBEq];repeat(refine cB (by first|exact a|exact c|exact k|fail) ?_;try simp(disch:=try exact dV) only[AD,CR,Nat.reduceBEq])
theorem Ab9[HA K]{b c v:List Nat}(i:K 167 [.s b] [.b true])(I:K 167 [.s c] [.b true])(k:K 608 [.s b,.s c] [.s v])(h:v≠[]):K 672 [LS [[112,97,105,114],b,c]] [.s v]:=by have a:=R5 (K:=K) (v:=v);rw[RW h]at a;refine RQ ?_;refine qb OW ?_;simp(disch:=try exact dV) only[AD,CR,Nat.reduceBEq,DV,Bv,CK];repeat(refine cB (by first|exact i|exact I|exact k|exact a|fail) ?_;try simp(disch:=try exact dV) only[AD,CR,Nat.reduceBEq,DV,Bv,CK])
theorem APT[HA K]{b c v:List Nat}{n:Int}{x y:Bool}(i:K 167 [.s b] [.b x])(I:K 167 [.s c] [.b y])(e:K 562 [.s c] [.n n,.b true])(k:K 558 [.s b,.n n] [.s v])(h:v≠[]):K 672 [LS [[115,105,101,118,101],b,c]] [.s v]:=by
 have a:=R5 (K:=K) (v:=v);rw[RW h]at a;refine RQ ?_;refine qb OW ?_
 cases x<;>cases y
 all_goals
  simp(disch:=try exact dV) only[AD,CR,Nat.reduceBEq,DV,Bv,CK]
  repeat(refine cB (by first|exact i|exact I|exact e|exact k|exact a|fail) ?_;try simp(disch:=try exact dV) only[AD,CR,Nat.reduceBEq,DV,Bv,CK])
theorem AWC[HA K]{b c:List Nat}{k:Int}{f s:List Nat}{t:List (List Nat)}{w:Bool}(I:K 167 [.s b] [.b true])(a:K 167 [.s c] [.b true])(h:MH f t [] [] [])(e:K 340 [.s b,.s c] [CL k f s t [] [] [],.b w]):K 672 [LS [[111,114,100,101,114],b,c]] [.s (if w=true then Ce k f t [] [] []else [110,111])]:=by
 have i:=ALY (K:=K) (k:=k) (s:=s) h;refine RQ ?_;refine qb OW ?_
 cases w
 all_goals
  simp(disch:=try exact dV) only[AD,CR,Nat.reduceBEq,DV,Bv,CK]
  repeat(refine cB (by first|exact I|exact a|exact e|exact i|fail) ?_;try simp(disch:=try exact dV) only[AD,CR,Nat.reduceBEq,DV,Bv,CK])
  try rfl
theorem AZT[HA K]{b c:List Nat}{k:Int}{f s:List Nat}{t:List (List Nat)}(I:K 167 [.s b] [.b true])(a:K 167 [.s c] [.b true])(h:MH f t [] [] [])(e:K 338 [.s b,.s c] [CL k f s t [] [] [],.b true]):K 672 [LS [[100,105,115,116,97,110,99,101],b,c]] [.s (Ce k f t [] [] [])]:=by have i:=ALY (K:=K) (k:=k) (s:=s) h;refine RQ ?_;refine qb OW ?_;simp(disch:=try exact dV) only[AD,CR,Nat.reduceBEq,DV,Bv,CK];repeat(refine cB (by first|exact I|exact a|exact e|exact i|fail) ?_;try simp(disch:=try exact dV) only[AD,CR,Nat.reduceBEq,DV,Bv,CK])
theorem AcZ[HA K][OO K]{w:List Nat}(hd:AK w=true):K 672 [LS [[99,111,110,118,101,114,116],[112,97,116,104],[98,105,110,97,114,121],w]] [.s (Ft w).t]:=by
 have M:=(A8 hd).l;have j:∀c∈w,c=117\/c=100:=UJ hd;have I:Da w=w:=by
  unfold Da;conv=>rhs;rw[<-List.map_id w]
  refine List.map_congr_left λc h=>?_;rcases j c h with rfl|rfl<;>rfl
 have C:=ZR (K:=K) (p:=BK) (x:=[112,97,116,104]) (by decide);have c2:=ZR (K:=K) (p:=BK) (x:=[98,105,110,97,114,121]) (by decide);rw[decide_eq_true (by decide)]at C c2;obtain⟨z,G⟩:=OO.ex (K:=K) w (by omega) (λc h=>by rcases j c h with rfl|rfl<;>omega);rw[I]at G;have F:=AdQ (K:=K) (a:=[112,97,116,104]) (b:=[98,105,110,97,114,121]) (s:=w) (by omega);have J:BP [112,97,116,104]=0:=by decide
 have L:BP [98,105,110,97,114,121]=3:=by decide
 have H:=WZ (k:=[112,97,116,104]) hd (by omega);rw[J]at H;have ev:Od [112,97,116,104] [98,105,110,97,114,121] w=(Ft w).t:=by unfold Od;rw[show w=A9 w 0 from rfl,if_pos H.1,H.2];simp only[ET,EZ,hd,L];rfl
 rw[ev]at F;generalize WU [112,97,116,104] [98,105,110,97,114,121] w=o at*;have B:=R5 (K:=K) (v:=(Ft w).t);rw[RW (λq=>by have:=BT.tl (Ft w);rw[q]at this;simp at this)]at B;have e:([[99,111,110,118,101,114,116],[112,97,116,104],[98,105,110,97,114,121],w]:List (List Nat)).length=4:=rfl;have f:AH [[99,111,110,118,101,114,116],[112,97,116,104],[98,105,110,97,114,121],w] 0=[99,111,110,118,101,114,116]:=rfl;have g:AH [[99,111,110,118,101,114,116],[112,97,116,104],[98,105,110,97,114,121],w] 1=[112,97,116,104]:=rfl;have a2:AH [[99,111,110,118,101,114,116],[112,97,116,104],[98,105,110,97,114,121],w] 2=[98,105,110,97,114,121]:=rfl;have i:AH [[99,111,110,118,101,114,116],[112,97,116,104],[98,105,110,97,114,121],w] 3=w:=rfl;refine qb TI ?_;simp(disch:=try exact dV) only[AD,e,f,g,a2,i];repeat(refine cB (by first|exact YC|exact C|exact c2|exact G|exact F|exact B|fail) ?_;try simp(disch:=try exact dV) only[AD,e,f,g,a2,i])
end Go.Cat
namespace Go.Cat
set_option maxRecDepth 100000
variable{K:Nat->List D->List D->Prop}
end Go.Cat
namespace Go.Cat
variable{K:Nat->List D->List D->Prop}
end Go.Cat
namespace Go.Cat
variable{K:Nat->List D->List D->Prop}
def cf(a b:List Int)(i m:Nat)(x:Int):Int:=iter (λk s=>IntKind.i64.wrap (s+IntKind.i64.wrap (AB a k*AB b ((i:Int)-k)))) m x
def pw(b:List Int)(n:Nat):Nat->List Int
 |0=>b
 |j+1=>AYD (pw b n j) b n
def ARV(n:Nat):List Int:=B9 (rep (n:Int) 0) 0 1
end Go.Cat
namespace Go.Cat
variable{K:Nat->List D->List D->Prop}
end Go.Cat
namespace Go.Cat
variable{K:Nat->List D->List D->Prop}
end Go.Cat
namespace Go.Cat
variable{K:Nat->List D->List D->Prop}
end Go.Cat
namespace Go.Cat
variable{K:Nat->List D->List D->Prop}
set_option maxRecDepth 100000
def pws(b:List Int)(n:Nat):Nat->List Int
 |0=>ARV n
 |k+1=>pw b n k
def sm(f b:List Int)(n i:Nat)(k:Nat):Int:=iter (λk s=>IntKind.i64.wrap (s+IntKind.i64.wrap (AB f k*AB (pws b n k) i))) k 0
end Go.Cat
namespace Go.Cat
variable{K:Nat->List D->List D->Prop}
set_option maxRecDepth 100000
end Go.Cat
namespace Go.Cat
set_option maxRecDepth 100000
variable{K:Nat->List D->List D->Prop}
theorem Ts[HA K]{code:List Nat}{k:Nat}(h:code.length<=1048576)(b:∀c∈code,c<256)(H:k<=100):∃rs,(∃v:Int,rs=[.n v]/\0<=v/\v<=255)/\K 407 [LB code,.n k] rs:=by refine qx I407 ?_;refine wW ?_;by_cases q:k<code.length;have a:AI code k<256:=b _ (by simp[AI,q]);refine wW ?_;exact⟨_,rfl,by omega,by omega⟩;refine wW ?_;exact⟨_,rfl,by omega,by omega⟩
end Go.Cat
namespace Go.Cat
variable{K:Nat->List D->List D->Prop}
set_option maxRecDepth 100000
end Go.Cat
namespace Go.Cat
variable{K:Nat->List D->List D->Prop}
set_option maxRecDepth 100000
end Go.Cat
namespace Go.Cat
variable{K:Nat->List D->List D->Prop}
set_option maxRecDepth 100000
theorem AE8[HA K]{code:List Nat}:K 220 [LB code] [.b (decide (1048576<(code.length:Int)))]:=by refine qb I220 ?_;simp(disch:=try exact dV) only[vc]
end Go.Cat
namespace Go.Cat
variable{K:Nat->List D->List D->Prop}
set_option maxRecDepth 100000
theorem pth{n:Nat}{b:Int}(f:1<=n/\n<=4)(h:0<=b/\b<=255):∃x:BT,x.n=n/\AK x.p=true/\Ea n (b*EN.getD n 0/256)=x.p:=by
 have e:=UQ (n:=n) (by omega);have H:1<=EN.getD n 0/\EN.getD n 0<=14:=by
  obtain rfl|rfl|rfl|rfl:n=1\/n=2\/n=3\/n=4:=by omega
  all_goals decide
 generalize EN.getD n 0=C at*;have a:0<=b*C:=Int.mul_nonneg h.1 (by omega);have c:b*C<=255*C:=Int.mul_le_mul_of_nonneg_right h.2 (by omega);have o:DE n (b*C/256)=true:=by simp only[DE,Ad,BM];omega
 obtain⟨g,_,G,_⟩:=Ys o;generalize Ea n (b*C/256)=w at*;obtain⟨x,rfl,i⟩:=Hq g;rw[Pf g,BT.pl]at G;exact⟨x,by omega,g,rfl⟩
theorem Tn:∀{x:BT},∀c∈x.t,40<=c/\c<=46
 |.lf,c,h=>by simp[BT.t]at h;omega
 |.nd l r,c,h=>by simp only[BT.t,AY,Ac,Cy,or_false]at h;rcases h with h|h|h|h;omega;exact Tn c h;exact Tn c h;omega
theorem w2{a b:List Nat}(h:32∉a)(H:32∉b):Ag 32 (a++32::b)=[a,b]:=by rw[Ag,Il h,OH H]<;>rfl
theorem w3{a b c:List Nat}(h:32∉a)(H:32∉b)(e:32∉c):Ag 32 (a++32::(b++32::c))=[a,b,c]:=by rw[Ag,Il h,Il H,OH e]<;>rfl
theorem w4{a b c d:List Nat}(h:32∉a)(H:32∉b)(e:32∉c)(hd:32∉d):Ag 32 (a++32::(b++32::(c++32::d)))=[a,b,c,d]:=by rw[Ag,Il h,Il H,Il e,OH hd]<;>rfl
theorem AHN{n:Nat}(h:1<=n/\n<=4):AN n=[48+n]:=by
 obtain rfl|rfl|rfl|rfl:n=1\/n=2\/n=3\/n=4:=by omega
 all_goals simp[AN,CQ]
def F9(x y:BT)(n:Nat):List (List Nat):=[[112,97,116,104,32]++x.p,[107,105,110,100,115,32]++x.p,[116,114,101,101,32]++x.t,[112,97,105,114,32]++(x.t++32::y.t),[111,114,100,101,114,32]++(x.t++32::y.t),[100,105,115,116,97,110,99,101,32]++(x.t++32::y.t),[99,111,117,110,116,32,48+n],[115,105,101,118,101,32,109,97,116,99,104,105,110,103,115,32,48+n],[99,111,110,118,101,114,116,32,112,97,116,104,32,98,105,110,97,114,121,32]++y.p]
theorem AU6{x y:BT}{n:Nat}(H:AK x.p=true)(b:AK y.p=true)(c:n<=4):∀l∈F9 x y n,10∉l:=by
 have e:=SL H;have a:=SL b;intro l h;simp only[F9,AY,Cy,or_false]at h;rcases h with rfl|rfl|rfl|rfl|rfl|rfl|rfl|rfl|rfl;all_goals simp[e,a,Jm]
 all_goals omega
theorem AGA{x y:BT}{n:Nat}(H:AK x.p=true)(a:AK y.p=true)(h:n<=4):DG (Ag 10 (jn (F9 x y n)))=F9 x y n:=by have:=AUN (o:=F9 x y n) (f:=[]) (s:=jn (F9 x y n)) (AU6 H a h) (by simp) (by simp);rwa [if_pos rfl]at this
set_option maxHeartbeats 2000000 in
theorem Ac3[HA K]{x y:BT}{n:Nat}(H:AK x.p=true)(G:AK y.p=true)(L:x.n=n)(M:y.n=n)(I:1<=n/\n<=4){f j a2 k l o B C F:List Nat}
  (J:∀a∈[f,j,a2,k,l,o,B,C,F],a.length<=100000)
  (O:K 672 [LS [[112,97,116,104],x.p]] [.s f]) (Q:K 672 [LS [[107,105,110,100,115],x.p]] [.s j]) (R:K 672 [LS [[116,114,101,101],x.t]] [.s a2])
  (U:K 672 [LS [[112,97,105,114],x.t,y.t]] [.s k]) (V:K 672 [LS [[111,114,100,101,114],x.t,y.t]] [.s l]) (W:K 672 [LS [[100,105,115,116,97,110,99,101],x.t,y.t]] [.s o])
  (Y:K 672 [LS [[99,111,117,110,116],[48+n]]] [.s B]) (Z:K 672 [LS [[115,105,101,118,101],[109,97,116,99,104,105,110,103,115],[48+n]]] [.s C])
  (k8:K 672 [LS [[99,111,110,118,101,114,116],[112,97,116,104],[98,105,110,97,114,121],y.p]] [.s F]):
  K 667 [.s (jn (F9 x y n))] [.s (f++[10]++j++[10]++a2++[10]++k++[10]++l++[10]++o++[10]++B++[10]++C++[10]++F++[10])]:=by
 have P:∀{z:BT},AK z.p=true->32∉z.p:=λh q=>by have:=UJ h 32 q;omega
 have T:∀{z:BT},32∉z.t:=λq=>by have:=Tn 32 q;omega
 have N:32∉[48+n]:=by simp;omega
 have hj:(jn (F9 x y n)).length<=2000:=by have:=BT.tl x;have:=BT.tl y;have:=BT.pl x;have:=BT.pl y;simp[jn,F9];omega
 have h:=AQL (K:=K) (s:=jn (F9 x y n)) (g:=AH [f,j,a2,k,l,o,B,C,F] ∘ λi:Nat=>(i:Int)) (λ_ i hi=>by
  rw[AGA H G I.2]at hi|-;refine⟨J _ (by simp[AH,show i<9 from hi]),?_⟩;match i,hi with
  |0,_=>exact(w2 (a:=[112,97,116,104]) (by decide) (P H))▸O
  |1,_=>exact(w2 (a:=[107,105,110,100,115]) (by decide) (P H))▸Q
  |2,_=>exact(w2 (a:=[116,114,101,101]) (by decide) T)▸R
  |3,_=>exact(w3 (a:=[112,97,105,114]) (by decide) T T)▸U
  |4,_=>exact(w3 (a:=[111,114,100,101,114]) (by decide) T T)▸V
  |5,_=>exact(w3 (a:=[100,105,115,116,97,110,99,101]) (by decide) T T)▸W
  |6,_=>exact(w2 (a:=[99,111,117,110,116]) (by decide) N)▸Y
  |7,_=>exact(w3 (a:=[115,105,101,118,101]) (b:=[109,97,116,99,104,105,110,103,115]) (by decide) (by decide) N)▸Z
  |8,_=>exact(w4 (a:=[99,111,110,118,101,114,116]) (b:=[112,97,116,104]) (c:=[98,105,110,97,114,121]) (by decide) (by decide) (by decide) (P G))▸k8) (by omega)
 have e:KE (AH [f,j,a2,k,l,o,B,C,F] ∘ λi:Nat=>(i:Int)) (jn (F9 x y n))=f++[10]++j++[10]++a2++[10]++k++[10]++l++[10]++o++[10]++B++[10]++C++[10]++F++[10]:=by unfold KE;rw[if_neg (by omega),AGA H G I.2];simp[F9,oG,AH]
 rwa [e]at h
set_option maxHeartbeats 4000000 in
theorem AYG[HA K][E3 K][RG K][ADP K][OO K]{code:List Nat}(Q:∀c∈code,c<256):K 657 [LB code] [.b true]:=by
 by_cases U:code.length<=1048576
 .obtain⟨_,⟨a,rfl,O⟩,ka⟩:=Ts (K:=K) (k:=1) U Q (by omega);obtain⟨_,⟨b,rfl,e⟩,kb⟩:=Ts (K:=K) (k:=2) U Q (by omega);obtain⟨_,⟨c,rfl,R⟩,kc⟩:=Ts (K:=K) (k:=3) U Q (by omega);obtain⟨n,hn,H⟩:∃n:Nat,1+a%4=n/\1<=n/\n<=4:=⟨(1+a%4).toNat,by omega,by omega⟩;have kC:=TE (K:=K) (n:=n) (by omega);obtain⟨x,V,j,ex⟩:=pth H e;obtain⟨y,Y,W,ey⟩:=pth H R;have g:=Wi (K:=K) (a:=n) (b:=b*EN.getD n 0/256);have i:=Wi (K:=K) (a:=n) (b:=c*EN.getD n 0/256);rw[ex]at g;rw[ey]at i;generalize DE n (b*EN.getD n 0/256)=o1 at g;generalize DE n (c*EN.getD n 0/256)=o2 at i;have hC:1<=EN.getD n 0/\EN.getD n 0<=14:=by
   obtain rfl|rfl|rfl|rfl:n=1\/n=2\/n=3\/n=4:=by omega
   all_goals decide
  generalize EN.getD n 0=C at*;have hbC:0<=b*C/\b*C<=255*14:=⟨Int.mul_nonneg e.1 (by omega),Int.mul_le_mul e.2 hC.2 (by omega) (by omega)⟩;have hcC:0<=c*C/\c*C<=255*14:=⟨Int.mul_nonneg R.1 (by omega),Int.mul_le_mul R.2 hC.2 (by omega) (by omega)⟩;have I:=Qa (K:=K) j;have J:=Qa (K:=K) W;rw[GO]at I J;have hxl:=BT.pl x;have hyl:=BT.pl y;have hxt:=BT.tl x;have hyt:=BT.tl y;have N:=Bf (K:=K) (w:=x.p) (by omega);rw[j]at N;have ix:=Hx (K:=K) (s:=x.t);have iy:=Hx (K:=K) (s:=y.t);rw[FO (by omega)]at ix iy;have p1:=AUB (K:=K) (w:=x.p) (by omega);have p2:=AY6 (K:=K) (w:=x.p) (by omega);have p3:=kl_i (K:=K) (w:=x.p) (by omega);have p4:=kl_s (K:=K) (w:=x.p) (by omega);rw[if_pos j]at p1 p2 p3 p4;have b0:=OT j 9;have b1:=R6 j 9;generalize Gq x.p 9=v0 at*;generalize Gx x.p 9=v1 at*;obtain⟨v2,b2,p5,p6⟩:=ARJ (K:=K) x.t;obtain⟨v3,⟨n3,b3⟩,p7,p8⟩:=AeA (K:=K) (x:=x) (y:=y) (by omega) (by omega);obtain⟨k,f,s,t,w,ht,hf,p9,p10⟩:=Ab6 (K:=K) x.t y.t;have B:MH f t [] [] []:=⟨by omega,by simp,by simp,by simp,by simp⟩;have P:=AA8 (K:=K) (k:=k) (s:=s) B;obtain⟨u,u1,u2,ui,us⟩:=AND (K:=K) (x:=x) (y:=y) (by omega) (by omega);obtain⟨p12,p13⟩:=cd_t (K:=K) u1 u2 ui us;have q:MH x.t u [] [] []:=⟨by omega,by simp,by simp,by simp,by simp⟩;have p14:=AA8 (K:=K) (k:=2) (s:=y.t) q;obtain⟨v6,⟨n6,b6⟩,p15,p16⟩:=AO7 (K:=K) (n:=n) (by omega);obtain⟨v7,⟨n7,b7⟩,L,M⟩:=AS8 (K:=K) (f:=0) (n:=n) (by omega) (by omega);have kf:=Bk (K:=K) (n:=(n:Int)) (by omega);rw[AHN H]at kf;have Z:=PI (K:=K) (s:=[48+n]) (by simp);have F:=JU (n:=(n:Int)) (by omega);have G:=N7 (n:=(n:Int)) (by omega);rw[AHN H]at F G;rw[F,G]at Z;have T:Bg 0=[109,97,116,99,104,105,110,103,115]:=rfl;rw[T]at L M;have a3:=Ab9 ix iy p7 n3;have a4:=AWC ix iy B p9;have a5:=AZT ix iy q p12;have a6:=Aa3 Z p15 n6;have a7:=APT (Hx (K:=K)) (Hx (K:=K)) Z L n7;have a8:=AcZ (K:=K) W;rw[GO]at a8;have b4:=(AQE (p:=w) (k:=k) (f:=f) (t:=t) (n:=[]) (o:=[]) (r:=[])).1;have b5:=ALN (k:=2) (f:=x.t) (t:=u) (n:=[]) (o:=[]) (r:=[])
  have run:=Ac3 j W V Y H (by intro a O;simp only[AY,Cy,or_false]at O;have:=b2.1;have:=b3.1;have:=b6.1;have:=b7.1;rcases O with rfl|rfl|rfl|rfl|rfl|rfl|rfl|rfl|rfl<;>omega) (APE p1 N) (AXX p3 N) (Ad0 p5 ix) a3 a4 a5 a6 a7 a8;generalize Ce 2 x.t u [] [] []=v5 at*;have l2:=b2.1;have l3:=b3.1;have l6:=b6.1;have l7:=b7.1;obtain⟨v4,l⟩:∃v,v=if w=true then Ce k f t [] [] []else [110,111]:=⟨_,rfl⟩;rw[<-l]at run b4;have go:∀t,t=jn (F9 x y n)->K 667 [.s t] _:=λt h=>h▸run;refine qw AFW ?_;refine cW AE8 ?_;refine cB ka ?_;simp(disch:=try exact dV) only[AD,hn];refine cW kb ?_;refine cW kC ?_;refine cW g ?_;refine cW kc ?_;refine cW kC ?_;refine cW i ?_;refine cW I ?_;refine cB J ?_;simp(disch:=try exact dV) only[AD,Bv,CK];refine cB p10 ?_;simp(disch:=try exact dV) only[AD,Bv,CK];refine cB p13 ?_;simp(disch:=try exact dV) only[AD,Bv,CK]
  cases w
  all_goals
   first
   |(simp only[if_true]at l
     rw[<-l]at P)
   |(simp only[Gw,if_false]at l
     subst l)
   simp(disch:=try exact dV) only[AD,Bv,CK]
   repeat(refine cB P ?_;try simp(disch:=try exact dV) only[AD,Bv,CK])
   refine cB kf ?_
   simp(disch:=try exact dV) only[AD,Bv,CK]
   refine cB (go _ ?_) ?_
   .simp[jn,F9]
   simp(disch:=try exact dV) only[AD,Bv,CK]
   repeat(refine cB (by first|exact p2|exact p4|exact p6|exact p8|exact p14|exact p16|exact M|fail) ?_;try simp(disch:=try exact dV) only[AD,Bv,CK])
 refine qw AFW ?_;exact cZ AE8
end Go.Cat
