/-
 Texts as numbers: ParseInt of both sides.
-/
import Derived.Test.YthoilpmggmenbaaGreatPfH
set_option linter.unusedSimpArgs false
set_option linter.unusedVariables false
namespace Go.Cat
variable{K:Nat->List D->List D->Prop}
def Dm(c:Nat):Bool:=decide (48<=c)&&decide (c<=57)
def vL(s:List Nat):Nat:=s.foldl (λa c=>if Dm c=true then a*10+(c-48)else a) 0
def kL(s:List Nat):Nat:=s.countP Dm
theorem RU{s:List Nat}{c:Nat}:vL (s++[c])=if Dm c=true then vL s*10+(c-48)else vL s:=by simp[vL,List.foldl_append]
theorem YZ{s:List Nat}{c:Nat}:kL (s++[c])=kL s+if Dm c=true then 1 else 0:=by simp only[kL,List.countP_append,List.countP_cons,List.countP_nil];omega
theorem AQU{P:List Nat->Prop}(h0:P [])(h:∀a c,P a->P (a++[c])):∀s,P s:=by
 intro s;rw[<-List.reverse_reverse s];induction s.reverse with
 |nil=>exact h0
 |cons c t i=>rw[List.reverse_cons];exact h _ _ i
theorem KN{c:Nat}:Dm c=true↔48<=c/\c<=57:=by simp[Dm]
theorem Ol:∀s,vL s<10^kL s:=by refine AQU (by simp[vL,kL]) λa c h=>?_;rw[RU,YZ];split;rename_i H;have:=KN.1 H;rw[Nat.pow_succ];omega;simpa using h
theorem QS:∀{n:Nat},∀c∈CQ n,Dm c=true:=by
 intro n;induction n using Nat.strongRecOn with
 |_ n i=>
  intro c h
  by_cases h0:n=0
  .subst h0;simp[CQ]at h
  .rw[GW h0]at h
   rcases Ac.1 h with q|q
   .exact i (n/10) (by omega) c q
   .obtain rfl:=List.mem_singleton.1 q
    exact KN.2 ⟨by omega,by omega⟩
theorem AJK:∀{n:Nat},vL (CQ n)=n:=by
 intro n;induction n using Nat.strongRecOn with
 |_ n i=>
  by_cases h0:n=0
  .subst h0;simp[CQ,vL]
  .rw[GW h0,RU,if_pos (KN.2 ⟨by omega,by omega⟩),i (n/10) (by omega)]
   omega
theorem AMM{n:Nat}(h:n≠0):0<(CQ n).length:=by rw[GW h];simp
def pV(s:List Nat):Int:=if AI s 0=45/\0<s.length then -(vL s:Int)else vL s
def E8(s:List Nat):Bool:=decide (-999999999<=pV s/\pV s<=999999999)&&decide (AN (pV s)=s)
def pR(s:List Nat):Int:=if E8 s=true then pV s else 0
theorem AcB{s:List Nat}:vL (45::s)=vL s:=rfl
theorem AKD{s:List Nat}:kL (45::s)=kL s:=rfl
theorem AXY{s:List Nat}(h:∀c∈s,Dm c=true):kL s=s.length:=List.countP_eq_length.2 h
theorem Ad6{c:Nat}{s:List Nat}:AI (c::s) 0=c:=rfl
theorem NQ{s:List Nat}:AI s ((0:Nat):Int)=AI s 0:=rfl
theorem P8{s:List Nat}{i:Nat}(h:i<s.length):AI s i∈s:=by simp[AI,h]
theorem NI{n:Int}:pV (AN n)=n:=by unfold AN;split;subst n;rfl;rename_i h0;split;rename_i H;unfold pV;rw[if_pos ⟨rfl,by simp⟩,AcB,AJK];omega;rename_i H;have l:=AMM (n:=n.natAbs) (by omega);have h:=QS (n:=n.natAbs) _ (P8 (s:=CQ n.natAbs) l);have h:=KN.1 h;rw[NQ]at h;unfold pV;rw[if_neg (by omega),AJK];omega
theorem JU{n:Int}(h:-999999999<=n/\n<=999999999):E8 (AN n)=true:=by simp[E8,NI,h]
theorem N7{n:Int}(h:-999999999<=n/\n<=999999999):pR (AN n)=n:=by simp[pR,JU h,NI]
theorem VE{s:List Nat}(h:E8 s=true):(0<kL s/\kL s<=9)/\((AI s 0=45/\s.length=kL s+1)\/(AI s 0≠45/\s.length=kL s))/\∀i:Nat,(if AI s 0=45 then 1 else 0)<=i->i<s.length->Dm (AI s i)=true:=by
 simp only[E8,AU,Ad]at h;obtain⟨e,he⟩:=h;generalize f:pV s=n at e he;subst s;clear f;unfold AN;split;exact⟨by decide,by decide,λi b H=>by
  obtain rfl:i=0:=by simp only[AO,Aa]at H;omega
  rfl⟩
 rename_i h0;have hd:=QS (n:=n.natAbs);have l:=AMM (n:=n.natAbs) (by omega);have g:=Ld (k:=9) (n:=n.natAbs) (by omega);have c:=AXY hd;split;refine⟨by rw[AKD];omega,.inl ⟨rfl,by rw[AKD,c,AO]⟩,λi b H=>?_⟩;rw[if_pos Ad6]at b;obtain⟨k,rfl⟩:∃k,i=k+1:=⟨i-1,by omega⟩;have:AI (45::CQ n.natAbs) ((k+1:Nat):Int)=AI (CQ n.natAbs) k:=by simp[AI]
 rw[this];exact hd _ (P8 (by simpa using H));have a:=KN.1 (hd _ (P8 (i:=0) l));rw[NQ]at a;exact⟨by omega,.inr ⟨by omega,c.symm⟩,λi _ H=>hd _ (P8 H)⟩
theorem HX{s:List Nat}{i:Nat}(h:i<s.length):s.take (i+1)=s.take i++[AI s i]:=by rw[CO h];simp[AI,h]
theorem AaN{s:List Nat}(h:¬(AI s 0=45/\0<s.length)):pV s=vL s:=if_neg h
theorem AaW{s:List Nat}(h:AI s 0=45/\0<s.length):pV s=-(vL s:Int):=if_pos h
theorem AFJ{s:List Nat}:E8 s=(decide (kL s<=9)&&decide (AN (pV s)=s)):=by
 by_cases h:kL s<=9;have a:=Ol s;have H:10^kL s<=10^9:=Nat.pow_le_pow_right (by omega) h;have b:-999999999<=pV s/\pV s<=999999999:=by unfold pV;split<;>omega
 simp[E8,b,h];have:E8 s=false:=by cases c:E8 s;rfl;have:=(VE c).1;omega
 simp[this,h]
theorem QH{s:List Nat}{a:Nat}:∀{i:Nat},a<=i->i<=s.length->(∀j:Nat,a<=j->j<i->Dm (AI s j)=true)->kL (s.take i)=kL (s.take a)+(i-a):=by
 intro i;induction i with
 |zero=>
  intro H _ _
  obtain rfl:a=0:=by omega
  rfl
 |succ i I=>
  intro H c h
  rcases B7 i a with q|q
  .obtain rfl:a=i+1:=by omega
   omega
  .rw[HX (by omega),YZ,I q (by omega) (λj b e=>h j b (by omega)),if_pos (h i q (by omega))];omega
theorem ZZ{s:List Nat}{a i:Nat}(e:a=if AI s 0=45 then 1 else 0)(b:a<=i)(H:i<s.length)(h:Dm (AI s i)=false):E8 s=false:=by cases c:E8 s;rfl;have:=(VE c).2.2 i (by omega) H;rw[h]at this;cases this
theorem ASH{s:List Nat}{a:Nat}(H:a=if AI s 0=45 then 1 else 0)(h:¬(a+1<=s.length/\s.length<=a+9)):E8 s=false:=by cases hc:E8 s;rfl;have b:=VE hc;split at H<;>omega
theorem AOH[HA K]{s:List Nat}{a:Nat}(T:s.length<=1000000000)(l:a=if AI s 0=45 then 1 else 0)(R:a+1<=s.length/\s.length<=a+9):K 562 [.s s] [.n (pR s),.b (E8 s)]:=by
 have h0:0<s.length:=by omega
 have U:kL (s.take a)=0:=by split at l;subst a;rw[HX h0,NQ];rename_i h;rw[h]<;>rfl;subst a;rfl
 have M:=CN (K:=K) (x:=(s.length:Int)-a) (a:=1) (b:=9);have Q:A4 1 9 ((s.length:Int)-a)=true:=Af.2 (by omega);rw[Q]at M;have N:∀i:Nat,i<=s.length->vL (s.take i)<10^kL (s.take i):=λi _=>Ol _;refine qb ACT ?_;by_cases h:AI s 0=45;obtain rfl:a=1:=by rw[l,if_pos h]
 simp(disch:=omega) only[AD,h];refine cW M ?_;refine AR (λi=>∀j:Nat,1<=j->j<(i+1)->Dm (AI s j)=true) (λi=>[.s s,.u,.u,.n 1,.n (vL (s.take (i+1))),.n ((i:Int)+1),.u,.u,.u,.u,.u,.u]) (s.length-1) (by omega) (by simp[vL,HX,h0,h,NQ,Dm]) (λi hi P=>?_) (λP=>?_);have H:=QH (s:=s) (a:=1) (i:=(i+1)) (by omega) (by omega) P;have J:=N (i+1) (by omega);have I:10^kL (s.take (i+1))<=10^9:=Nat.pow_le_pow_right (by omega) (by omega);by_cases hd:Dm (AI s ((i:Int)+1))=true;have G:=KN.1 hd;have C:=HX (s:=s) (i:=(i+1)) (by omega);refine wW ?_;refine⟨λj c F=>?_,?_⟩;rcases B7 j (i+1)with q|q;exact P j c q;obtain rfl:j=(i+1):=by omega
 exact hd;rw[C,RU,if_pos (by exact hd)];have B:((vL (s.take (i+1))*10+(AI s ((i+1):Nat)-48):Nat):Int)=10*(vL (s.take (i+1)):Int)+((AI s ((i:Int)+1):Int)-48):=by have:AI s (((i+1):Nat):Int)=AI s ((i:Int)+1):=rfl;omega
 rw[B]<;>rfl;have k:=ZZ (i:=(i+1)) l (by omega) (by omega) (by simpa using hd);simp only[Dm,AU,Ad]at hd;by_cases c:AI s ((i:Int)+1)<48;refine wW ?_;simp[pR,k];refine wW ?_;simp[pR,k];have H:=QH (s:=s) (a:=1) (i:=s.length) (by omega) (by omega) (λj c F=>P j c (by omega));have o:s.take ((s.length-1)+1)=s:=by rw[Nat.sub_add_cancel h0,List.take_length]
 rw[List.take_length]at H;have J:=Ol s;have I:10^kL s<=10^9:=Nat.pow_le_pow_right (by omega) (by omega);have O:=AFJ (s:=s);have g:kL s<=9:=by omega
 have e:-9223372036854775808<=pV s/\pV s<=9223372036854775807:=by unfold pV;split<;>omega
 have L:=C4 (K:=K) (n:=pV s) e;have V:(0:Int)-(vL s:Int)=pV s:=by rw[AaW ⟨h,h0⟩];omega
 rw[o];simp(disch:=omega) only[AD,V];refine cB L ?_;by_cases f:AN (pV s)=s;simp(disch:=omega) only[AD,f];simp[pR,O,g,f];simp(disch:=omega) only[AD,beq_eq_false_iff_ne.2 f];simp[pR,O,g,f];obtain rfl:a=0:=by rw[l,if_neg h]
 simp(disch:=omega) only[AD,h];refine cW M ?_;refine AR (λi=>∀j:Nat,0<=j->j<i->Dm (AI s j)=true) (λi=>[.s s,.u,.u,.n 0,.n (vL (s.take i)),.n (i:Int),.u,.u,.u,.u,.u,.u]) s.length (by omega) (by simp[vL,HX,h0,h,NQ,Dm]) (λi hi P=>?_) (λP=>?_);have H:=QH (s:=s) (a:=0) (i:=i) (by omega) (by omega) P;have J:=N i (by omega);have I:10^kL (s.take i)<=10^9:=Nat.pow_le_pow_right (by omega) (by omega);by_cases hd:Dm (AI s (i:Int))=true;have G:=KN.1 hd;have C:=HX (s:=s) (i:=i) (by omega);refine wW ?_;refine⟨λj c F=>?_,?_⟩;rcases B7 j i with q|q;exact P j c q;obtain rfl:j=i:=by omega
 exact hd;rw[C,RU,if_pos (by exact hd)];have B:((vL (s.take i)*10+(AI s (i:Nat)-48):Nat):Int)=10*(vL (s.take i):Int)+((AI s (i:Int):Int)-48):=by have:AI s ((i:Nat):Int)=AI s (i:Int):=rfl;omega
 rw[B]<;>rfl;have k:=ZZ (i:=i) l (by omega) (by omega) (by simpa using hd);simp only[Dm,AU,Ad]at hd;by_cases c:AI s (i:Int)<48;refine wW ?_;simp[pR,k];refine wW ?_;simp[pR,k];have H:=QH (s:=s) (a:=0) (i:=s.length) (by omega) (by omega) (λj c F=>P j c (by omega));have o:s.take (s.length)=s:=by rw[List.take_length]
 rw[List.take_length]at H;have J:=Ol s;have I:10^kL s<=10^9:=Nat.pow_le_pow_right (by omega) (by omega);have O:=AFJ (s:=s);have g:kL s<=9:=by omega
 have e:-9223372036854775808<=pV s/\pV s<=9223372036854775807:=by unfold pV;split<;>omega
 have L:=C4 (K:=K) (n:=pV s) e;have V:(vL s:Int)=pV s:=by rw[AaN (λq=>h q.1)]
 rw[o];simp(disch:=omega) only[AD,V];refine cB L ?_;by_cases f:AN (pV s)=s;simp(disch:=omega) only[AD,f];simp[pR,O,g,f];simp(disch:=omega) only[AD,beq_eq_false_iff_ne.2 f];simp[pR,O,g,f]
theorem PI[HA K]{s:List Nat}(l:s.length<=1000000000):K 562 [.s s] [.n (pR s),.b (E8 s)]:=by
 obtain⟨a,H⟩:∃a:Nat,a=if AI s 0=45 then 1 else 0:=⟨_,rfl⟩;by_cases c:a+1<=s.length/\s.length<=a+9;exact AOH l H c;have O:=ASH H c;have R:pR s=0:=by simp[pR,O]
 have k:=CN (K:=K) (x:=(s.length:Int)-a) (a:=1) (b:=9);have e:A4 1 9 ((s.length:Int)-a)=false:=by cases f:A4 1 9 ((s.length:Int)-a);rfl;have:=Af.1 f;omega
 rw[e]at k;rw[O,R];refine qb ACT ?_;by_cases h0:s.length=0;obtain rfl:s=[]:=List.length_eq_zero_iff.1 h0;obtain rfl:a=0:=by rw[H];rfl
 refine wW ?_;exact cZ k;by_cases h:AI s 0=45;obtain rfl:a=1:=by rw[H,if_pos h]
 simp(disch:=omega) only[AD,h];exact cZ k;obtain rfl:a=0:=by rw[H,if_neg h]
 simp(disch:=omega) only[AD,h];exact cZ k
def Ct(b:Nat):List Nat->List Nat->List (List Nat)
 |acc,[]=>[acc]
 |acc,c::t=>if c=b then acc::Ct b [] t else Ct b (acc++[c]) t
def Ag(b:Nat)(s:List Nat):List (List Nat):=Ct b [] s
theorem OD{b:Nat}:∀{s acc:List Nat}{p:List Nat},p∈Ct b acc s->p.length<=acc.length+s.length
 |[],acc,p,h=>by obtain rfl:=List.mem_singleton.1 h;simp
 |c::t,acc,p,h=>by unfold Ct at h;split at h;rcases AY.1 h with rfl|q;simp;have:=OD q;simp only[Aa,AO]at *;omega;have:=OD h;simp only[AZ,AO,Aa]at *;omega
theorem Jg{b:Nat}:∀{s acc:List Nat},0<(Ct b acc s).length/\(Ct b acc s).length<=s.length+1
 |[],acc=>by simp[Ct]
 |c::t,acc=>by unfold Ct;split;have:=Jg (b:=b) (s:=t) (acc:=[]);simp only[AO];omega;have:=Jg (b:=b) (s:=t) (acc:=acc++[c]);simp only[AO];omega
theorem AO9{b:Nat}{s acc:List Nat}{i:Nat}(h:i<s.length):Ct b acc (s.drop i)=if AI s i=b then acc::Ct b [] (s.drop (i+1))else Ct b (acc++[AI s i]) (s.drop (i+1)):=by rw[EJ h]<;>rfl
def sep(b:Nat):List (List Nat)->List Nat
 |[]=>[]
 |[p]=>p
 |p::q::t=>p++b::sep b (q::t)
theorem Oe{b:Nat}:∀{p acc r:List Nat},b∉p->Ct b acc (p++r)=Ct b (acc++p) r
 |[],acc,r,_=>by simp
 |c::t,acc,r,h=>by simp only[AY,not_or]at h;rw[List.cons_append,Ct,if_neg (λq=>h.1 q.symm),Oe h.2];simp
theorem Of{b:Nat}:∀{ps:List (List Nat)},ps≠[]->(∀p∈ps,b∉p)->Ag b (sep b ps)=ps
 |[],h,_=>absurd rfl h
 |[p],_,h=>by have:=Oe (b:=b) (p:=p) (acc:=[]) (r:=[]) (h p (by simp));simpa[Ag,sep,Ct]using this
 |p::q::t,_,h=>by have a:=Oe (b:=b) (p:=p) (acc:=[]) (r:=b::sep b (q::t)) (h p (by simp));have H:=Of (b:=b) (ps:=q::t) (by simp) (λx c=>h x (by simp[c]));unfold Ag at H;rw[Ag,sep,a,Ct,if_pos rfl,H];simp
end Go.Cat
namespace Go.Cat
variable{K:Nat->List D->List D->Prop}
inductive BT
 |lf
 |nd(l r:BT)
def BT.d:BT->D
 |.lf=>.z
 |.nd l r=>.p [l.d,r.d]
def BT.t:BT->List Nat
 |.lf=>[46]
 |.nd l r=>40::(l.t++(r.t++[41]))
def BT.n:BT->Nat
 |.lf=>0
 |.nd l r=>l.n+r.n+1
theorem BT.tl:∀x:BT,x.t.length=3*x.n+1
 |.lf=>rfl
 |.nd l r=>by have:=BT.tl l;have:=BT.tl r;simp only[BT.t,BT.n,AO,AZ,Aa];omega
theorem BT.DL{x:BT}:known x.d=some x.d:=by cases x<;>rfl
theorem BT.P6{x:BT}:x.d.one=true:=by cases x<;>rfl
theorem LY{s:List Nat}{i:Nat}{c:Nat}{r:List Nat}(h:s.drop i=c::r):i<s.length/\AI s i=c/\s.drop (i+1)=r:=by
 have hi:i<s.length:=by rcases B7 i s.length with q|q;exact q;rw[List.drop_of_length_le q]at h;cases h
 rw[EJ hi]at h;injection h with H a;exact⟨hi,H,a⟩
theorem JX{s a b:List Nat}{i:Nat}(h:s.drop i=a++b):s.drop (i+a.length)=b:=by rw[<-List.drop_drop,h];simp
theorem LC[HA K]{s:List Nat}(l:s.length<=1000000000):∀(x:BT)(i:Nat)(r:List Nat),s.drop i=x.t++r->K 208 [.s s,.n i] [x.d,.n (i+x.t.length)]
 |.lf,i,r,h=>by obtain⟨hi,H,_⟩:=LY (c:=46) (r:=r) (by simpa[BT.t]using h);refine qb RS ?_;simp(disch:=omega) only[AD,H];simp[BT.d,BT.t]
 |.nd a b,i,r,h=>by
  simp only[BT.t,List.cons_append,CE]at h;obtain⟨hi,H,e⟩:=LY h;have f:=JX e;have B:=JX f;obtain⟨F,C,G⟩:=LY (c:=41) (r:=r) (by simpa using B);have k:=LC l a (i+1) _ e;have g:=LC l b (i+1+a.t.length) _ f;have j:((i+1:Nat):Int)=(i:Int)+1:=by omega
  have o:((i+1+a.t.length:Nat):Int)=(i:Int)+1+a.t.length:=by omega
  rw[j]at k;rw[o]at g;have q:AI s ((i:Int)+1+a.t.length+b.t.length)=41:=by rw[<-C];congr 1
  refine qb RS ?_;simp(disch:=omega) only[AD,H];refine cW k ?_;refine cB g ?_;simp(disch:=omega) only[AD,q,BT.P6];simp only[BT.d,BT.t,AO,AZ,Aa];exact D2 rfl (congrArg D.n (by omega))
def Ik(s:List Nat)(i:Nat):Prop:=∀(x:BT)(r:List Nat),s.drop i≠x.t++r
theorem APS[HA K]{s:List Nat}(G:s.length<=1000000000):∀(n i:Nat),s.length-i<=n->Ik s i->K 208 [.s s,.n i] [.z,.n (-1)]:=by
 intro n;induction n with
 |zero=>
  intro i hi _
  refine qb RS ?_
  have:s.length<=i:=by omega
  exact wZ
 |succ n I=>
  intro i hi o
  refine qb RS ?_
  by_cases h0:i<s.length
  .by_cases l:AI s i=46
   .exact absurd (EJ h0) (by rw[l];exact o .lf _)
   .by_cases h:AI s i=40
    .have B:((i+1:Nat):Int)=(i:Int)+1:=by omega
     have hd:s.drop i=40::s.drop (i+1):=by rw[EJ h0,h]
     by_cases H:Ik s (i+1)
     .have k:=I (i+1) (by omega) H
      rw[B]at k
      simp(disch:=omega) only[AD,h]
      exact cZ k
     .obtain⟨a,R,H⟩:∃(a:BT)(r:List Nat),s.drop (i+1)=a.t++r:=by
       refine Classical.byContradiction λq=>H λx r e=>q ⟨x,r,e⟩
      have k:=LC (K:=K) G a (i+1) _ H
      rw[B]at k
      have L:=JX H
      have C:((i+1+a.t.length:Nat):Int)=(i:Int)+1+a.t.length:=by omega
      have j:=congrArg List.length H
      simp only[List.length_drop,AZ]at j
      by_cases c:Ik s (i+1+a.t.length)
      .have g:=I (i+1+a.t.length) (by omega) c
       rw[C]at g
       simp(disch:=omega) only[AD,h]
       refine cW k ?_
       exact cZ g
      .obtain⟨b,O,c⟩:∃(b:BT)(r:List Nat),s.drop (i+1+a.t.length)=b.t++r:=by
        refine Classical.byContradiction λq=>c λx r e=>q ⟨x,r,e⟩
       have g:=LC (K:=K) G b (i+1+a.t.length) _ c
       rw[C]at g
       have F:=JX c
       have f:=congrArg List.length c
       simp only[List.length_drop,AZ]at f
       by_cases M:i+1+a.t.length+b.t.length<s.length
       .have N:AI s ((i:Int)+1+a.t.length+b.t.length)≠41:=by
         intro q
         have J:AI s ((i+1+a.t.length+b.t.length:Nat):Int)=41:=by rw[<-q];congr 1
         rw[EJ M,J]at F
         refine o (.nd a b) (s.drop (i+1+a.t.length+b.t.length+1)) ?_
         rw[hd,H,<-L,c,<-F]
         simp[BT.t]
        simp(disch:=omega) only[AD,h]
        refine cW k ?_
        exact cZ g
       .simp(disch:=omega) only[AD,h]
        refine cW k ?_
        exact cZ g
    .exact wZ
  .exact wZ
theorem KY[HA K]{s:List Nat}(l:s.length<=1000000000):∀(x:BT)(i:Nat)(r:List Nat),s.drop i=x.t++r->K 188 [.s s,.n i] [.n (i+x.t.length)]
 |.lf,i,r,h=>by obtain⟨hi,H,_⟩:=LY (c:=46) (r:=r) (by simpa[BT.t]using h);refine qb Pg ?_;simp(disch:=omega) only[AD,H];simp[BT.t]
 |.nd a b,i,r,h=>by
  simp only[BT.t,List.cons_append,CE]at h;obtain⟨hi,H,e⟩:=LY h;have f:=JX e;have B:=JX f;obtain⟨F,C,G⟩:=LY (c:=41) (r:=r) (by simpa using B);have k:=KY l a (i+1) _ e;have g:=KY l b (i+1+a.t.length) _ f;have j:((i+1:Nat):Int)=(i:Int)+1:=by omega
  have o:((i+1+a.t.length:Nat):Int)=(i:Int)+1+a.t.length:=by omega
  rw[j]at k;rw[o]at g;have q:AI s ((i:Int)+1+a.t.length+b.t.length)=41:=by rw[<-C];congr 1
  refine qb Pg ?_;simp(disch:=omega) only[AD,H];refine cW k ?_;refine cB g ?_;simp(disch:=omega) only[AD,q];simp only[BT.t,AO,AZ,Aa];exact Dn (by omega)
theorem AbW[HA K]{s:List Nat}(G:s.length<=1000000000):∀(n i:Nat),s.length-i<=n->Ik s i->K 188 [.s s,.n i] [.n (-1)]:=by
 intro n;induction n with
 |zero=>
  intro i hi _
  refine qb Pg ?_
  have:s.length<=i:=by omega
  exact wZ
 |succ n I=>
  intro i hi o
  refine qb Pg ?_
  by_cases h0:i<s.length
  .by_cases l:AI s i=46
   .exact absurd (EJ h0) (by rw[l];exact o .lf _)
   .by_cases h:AI s i=40
    .have B:((i+1:Nat):Int)=(i:Int)+1:=by omega
     have hd:s.drop i=40::s.drop (i+1):=by rw[EJ h0,h]
     by_cases H:Ik s (i+1)
     .have k:=I (i+1) (by omega) H
      rw[B]at k
      simp(disch:=omega) only[AD,h]
      exact cZ k
     .obtain⟨a,R,H⟩:∃(a:BT)(r:List Nat),s.drop (i+1)=a.t++r:=by
       refine Classical.byContradiction λq=>H λx r e=>q ⟨x,r,e⟩
      have k:=KY (K:=K) G a (i+1) _ H
      rw[B]at k
      have L:=JX H
      have C:((i+1+a.t.length:Nat):Int)=(i:Int)+1+a.t.length:=by omega
      have j:=congrArg List.length H
      simp only[List.length_drop,AZ]at j
      by_cases c:Ik s (i+1+a.t.length)
      .have g:=I (i+1+a.t.length) (by omega) c
       rw[C]at g
       simp(disch:=omega) only[AD,h]
       refine cW k ?_
       exact cZ g
      .obtain⟨b,O,c⟩:∃(b:BT)(r:List Nat),s.drop (i+1+a.t.length)=b.t++r:=by
        refine Classical.byContradiction λq=>c λx r e=>q ⟨x,r,e⟩
       have g:=KY (K:=K) G b (i+1+a.t.length) _ c
       rw[C]at g
       have F:=JX c
       have f:=congrArg List.length c
       simp only[List.length_drop,AZ]at f
       by_cases M:i+1+a.t.length+b.t.length<s.length
       .have N:AI s ((i:Int)+1+a.t.length+b.t.length)≠41:=by
         intro q
         have J:AI s ((i+1+a.t.length+b.t.length:Nat):Int)=41:=by rw[<-q];congr 1
         rw[EJ M,J]at F
         refine o (.nd a b) (s.drop (i+1+a.t.length+b.t.length+1)) ?_
         rw[hd,H,<-L,c,<-F]
         simp[BT.t]
        simp(disch:=omega) only[AD,h]
        refine cW k ?_
        exact cZ g
       .simp(disch:=omega) only[AD,h]
        refine cW k ?_
        exact cZ g
    .exact wZ
  .exact wZ
theorem I4:(false==true)=false:=rfl
theorem JZ[HA K]:∀(x:BT),x.n<=1000000->K 197 [x.d] [.n x.n]
 |.lf,_=>by refine qb AHA ?_;simp only[BT.d,BT.n];exact wZ
 |.nd l r,h=>by simp only[BT.n]at h;have k:=JZ l (by omega);have a:=JZ r (by omega);refine qb AHA ?_;simp only[BT.d,BT.n];simp(disch:=omega) only[AD,BT.DL,I4];refine cB k ?_;simp(disch:=omega) only[AD,BT.DL];refine cW a ?_;exact Dn (by omega)
def isT(s:List Nat):Prop:=s.length<=25/\∃x:BT,s=x.t
open Classical in
noncomputable def Bq(s:List Nat):Bool:=decide (isT s)
theorem FO{x:BT}(h:x.n<=8):Bq x.t=true:=by have:=BT.tl x;simp only[Bq,Ad];exact⟨by omega,x,rfl⟩
theorem GF{s:List Nat}(h:Bq s=true):∃x:BT,s=x.t/\x.n<=8:=by
 have h:isT s:=by simp only[Bq,Ad]at h;exact h
 obtain⟨H,x,rfl⟩:=h;have:=BT.tl x;exact⟨x,rfl,by omega⟩
theorem ANG{s:List Nat}(h:Bq s=false):¬isT s:=by simp only[Bq,decide_eq_false_iff_not]at h;exact h
theorem Jl[HA K]{x:BT}(h:x.n<=8):K 194 [.s x.t] [x.d,.b true]:=by
 have l:=BT.tl x;have k:=LC (K:=K) (s:=x.t) (by omega) x 0 [] (by simp);have e:((0:Nat):Int)+(x.t.length:Int)=x.t.length:=by omega
 rw[e]at k;refine qw ABD ?_;refine cB k ?_;simp(disch:=omega) only[AD,BT.DL];exact cZ (JZ x (by omega))
theorem PL[HA K]{s:List Nat}(h:Bq s=false):K 194 [.s s] [.z,.b false]:=by
 have f:=ANG h;refine qb ABD ?_;by_cases l:25<s.length;exact wZ;by_cases o:Ik s 0;have k:=APS (K:=K) (s:=s) (by omega) s.length 0 (by omega) o;refine wW ?_;exact cZ k;obtain⟨x,r,a⟩:∃(x:BT)(r:List Nat),s.drop 0=x.t++r:=Classical.byContradiction λq=>o λx r e=>q ⟨x,r,e⟩;have k:=LC (K:=K) (s:=s) (by omega) x 0 r a;have c:((0:Nat):Int)+(x.t.length:Int)=x.t.length:=by omega
 rw[c]at k;rw[List.drop_zero]at a;have H:=congrArg List.length a;rw[AZ]at H;have g:r.length≠0:=by intro q;have:r=[]:=Dd q;subst this;exact f ⟨by omega,x,by simpa using a⟩
 have i:=BT.tl x;refine wW ?_;exact cZ k
theorem Hx[HA K]{s:List Nat}:K 167 [.s s] [.b (Bq s)]:=by
 refine qw I167 ?_
 cases h:Bq s;exact cZ (PL h);obtain⟨x,rfl,H⟩:=GF h;exact cZ (Jl H)
theorem Fo[HA K]{s:List Nat}:K 160 [.s s] [.b (Bq s)]:=by
 refine qb I160 ?_
 cases h:Bq s;have g:=ANG h;by_cases l:25<s.length;exact wZ;by_cases o:Ik s 0;have k:=AbW (K:=K) (s:=s) (by omega) s.length 0 (by omega) o;refine wW ?_;exact cZ k;obtain⟨x,r,a⟩:∃(x:BT)(r:List Nat),s.drop 0=x.t++r:=Classical.byContradiction λq=>o λx r e=>q ⟨x,r,e⟩;have k:=KY (K:=K) (s:=s) (by omega) x 0 r a;have c:((0:Nat):Int)+(x.t.length:Int)=x.t.length:=by omega
 rw[c]at k;rw[List.drop_zero]at a;have H:=congrArg List.length a;rw[AZ]at H;have i:r.length≠0:=by intro q;have:r=[]:=Dd q;subst this;exact g ⟨by omega,x,by simpa using a⟩
 refine wW ?_;exact cZ k;obtain⟨x,rfl,j⟩:=GF h;have l:=BT.tl x;have k:=KY (K:=K) (s:=x.t) (by omega) x 0 [] (by simp);have c:((0:Nat):Int)+(x.t.length:Int)=x.t.length:=by omega
 rw[c]at k;have f:(x.t==[])=false:=beq_eq_false_iff_ne.2 λq=>by rw[q]at l;simp at l
 refine wW ?_;refine cB k ?_;simp(disch:=omega) only[AD,f]
end Go.Cat
