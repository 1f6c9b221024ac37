/-
 Texts as numbers: ParseInt of both sides.
-/
import Derived.Test.YthoilpmggmenbaaGreatPfH
set_option linter.unusedSimpArgs false
set_option linter.unusedVariables false
namespace Go.Cat
variable{K:Nat->List D->List D->Prop}
def DU(c:Nat):Bool:=decide (48<=c)&&decide (c<=57)
def vL(s:List Nat):Nat:=s.foldl (λa c=>if DU c=true then a*10+(c-48)else a) 0
def kL(s:List Nat):Nat:=s.countP DU
theorem P4{s:List Nat}{c:Nat}:vL (s++[c])=if DU c=true then vL s*10+(c-48)else vL s:=by simp[vL,List.foldl_append]
theorem V5{s:List Nat}{c:Nat}:kL (s++[c])=kL s+if DU c=true then 1 else 0:=by simp only[kL,List.countP_append,List.countP_cons,List.countP_nil];omega
theorem AjJ{P:List Nat->Prop}(h0:P [])(h:∀a c,P a->P (a++[c])):∀s,P s:=by
 intro s;rw[<-List.reverse_reverse s];induction s.reverse with
 |nil=>exact h0
 |cons c t i=>rw[List.reverse_cons];exact h _ _ i
theorem Jo{c:Nat}:DU c=true↔48<=c/\c<=57:=by simp[DU]
theorem Mh:∀s,vL s<10^kL s:=by refine AjJ (by simp[vL,kL]) λa c h=>?_;rw[P4,V5];split;rename_i H;have:=Jo.1 H;rw[Nat.pow_succ];omega;simpa using h
theorem ANK{s:List Nat}:kL s<=s.length:=List.countP_le_length
theorem Sf:∀{n:Nat},∀c∈C9 n,DU c=true:=by
 intro n;induction n using Nat.strongRecOn with
 |_ n i=>
  intro c h
  by_cases h0:n=0
  .subst h0;simp[C9]at h
  .rw[HR h0]at h
   rcases Ac.1 h with q|q
   .exact i (n/10) (by omega) c q
   .obtain rfl:=List.mem_singleton.1 q
    exact Jo.2 ⟨by omega,by omega⟩
theorem APY:∀{n:Nat},vL (C9 n)=n:=by
 intro n;induction n using Nat.strongRecOn with
 |_ n i=>
  by_cases h0:n=0
  .subst h0;simp[C9,vL]
  .rw[HR h0,P4,if_pos (Jo.2 ⟨by omega,by omega⟩),i (n/10) (by omega)]
   omega
theorem AQX{n:Nat}(h:n≠0):0<(C9 n).length:=by rw[HR h];simp
def pV(s:List Nat):Int:=if AH s 0=45/\0<s.length then -(vL s:Int)else vL s
def C5(s:List Nat):Bool:=decide (-999999999<=pV s/\pV s<=999999999)&&decide (AQ (pV s)=s)
def pR(s:List Nat):Int:=if C5 s=true then pV s else 0
theorem AhG{s:List Nat}:vL (45::s)=vL s:=rfl
theorem APW{s:List Nat}:kL (45::s)=kL s:=rfl
theorem AU4{s:List Nat}(h:∀c∈s,DU c=true):kL s=s.length:=List.countP_eq_length.2 h
theorem AbI{c:Nat}{s:List Nat}:AH (c::s) 0=c:=rfl
theorem PY{s:List Nat}:AH s ((0:Nat):Int)=AH s 0:=rfl
theorem PO{s:List Nat}{i:Nat}(h:i<s.length):AH s i∈s:=by simp[AH,h]
theorem Of{n:Int}:pV (AQ n)=n:=by unfold AQ;split;subst n;rfl;rename_i h0;split;rename_i H;unfold pV;rw[if_pos ⟨rfl,by simp⟩,AhG,APY];omega;rename_i H;have l:=AQX (n:=n.natAbs) (by omega);have h:=Sf (n:=n.natAbs) _ (PO (s:=C9 n.natAbs) l);have h:=Jo.1 h;rw[PY]at h;unfold pV;rw[if_neg (by omega),APY];omega
theorem Lw{n:Int}(h:-999999999<=n/\n<=999999999):C5 (AQ n)=true:=by simp[C5,Of,h]
theorem Q6{n:Int}(h:-999999999<=n/\n<=999999999):pR (AQ n)=n:=by simp[pR,Lw h,Of]
theorem SD{s:List Nat}(h:C5 s=true):(0<kL s/\kL s<=9)/\((AH s 0=45/\s.length=kL s+1)\/(AH s 0≠45/\s.length=kL s))/\∀i:Nat,(if AH s 0=45 then 1 else 0)<=i->i<s.length->DU (AH s i)=true:=by
 simp only[C5,AV,Aa]at h;obtain⟨e,he⟩:=h;generalize f:pV s=n at e he;subst s;clear f;unfold AQ;split;exact⟨by decide,by decide,λi b H=>by
  obtain rfl:i=0:=by simp only[AO,A6]at H;omega
  rfl⟩
 rename_i h0;have hd:=Sf (n:=n.natAbs);have l:=AQX (n:=n.natAbs) (by omega);have g:=NO (k:=9) (n:=n.natAbs) (by omega);have c:=AU4 hd;split;refine⟨by rw[APW];omega,.inl ⟨rfl,by rw[APW,c,AO]⟩,λi b H=>?_⟩;rw[if_pos AbI]at b;obtain⟨k,rfl⟩:∃k,i=k+1:=⟨i-1,by omega⟩;have:AH (45::C9 n.natAbs) ((k+1:Nat):Int)=AH (C9 n.natAbs) k:=by simp[AH]
 rw[this];exact hd _ (PO (by simpa using H));have a:=Jo.1 (hd _ (PO (i:=0) l));rw[PY]at a;exact⟨by omega,.inr ⟨by omega,c.symm⟩,λi _ H=>hd _ (PO H)⟩
theorem Fw{s:List Nat}{i:Nat}(h:i<s.length):s.take (i+1)=s.take i++[AH s i]:=by rw[CP h];simp[AH,h]
theorem ANZ{s:List Nat}(h:¬(AH s 0=45/\0<s.length)):pV s=vL s:=if_neg h
theorem ZR{s:List Nat}(h:AH s 0=45/\0<s.length):pV s=-(vL s:Int):=if_pos h
theorem Wx{s:List Nat}:C5 s=(decide (kL s<=9)&&decide (AQ (pV s)=s)):=by
 by_cases h:kL s<=9;have a:=Mh s;have H:10^kL s<=10^9:=Nat.pow_le_pow_right (by omega) h;have b:-999999999<=pV s/\pV s<=999999999:=by unfold pV;split<;>omega
 simp[C5,b,h];have:C5 s=false:=by cases c:C5 s;rfl;have:=(SD c).1;omega
 simp[this,h]
theorem S1[HA K]{s:List Nat}(O:s.length<=1000000000):K 590 [.s s] [.n (pR s),.b (C5 s)]:=by
 refine qw I590 ?_;refine AN (λi=>i<=s.length/\i<=11) (λi=>[.s s,.u,.u,.n (vL (s.take i)),.n (kL (s.take i)),.n i,.u,.u,.u,.u]) (min s.length 11) (by simp) (by simp[vL,kL]) (λi hi P=>?_) (λP=>?_);have N:=Mh (s.take i);have k:=ANK (s:=s.take i);have M:10^kL (s.take i)<=10^11:=Nat.pow_le_pow_right (by omega) (by simp only[List.length_take]at k;omega);have g:i<s.length/\i<11:=by omega
 have F:=Fw g.1;have J:kL (s.take i)<=i:=by simp only[List.length_take]at k;omega
 have j:IntKind.i64.wrap ((kL (s.take i):Int)+1)=(kL (s.take i):Int)+1:=wrap_i64 ⟨by omega,by omega⟩;rw[F,P4,V5];by_cases o:48<=AH s i;by_cases x:AH s i<=57;have hd:DU (AH s i)=true:=Jo.2 ⟨o,x⟩;simp(disch:=omega) only[AD,hd,j];refine⟨⟨by omega,by omega⟩,?_⟩;have B:((vL (s.take i)*10+(AH s i-48):Nat):Int)=(vL (s.take i):Int)*10+((AH s i:Int)-48):=by omega
 rw[B]<;>rfl;have hd:DU (AH s i)=false:=by simp[DU,x]
 simp(disch:=omega) only[AD,hd];exact⟨⟨by omega,by omega⟩,rfl⟩;have hd:DU (AH s i)=false:=by simp[DU,o]
 simp(disch:=omega) only[AD,hd];exact⟨⟨by omega,by omega⟩,rfl⟩;obtain⟨m,C⟩:∃m,m=min s.length 11:=⟨_,rfl⟩;rw[<-C];rcases BS s.length 11 with c|c;obtain rfl:m=s.length:=by omega
 rw[List.take_length];have N:=Mh s;have k:=ANK (s:=s);have M:10^kL s<=10^11:=Nat.pow_le_pow_right (by omega) (by omega);have e:=Wx (s:=s);have G:-9223372036854775808<=pV s/\pV s<=9223372036854775807:=by unfold pV;split<;>omega
 have l:=By (K:=K) (n:=pV s) G;by_cases h:AH s 0=45/\0<s.length;have V:(0:Int)-(vL s:Int)=pV s:=by rw[ZR h];omega
 by_cases H:kL s<=9;simp(disch:=omega) only[AD,h.1,V];refine cB l ?_;by_cases f:AQ (pV s)=s;simp(disch:=omega) only[AD,f];simp[pR,e,H,f];simp(disch:=omega) only[AD,beq_eq_false_iff_ne.2 f];simp[pR,e,H,f];simp(disch:=omega) only[AD,h.1,V];simp[pR,e,H];have V:(vL s:Int)=pV s:=by rw[ANZ h]
 by_cases H:kL s<=9;by_cases h0:s.length=0;simp(disch:=omega) only[AD,V];refine cB l ?_;by_cases f:AQ (pV s)=s;simp(disch:=omega) only[AD,f];simp[pR,e,H,f];simp(disch:=omega) only[AD,beq_eq_false_iff_ne.2 f];simp[pR,e,H,f];have a:AH s 0≠45:=λq=>h ⟨q,by omega⟩;simp(disch:=omega) only[AD,a,V];refine cB l ?_;by_cases f:AQ (pV s)=s;simp(disch:=omega) only[AD,f];simp[pR,e,H,f];simp(disch:=omega) only[AD,beq_eq_false_iff_ne.2 f];simp[pR,e,H,f];by_cases h0:s.length=0;omega;have a:AH s 0≠45:=λq=>h ⟨q,by omega⟩;simp(disch:=omega) only[AD,a,V];simp[pR,e,H];have Q:m=11:=by omega
 have e:C5 s=false:=by cases I:C5 s;rfl;have:=SD I;omega
 by_cases L:m<s.length;by_cases h:AH s 0=45;by_cases H:kL (s.take m)<=9;simp(disch:=omega) only[AD,h];simp[pR,e];simp(disch:=omega) only[AD,h];simp[pR,e];by_cases H:kL (s.take m)<=9;simp(disch:=omega) only[AD,h];simp[pR,e];simp(disch:=omega) only[AD,h];simp[pR,e];by_cases h:AH s 0=45;by_cases H:kL (s.take m)<=9;simp(disch:=omega) only[AD,h];simp[pR,e];simp(disch:=omega) only[AD,h];simp[pR,e];by_cases H:kL (s.take m)<=9;simp(disch:=omega) only[AD,h];simp[pR,e];simp(disch:=omega) only[AD,h];simp[pR,e]
theorem Tb{s:List Nat}{a:Nat}:∀{i:Nat},a<=i->i<=s.length->(∀j:Nat,a<=j->j<i->DU (AH s j)=true)->kL (s.take i)=kL (s.take a)+(i-a):=by
 intro i;induction i with
 |zero=>
  intro H _ _
  obtain rfl:a=0:=by omega
  rfl
 |succ i I=>
  intro H c h
  rcases BS i a with q|q
  .obtain rfl:a=i+1:=by omega
   omega
  .rw[Fw (by omega),V5,I q (by omega) (λj b e=>h j b (by omega)),if_pos (h i q (by omega))];omega
theorem Z9{s:List Nat}{a i:Nat}(e:a=if AH s 0=45 then 1 else 0)(b:a<=i)(H:i<s.length)(h:DU (AH s i)=false):C5 s=false:=by cases c:C5 s;rfl;have:=(SD c).2.2 i (by omega) H;rw[h]at this;cases this
theorem Aa6{s:List Nat}{a:Nat}(H:a=if AH s 0=45 then 1 else 0)(h:¬(a+1<=s.length/\s.length<=a+9)):C5 s=false:=by cases hc:C5 s;rfl;have b:=SD hc;split at H<;>omega
theorem AcH[HA K]{s:List Nat}{a:Nat}(T:s.length<=1000000000)(l:a=if AH s 0=45 then 1 else 0)(R:a+1<=s.length/\s.length<=a+9):K 562 [.s s] [.n (pR s),.b (C5 s)]:=by
 have h0:0<s.length:=by omega
 have U:kL (s.take a)=0:=by split at l;subst a;rw[Fw h0,PY];rename_i h;rw[h]<;>rfl;subst a;rfl
 have M:=Bq (K:=K) (x:=(s.length:Int)-a) (a:=1) (b:=9);have Q:AR 1 9 ((s.length:Int)-a)=true:=A5.2 (by omega);rw[Q]at M;have N:∀i:Nat,i<=s.length->vL (s.take i)<10^kL (s.take i):=λi _=>Mh _;refine qb AGJ ?_;by_cases h:AH s 0=45;obtain rfl:a=1:=by rw[l,if_pos h]
 simp(disch:=omega) only[AD,h];refine cW M ?_;refine AN (λi=>∀j:Nat,1<=j->j<(i+1)->DU (AH s j)=true) (λi=>[.s s,.u,.u,.n 1,.n (vL (s.take (i+1))),.n ((i:Int)+1),.u,.u,.u,.u,.u,.u]) (s.length-1) (by omega) (by simp[vL,Fw,h0,h,PY,DU]) (λi hi P=>?_) (λP=>?_);have H:=Tb (s:=s) (a:=1) (i:=(i+1)) (by omega) (by omega) P;have J:=N (i+1) (by omega);have I:10^kL (s.take (i+1))<=10^9:=Nat.pow_le_pow_right (by omega) (by omega);by_cases hd:DU (AH s ((i:Int)+1))=true;have G:=Jo.1 hd;have C:=Fw (s:=s) (i:=(i+1)) (by omega);refine wW ?_;refine⟨λj c F=>?_,?_⟩;rcases BS j (i+1)with q|q;exact P j c q;obtain rfl:j=(i+1):=by omega
 exact hd;rw[C,P4,if_pos (by exact hd)];have B:((vL (s.take (i+1))*10+(AH s ((i+1):Nat)-48):Nat):Int)=10*(vL (s.take (i+1)):Int)+((AH s ((i:Int)+1):Int)-48):=by have:AH s (((i+1):Nat):Int)=AH s ((i:Int)+1):=rfl;omega
 rw[B]<;>rfl;have k:=Z9 (i:=(i+1)) l (by omega) (by omega) (by simpa using hd);simp only[DU,AV,Aa]at hd;by_cases c:AH s ((i:Int)+1)<48;refine wW ?_;simp[pR,k];refine wW ?_;simp[pR,k];have H:=Tb (s:=s) (a:=1) (i:=s.length) (by omega) (by omega) (λj c F=>P j c (by omega));have o:s.take ((s.length-1)+1)=s:=by rw[Nat.sub_add_cancel h0,List.take_length]
 rw[List.take_length]at H;have J:=Mh s;have I:10^kL s<=10^9:=Nat.pow_le_pow_right (by omega) (by omega);have O:=Wx (s:=s);have g:kL s<=9:=by omega
 have e:-9223372036854775808<=pV s/\pV s<=9223372036854775807:=by unfold pV;split<;>omega
 have L:=C4 (K:=K) (n:=pV s) e;have V:(0:Int)-(vL s:Int)=pV s:=by rw[ZR ⟨h,h0⟩];omega
 rw[o];simp(disch:=omega) only[AD,V];refine cB L ?_;by_cases f:AQ (pV s)=s;simp(disch:=omega) only[AD,f];simp[pR,O,g,f];simp(disch:=omega) only[AD,beq_eq_false_iff_ne.2 f];simp[pR,O,g,f];obtain rfl:a=0:=by rw[l,if_neg h]
 simp(disch:=omega) only[AD,h];refine cW M ?_;refine AN (λi=>∀j:Nat,0<=j->j<i->DU (AH s j)=true) (λi=>[.s s,.u,.u,.n 0,.n (vL (s.take i)),.n (i:Int),.u,.u,.u,.u,.u,.u]) s.length (by omega) (by simp[vL,Fw,h0,h,PY,DU]) (λi hi P=>?_) (λP=>?_);have H:=Tb (s:=s) (a:=0) (i:=i) (by omega) (by omega) P;have J:=N i (by omega);have I:10^kL (s.take i)<=10^9:=Nat.pow_le_pow_right (by omega) (by omega);by_cases hd:DU (AH s (i:Int))=true;have G:=Jo.1 hd;have C:=Fw (s:=s) (i:=i) (by omega);refine wW ?_;refine⟨λj c F=>?_,?_⟩;rcases BS j i with q|q;exact P j c q;obtain rfl:j=i:=by omega
 exact hd;rw[C,P4,if_pos (by exact hd)];have B:((vL (s.take i)*10+(AH s (i:Nat)-48):Nat):Int)=10*(vL (s.take i):Int)+((AH s (i:Int):Int)-48):=by have:AH s ((i:Nat):Int)=AH s (i:Int):=rfl;omega
 rw[B]<;>rfl;have k:=Z9 (i:=i) l (by omega) (by omega) (by simpa using hd);simp only[DU,AV,Aa]at hd;by_cases c:AH s (i:Int)<48;refine wW ?_;simp[pR,k];refine wW ?_;simp[pR,k];have H:=Tb (s:=s) (a:=0) (i:=s.length) (by omega) (by omega) (λj c F=>P j c (by omega));have o:s.take (s.length)=s:=by rw[List.take_length]
 rw[List.take_length]at H;have J:=Mh s;have I:10^kL s<=10^9:=Nat.pow_le_pow_right (by omega) (by omega);have O:=Wx (s:=s);have g:kL s<=9:=by omega
 have e:-9223372036854775808<=pV s/\pV s<=9223372036854775807:=by unfold pV;split<;>omega
 have L:=C4 (K:=K) (n:=pV s) e;have V:(vL s:Int)=pV s:=by rw[ANZ (λq=>h q.1)]
 rw[o];simp(disch:=omega) only[AD,V];refine cB L ?_;by_cases f:AQ (pV s)=s;simp(disch:=omega) only[AD,f];simp[pR,O,g,f];simp(disch:=omega) only[AD,beq_eq_false_iff_ne.2 f];simp[pR,O,g,f]
theorem NM[HA K]{s:List Nat}(l:s.length<=1000000000):K 562 [.s s] [.n (pR s),.b (C5 s)]:=by
 obtain⟨a,H⟩:∃a:Nat,a=if AH s 0=45 then 1 else 0:=⟨_,rfl⟩;by_cases c:a+1<=s.length/\s.length<=a+9;exact AcH l H c;have O:=Aa6 H c;have R:pR s=0:=by simp[pR,O]
 have k:=Bq (K:=K) (x:=(s.length:Int)-a) (a:=1) (b:=9);have e:AR 1 9 ((s.length:Int)-a)=false:=by cases f:AR 1 9 ((s.length:Int)-a);rfl;have:=A5.1 f;omega
 rw[e]at k;rw[O,R];refine qb AGJ ?_;by_cases h0:s.length=0;obtain rfl:s=[]:=List.length_eq_zero_iff.1 h0;obtain rfl:a=0:=by rw[H];rfl
 refine wW ?_;exact cZ k;by_cases h:AH s 0=45;obtain rfl:a=1:=by rw[H,if_pos h]
 simp(disch:=omega) only[AD,h];exact cZ k;obtain rfl:a=0:=by rw[H,if_neg h]
 simp(disch:=omega) only[AD,h];exact cZ k
def DN(b:Nat):List Nat->List Nat->List (List Nat)
 |acc,[]=>[acc]
 |acc,c::t=>if c=b then acc::DN b [] t else DN b (acc++[c]) t
def AP(b:Nat)(s:List Nat):List (List Nat):=DN b [] s
theorem Li{b:Nat}:∀{s acc:List Nat}{p:List Nat},p∈DN b acc s->p.length<=acc.length+s.length
 |[],acc,p,h=>by obtain rfl:=List.mem_singleton.1 h;simp
 |c::t,acc,p,h=>by unfold DN at h;split at h;rcases A7.1 h with rfl|q;simp;have:=Li q;simp only[A6,AO]at *;omega;have:=Li h;simp only[A4,AO,A6]at *;omega
theorem Gj{b:Nat}:∀{s acc:List Nat},0<(DN b acc s).length/\(DN b acc s).length<=s.length+1
 |[],acc=>by simp[DN]
 |c::t,acc=>by unfold DN;split;have:=Gj (b:=b) (s:=t) (acc:=[]);simp only[AO];omega;have:=Gj (b:=b) (s:=t) (acc:=acc++[c]);simp only[AO];omega
theorem Ry{b:Nat}{s acc:List Nat}{i:Nat}(h:i<s.length):DN b acc (s.drop i)=if AH s i=b then acc::DN b [] (s.drop (i+1))else DN b (acc++[AH s i]) (s.drop (i+1)):=by rw[EF h]<;>rfl
def sep(b:Nat):List (List Nat)->List Nat
 |[]=>[]
 |[p]=>p
 |p::q::t=>p++b::sep b (q::t)
theorem T4{b:Nat}:∀{p acc r:List Nat},b∉p->DN b acc (p++r)=DN b (acc++p) r
 |[],acc,r,_=>by simp
 |c::t,acc,r,h=>by simp only[A7,not_or]at h;rw[List.cons_append,DN,if_neg (λq=>h.1 q.symm),T4 h.2];simp
theorem Qy{b:Nat}:∀{ps:List (List Nat)},ps≠[]->(∀p∈ps,b∉p)->AP b (sep b ps)=ps
 |[],h,_=>absurd rfl h
 |[p],_,h=>by have:=T4 (b:=b) (p:=p) (acc:=[]) (r:=[]) (h p (by simp));simpa[AP,sep,DN]using this
 |p::q::t,_,h=>by have a:=T4 (b:=b) (p:=p) (acc:=[]) (r:=b::sep b (q::t)) (h p (by simp));have H:=Qy (b:=b) (ps:=q::t) (by simp) (λx c=>h x (by simp[c]));unfold AP at H;rw[AP,sep,a,DN,if_pos rfl,H];simp
end Go.Cat
