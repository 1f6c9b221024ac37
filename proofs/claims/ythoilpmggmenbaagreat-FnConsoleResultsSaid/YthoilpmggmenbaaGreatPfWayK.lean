/-
 Ways of rotations, on both sides.
-/
import Derived.Test.YthoilpmggmenbaaGreatPfWayM
set_option linter.unusedSimpArgs false
set_option linter.unusedVariables false
namespace Go.Cat
variable{K:Nat->List D->List D->Prop}
theorem AQA[HA K]{ws:List (List Nat)}{k:List Nat}(h:ws.length<=100000):K 378 [LS ws,.s k] [.b (decide (k∈ws))]:=by
 refine qw ADT ?_;refine AR (λi=>k∉ws.take i) (λi=>[LS ws,.s k,.u,.n i,.u,.u]) ws.length (by simp) rfl (λi hi P=>?_) (λP=>?_);have a:ws.take (i+1)=ws.take i++[AH ws i]:=by rw[CO hi];simp[AH,hi]
 have H:AH ws i∈ws:=by simp[AH,hi]
 cases c:(AH ws i==k);simp(disch:=omega) only[AD,c];rw[a];intro q;rcases Ac.1 q with q|q;exact P q;simp only[List.mem_singleton]at q;rw[q]at c;simp at c;have e:AH ws i=k:=by simpa using c
 simp(disch:=omega) only[AD,c];rw[<-e];simp[H];rw[List.take_length]at P;refine wW ?_;simp[P]
theorem ATQ[HA K]{a:List (List Nat)}(h:a.length<=1000000000):K 368 [LS a] [LS a.reverse]:=by
 refine qw I368 ?_
 refine Bd (λ(x:Nat×List (List Nat))=>2*x.1<=a.length+1/\x.2.length=a.length/\∀j:Nat,j<a.length->AH x.2 j=if j<x.1\/a.length<=j+x.1 then AH a (a.length-1-j:Nat)else AH a j)
  (λx=>[LS x.2,.n x.1,.n ((a.length:Int)-1-x.1),.u]) (λx=>a.length-x.1) (0,a) ⟨by simp,rfl,by intro j c;rw[if_neg (by omega)]⟩ (by simp(disch:=try exact dV) only[AD,Int.sub_zero]) ?_
 rintro⟨i,o⟩ ⟨g,b,H⟩;simp only at g b H;by_cases l:2*i+1<a.length
 .refine wW ?_;have e:((a.length-1-i:Nat):Int)=(a.length:Int)-1-i:=by omega
  rw[<-e];refine⟨(i+1,GM (GM o i (AH o ((a.length-1-i:Nat):Int))) ((a.length-1-i:Nat):Int) (AH o i)),?_,⟨?_,?_,?_⟩,?_⟩;rotate_left 4;have:((a.length-1-i:Nat):Int)-1=(a.length:Int)-1-((i+1:Nat):Int):=by omega
  rw[this]<;>rfl;show a.length-(i+1)<a.length-i;omega;show 2*(i+1)<=a.length+1;omega;show(GM (GM o i _) _ _).length=a.length;rw[NR,NR,b];intro j c;show AH (GM (GM o i _) (a.length-1-i:Nat) _) j=_;rw[Wq (by rw[NR];omega),Wq (by omega)];have f:=H i (by omega);have a2:=H (a.length-1-i) (by omega);rw[if_neg (by omega)]at f a2;by_cases j1:a.length-1-i=j;rw[if_pos j1,if_pos (by omega),f];congr 2;omega;rw[if_neg j1];by_cases j2:i=j;rw[if_pos j2,if_pos (by omega),a2];congr 2;omega;rw[if_neg j2,H j c];by_cases j3:j<i\/a.length<=j+i;rw[if_pos j3,if_pos (by omega)];rw[if_neg j3,if_neg (by omega)]
 refine wW ?_;have e:o=a.reverse:=by refine List.ext_getElem (by simp[b]) λj c k=>?_;have:=H j (by omega);simp only[AH,BM,Ap]at this;rw[GB (by omega),GB (by omega),GB (by omega)]at this;simp only[Option.getD_some]at this;rw[this,List.getElem_reverse];split;rfl;congr 1;omega
 rw[e]
theorem AWI[HA K]{a:BT}{N:Nat}(I:a.n<=5)(Q:N<=42)(J:(AX a N).1.length=N)(L:∀j,j<N->j<(AX a j).1.length):K 366 [.s a.t] [LS ((AX a N).1.map BT.t),LI (AX a N).2]:=by
 refine qw I366 ?_;refine AR (λi=>True) (λi=>[.u,.u,.u,LS ((AX a i).1.map BT.t),LI (AX a i).2,.n i,.u,.u,.u,.u,.u]) N trivial rfl (λi hi _=>?_) (λ_=>?_);have B:=Hl (a:=a) i;have T:=B.Lv I;have H:=L i hi;have P:=B.ns _ (FV H);have es:=Fe H;have q:=MX (x:=Ah (AX a i).1 i);simp(disch:=try exact dV) only[AD,List.length_map,es];refine cW (ANR (by omega)) ?_;obtain⟨l,b⟩:∃l,l=DQ (Ah (AX a i).1 i):=⟨_,rfl⟩;have h:∀u∈l,u.n=a.n:=λu o=>by rw[b]at o;exact(St o).trans P
 have R:AX a (i+1)=l.foldl (D5 i) (AX a i):=by rw[b];rfl
 rw[<-b]at q|-;refine BE (λk (S:List BT×List Int)=>S=(l.take k).foldl (D5 i) (AX a i)) (λk S=>[.u,.u,.u,LS (S.1.map BT.t),LI S.2,.n i,DN l,.n k,.u,.u,.u]) l.length (AX a i) rfl rfl (λk S g c=>?_) (λS c=>?_);have e:BI a S:=by rw[c];exact B.fold (λu o=>h u (List.mem_of_mem_take o)) H
 have M:=e.Lv I;have O:=e.len;have G:l.take (k+1)=l.take k++[Ah l k]:=by rw[CO g,HS g]
 have F:=Fe g;have tl:=BT.tl (Ah l k);have U:=h _ (FV g);simp(disch:=try exact dV) only[AD,List.length_map,F];have C:=AQA (K:=K) (ws:=S.1.map BT.t) (k:=(Ah l k).t) (by rw[List.length_map];omega);refine cB C ?_;by_cases f:(Ah l k).t∈S.1.map BT.t;rw[decide_eq_true f];refine wW ?_;refine⟨S,?_,rfl⟩;rw[G,List.foldl_append,<-c];simp only[List.foldl_cons,List.foldl_nil,D5,if_pos f];rw[decide_eq_false f];simp(disch:=try exact dV) only[AD,List.length_map,F];refine⟨(S.1++[Ah l k],S.2++[(i:Int)]),?_,by simp⟩;rw[G,List.foldl_append,<-c];simp only[List.foldl_cons,List.foldl_nil,D5,if_neg f];rw[List.take_length,<-R]at c;subst c;simp(disch:=try exact dV) only[AD,List.length_map];simp(disch:=try exact dV) only[AD,List.length_map,J]
theorem ADO{a:BT}{S:List BT×List Int}(h:BI a S){b:BT}(i:b.t∈S.1.map BT.t):∃k,k<S.1.length/\Ah S.1 k=b/\∀j,j<k->¬(Ah S.1 j).t=b.t:=by obtain⟨y,l,e⟩:=List.mem_map.1 i;obtain rfl:=WJ e;obtain⟨j,H,f⟩:=List.getElem_of_mem l;obtain⟨m,o,c,g⟩:=NW (P:=λj=>j<S.1.length/\(Ah S.1 j).t=y.t) (n:=j) ⟨H,by rw[HS H,f]⟩;exact⟨m,c.1,WJ c.2,λj H q=>g j H ⟨by omega,q⟩⟩
theorem Aa0[HA K]{a b:BT}{N k:Nat}(O:a.n<=5)(P:b.n=a.n)(J:N<=42)(L:(AX a N).1.length=N)(M:∀j,j<N->j<(AX a j).1.length)(U:k<N)(e:Ah (AX a N).1 k=b)(o:∀j,j<k->¬(Ah (AX a N).1 j).t=b.t):K 347 [.s a.t,.s b.t] [LS (DK (AX a N) (k+1) k),.b true]:=by
 have H:=Hl (a:=a) N;have Q:=H.len;have C:decide (a.n=b.n)=true:=decide_eq_true P.symm;refine qw MW ?_;refine cB (Io (by omega) (by omega)) ?_;rw[C];refine wW ?_;refine cW (EL (by omega)) ?_;refine cW (AWI O J L M) ?_;refine AR (λi=>True) (λi=>[.u,.s b.t,.u,.u,LS ((AX a N).1.map BT.t),LI (AX a N).2,.n i,.u,.u,.u,.u,.u,.u]) k trivial rfl (λi hi _=>?_) (λ_=>?_);have es:=Fe (l:=(AX a N).1) (i:=i) (by omega);have B:((Ah (AX a N).1 i).t==b.t)=false:=by rw[beq_eq_false_iff_ne];exact o i hi
 simp(disch:=try exact dV) only[AD,List.length_map,es,B];have es:=Fe (l:=(AX a N).1) (i:=k) (by omega);rw[e]at es;have c:(b.t==b.t)=true:=by simp
 simp(disch:=try exact dV) only[AD,List.length_map,es,c];refine Bd (λ(x:Int×List (List Nat))=>-1<=x.1/\x.1<N/\(if x.1<0 then []else DK (AX a N) (x.1.toNat+1) x.1.toNat)++x.2=DK (AX a N) (k+1) k) (λx=>[.u,.u,.u,.u,LS ((AX a N).1.map BT.t),LI (AX a N).2,.u,LS x.2,.n x.1,.u,.u,.u,.u]) (λx=>(x.1+1).toNat) ((k:Int),[]) ⟨by simp only;omega,by simp only;omega,by simp only[List.append_nil,BM];rw[if_neg (by omega)]⟩ rfl ?_;rintro⟨j,out⟩ ⟨G,I,g⟩;simp only at G I g|-;by_cases T:0<=j;obtain⟨m,rfl⟩:∃m:Nat,j=m:=⟨j.toNat,by omega⟩;have h:m<(AX a N).1.length:=by omega
 have F:=Fe h;have R:out.length<=k+1:=by have:=congrArg List.length g;rw[AZ]at this;have:=P5 (S:=AX a N) (f:=k+1) (k:=k);omega
 have V:-1<=AB (AX a N).2 (m:Nat)/\AB (AX a N).2 (m:Nat)<m:=by rcases Nat.eq_zero_or_pos m with rfl|h0;have:=H.hd.2.1;simp only[Int.ofNat_eq_natCast,Int.natCast_zero];omega;have:=H.par m h0 h;omega
 rw[if_neg (by omega),BM,show DK (AX a N) (m+1) m=(if AB (AX a N).2 (m:Nat)<0 then []else DK (AX a N) m (AB (AX a N).2 (m:Nat)).toNat)++[(Ah (AX a N).1 m).t]from rfl]at g;simp(disch:=try exact dV) only[AD,List.length_map,F];refine⟨(AB (AX a N).2 (m:Nat),(Ah (AX a N).1 m).t::out),by simp only;omega,⟨by simp only;omega,by simp only;omega,?_⟩,rfl⟩;rw[<-g];simp only;by_cases q:AB (AX a N).2 (m:Nat)<0;rw[if_pos q,if_pos q];simp;rw[if_neg q,if_neg q,Q1 H (f:=m) (by omega) (by omega)];simp;rw[if_pos (by omega),List.nil_append]at g;refine wW ?_;rw[g]
def JR(m:List (List Nat×List Nat))(S:List BT×List Int):Prop:=
 (∀j,j<S.1.length->Cb (Ah S.1 j).t m=some (if AB S.2 (j:Nat)<0 then []else(Ah S.1 (AB S.2 (j:Nat)).toNat).t))/\∀t,t∉S.1.map BT.t->Cb t m=none
theorem Vr{α:Type}{k a:List Nat}{v:α}:∀{m:List (List Nat×α)},Cb a (Fm k v m)=if a=k then some v else Cb a m
 |[]=>by simp[Fm,Cb]
 |(j,x)::m=>by simp only[Fm];by_cases h:k=j;rw[if_pos h];subst h;simp only[Cb];by_cases q:a=k;rw[if_pos q,if_pos q];rw[if_neg q,if_neg q,if_neg q];rw[if_neg h];simp only[Cb];rw[Vr];by_cases q:a=j;subst q;rw[if_pos rfl,if_neg (λe=>h e.symm),if_pos rfl];rw[if_neg q,if_neg q]
theorem JR.has{m:List (List Nat×List Nat)}{S:List BT×List Int}(h:JR m S){t:List Nat}:(Cb t m).isSome=decide (t∈S.1.map BT.t):=by by_cases q:t∈S.1.map BT.t;obtain⟨y,b,e⟩:=List.mem_map.1 q;obtain⟨j,H,a⟩:=List.getElem_of_mem b;have:=h.1 j H;rw[HS H,a,e]at this;rw[this,decide_eq_true q]<;>rfl;rw[h.2 t q,decide_eq_false q]<;>rfl
theorem JR.put{m:List (List Nat×List Nat)}{a:BT}{S:List BT×List Int}(h:JR m S)(f:BI a S){u:BT}{i:Nat}(s:u.t∉S.1.map BT.t)(hi:i<S.1.length):JR (Fm u.t (Ah S.1 i).t m) (S.1++[u],S.2++[(i:Int)]):=by
 have o:=f.len;refine⟨λj l=>?_,λt c=>?_⟩;simp only[AZ,AO,Aa]at l|-;rw[Vr];by_cases q:j<S.1.length;have b:¬(Ah S.1 j).t=u.t:=λe=>s (by rw[<-e];exact List.mem_map.2 ⟨_,FV q,rfl⟩);rw[K9 q,if_neg b,Mw (by omega),h.1 j q];by_cases Q:AB S.2 (j:Nat)<0;rw[if_pos Q,if_pos Q];have H:0<j:=by
  rcases Nat.eq_zero_or_pos j with rfl|h0;exact absurd (show AB S.2 ((0:Nat):Int)<0 by have:=f.hd.2.1;simp only[Int.ofNat_eq_natCast,Int.natCast_zero];omega) Q
  exact h0
 have:=f.par j H q;rw[if_neg Q,if_neg Q,K9 (by omega)];obtain rfl:j=S.1.length:=by omega
 have g:Ah (S.1++[u]) S.1.length=u:=by simp[Ah]
 have k:AB (S.2++[(i:Int)]) (S.1.length:Nat)=i:=by rw[<-o];simp[AB]
 rw[g,if_pos rfl,k,if_neg (by omega),BM,K9 hi];simp only[List.map_append,List.map_cons,List.map_nil,Ac,List.mem_singleton,not_or]at c;rw[Vr,if_neg c.2,h.2 t c.1]
def TR(j:Nat)(R:Env->Prop):X->Env->Prop:=λx e=>x=.ex j/\R e
theorem Ya{j:Nat}{R:Env->Prop}{e:Env}:TR j R (.ex j) e=R e:=by simp[TR]
theorem ATH{b:S}{Q:X->Env->Prop}{e:Env}(j:Nat)(R:Env->Prop)(h:wpS K (.loop b) (TR j R) e)(H:∀e,R e->Q (.ex j) e):wpS K (.loop b) Q e:=by refine DJ _ (λx e h=>?_) h;obtain⟨rfl,h⟩:=h;exact H e h
theorem AcE{l:List (List Nat)}(h:l.Nodup){i j:Nat}(hi:i<l.length)(H:j<l.length)(e:l[i]=l[j]):i=j:=by rcases Nat.lt_trichotomy i j with q|q|q;exact absurd e (List.pairwise_iff_getElem.1 h i j hi H q);exact q;exact absurd e.symm (List.pairwise_iff_getElem.1 h j i H hi q)
theorem Ad7[HA K][E3 K]{a b:BT}{N k:Nat}(Y:a.n<=5)(hb:b.n=a.n)(h1:N<=42)(h2:(AX a N).1.length=N)(h3:∀j,j<N->j<(AX a j).1.length)(P:k<N)(hk2:Ah (AX a N).1 k=b)(hk4:b.t∈(AX a N).1.map BT.t):K 348 [.s a.t,.s b.t] [LS (DK (AX a N) (k+1) k),.b true]:=by
 have ed:(decide ((a.n:Int)<=5)&&decide (a.n=b.n))=true:=by rw[decide_eq_true (by omega),decide_eq_true hb.symm];rfl
 refine qw AA1 ?_;refine cB (Is (by omega) (by omega) (by omega)) ?_;rw[ed];refine wW ?_;refine ATH 0 (λe=>∃i m,i<=N/\JR m (AX a i)/\b.t∈(AX a i).1.map BT.t/\e=[.u,.s b.t,.u,.u,MS m,LS ((AX a i).1.map BT.t),.n i,.u,.u,.u,.u,.u,.u,.u,.u,.u,.u,.u,.u,.u,.u]) ?_ ?_;refine BE (λi m=>JR m (AX a i)) (λi m=>[.u,.s b.t,.u,.u,MS m,LS ((AX a i).1.map BT.t),.n i,.u,.u,.u,.u,.u,.u,.u,.u,.u,.u,.u,.u,.u,.u]) N [(a.t,[])] ⟨λj hj=>by
   simp only[AX,AO,Aa]at hj;obtain rfl:j=0:=by omega
   simp[AX,Ah,Cb,AB],λt ht=>by
   simp only[AX,List.map_cons,List.map_nil,List.mem_singleton]at ht;simp[Cb,ht]⟩ rfl (λi m hi J=>?_) (λm J=>?_)
 have h:=Hl (a:=a) i;have hl:=h.Lv Y;have F:=h3 i hi;have hn:=h.ns _ (FV F);have es:=Fe F;have U:=J.has (t:=b.t);by_cases hf:b.t∈(AX a i).1.map BT.t;rw[decide_eq_true hf]at U;simp(disch:=try exact dV) only[AD,List.length_map,U,Ya];exact⟨i,m,by omega,J,hf,rfl⟩;rw[decide_eq_false hf]at U;have hnb:=MX (x:=Ah (AX a i).1 i);simp(disch:=try exact dV) only[AD,List.length_map,U,es];refine cW (ACS (by omega)) ?_;obtain⟨l,I⟩:∃l,l=DQ (Ah (AX a i).1 i):=⟨_,rfl⟩;have g:∀u∈l,u.n=a.n:=λu V=>by rw[I]at V;exact(St V).trans hn
 have hR:AX a (i+1)=l.foldl (D5 i) (AX a i):=by rw[I];rfl
 rw[<-I]at hnb|-;refine BE (λk m=>JR m ((l.take k).foldl (D5 i) (AX a i))) (λk m=>[.u,.s b.t,.u,.u,MS m,LS (((l.take k).foldl (D5 i) (AX a i)).1.map BT.t),.n i,.u,.u,.u,.u,.u,.u,.u,.u,DN l,.n l.length,.n k,.u,.u,.u]) l.length m J (by simp) (λk m P M=>?_) (λm M=>?_);obtain⟨S,B⟩:∃S,S=(l.take k).foldl (D5 i) (AX a i):=⟨_,rfl⟩;have hp:Et (AX a i) S:=by rw[B];exact PF
 rw[<-B]at M|-;have L:BI a S:=by rw[B];exact h.fold (λu V=>g u (List.mem_of_mem_take V)) F
 have hlS:=L.Lv Y;have hls:=L.len;have T:l.take (k+1)=l.take k++[Ah l k]:=by rw[CO P,HS P]
 have ek:=Fe P;have tl:=BT.tl (Ah l k);have tn:=g _ (FV P);have O:i<S.1.length:=by obtain⟨r,q,e,_⟩:=hp;rw[e,AZ];omega
 have W:=Fe O;have H:=M.has (t:=(Ah l k).t);by_cases C:(Ah l k).t∈S.1.map BT.t;rw[decide_eq_true C]at H;simp(disch:=try exact dV) only[AD,List.length_map,ek,H];refine⟨m,?_,?_⟩;rw[T,List.foldl_append,<-B];simp only[List.foldl_cons,List.foldl_nil,D5,if_pos C];exact M;rw[T,List.foldl_append,<-B];simp only[List.foldl_cons,List.foldl_nil,D5,if_pos C];rw[decide_eq_false C]at H;simp(disch:=try exact dV) only[AD,List.length_map,ek,H,W];refine⟨Fm (Ah l k).t (Ah S.1 i).t m,?_,?_⟩;rw[T,List.foldl_append,<-B];simp only[List.foldl_cons,List.foldl_nil,D5,if_neg C];exact M.put L C O;rw[T,List.foldl_append,<-B];simp only[List.foldl_cons,List.foldl_nil,D5,if_neg C,List.map_append,List.map_cons,List.map_nil];rw[List.take_length,<-hR]at M|-;simp(disch:=try exact dV) only[AD,List.length_map];exact⟨m,M,rfl⟩;simp(disch:=try exact dV) only[AD,List.length_map,h2,Ya];exact⟨N,m,Nat.le_refl _,J,hk4,rfl⟩;rintro _ ⟨i,m,hi,J,Z,rfl⟩;have h:=Hl (a:=a) i;have o:=OK (a:=a) hi;obtain⟨c,Q,e',e''⟩:=ADO h Z;have hlen:=h.Lv Y;have hkk:c=k:=by
  obtain⟨r,q,e,_⟩:=o;have hN:=(Hl (a:=a) N).nd;have q1:(Ah (AX a N).1 c).t=b.t:=by rw[e,K9 Q,e']
  have q2:(Ah (AX a N).1 k).t=b.t:=by rw[hk2]
  have hle:(AX a i).1.length<=(AX a N).1.length:=by rw[e,AZ];omega
  refine AcE hN (by rw[List.length_map];omega) (by rw[List.length_map];omega) ?_;rw[List.getElem_map,List.getElem_map,<-HS,<-HS,q1,q2]
 subst hkk;have ew:DK (AX a N) (c+1) c=DK (AX a i) (c+1) c:=(AMS h o Q).symm;rw[ew];have hwl:=P5 (S:=AX a i) (f:=c+1) (k:=c);refine wW ?_;refine Bd (λ(x:Int×List (List Nat))=>-1<=x.1/\x.1<(AX a i).1.length/\(if x.1<0 then []else DK (AX a i) (x.1.toNat+1) x.1.toNat)++x.2.reverse=DK (AX a i) (c+1) c) (λx=>[.u,.u,.u,.u,MS m,.u,.u,.u,.u,.u,LS x.2,.s (if x.1<0 then []else(Ah (AX a i).1 x.1.toNat).t),.u,.u,.u,.u,.u,.u,.u,.u,.u]) (λx=>(x.1+1).toNat) ((c:Int),[]) ⟨by simp only;omega,by simp only;omega,by simp only[List.reverse_nil,List.append_nil,BM];rw[if_neg (by omega)]⟩ (by simp only[BM];rw[if_neg (by omega),e'];rfl) ?_;rintro⟨j,out⟩ ⟨g1,g2,G⟩;simp only at g1 g2 G|-;have g4:out.length<=c+1:=by have:=congrArg List.length G;rw[AZ,List.length_reverse]at this;omega
 by_cases hj:0<=j;obtain⟨n,rfl⟩:∃n:Nat,j=n:=⟨j.toNat,by omega⟩;have R:n<(AX a i).1.length:=by omega
 have tl:=BT.tl (Ah (AX a i).1 n);have hne:((Ah (AX a i).1 n).t==[])=false:=by rw[beq_eq_false_iff_ne];intro q;rw[q]at tl;simp at tl
 have hp:-1<=AB (AX a i).2 (n:Nat)/\AB (AX a i).2 (n:Nat)<n:=by rcases Nat.eq_zero_or_pos n with rfl|h0;have:=h.hd.2.1;simp only[Int.ofNat_eq_natCast,Int.natCast_zero];omega;have:=h.par n h0 R;omega
 have hg:=J.1 n R;rw[if_neg (by omega),BM]at G|-;rw[show DK (AX a i) (n+1) n=(if AB (AX a i).2 (n:Nat)<0 then []else DK (AX a i) n (AB (AX a i).2 (n:Nat)).toNat)++[(Ah (AX a i).1 n).t]from rfl]at G;simp(disch:=try exact dV) only[AD,hne,hg,Option.getD_some];refine⟨(AB (AX a i).2 (n:Nat),out++[(Ah (AX a i).1 n).t]),by simp only;omega,⟨by simp only;omega,by simp only;omega,?_⟩,rfl⟩;rw[<-G];simp only[List.reverse_append,List.reverse_cons,List.reverse_nil,List.nil_append,List.cons_append];by_cases q:AB (AX a i).2 (n:Nat)<0;rw[if_pos q,if_pos q];simp;rw[if_neg q,if_neg q,Q1 h (f:=n) (by omega) (by omega)];simp;rw[if_pos (by omega),List.nil_append]at G;rw[if_pos (by omega)];have e0:((([]:List Nat))==[])=true:=rfl;simp(disch:=try exact dV) only[AD,e0];refine cW (ATQ (by omega)) ?_;rw[G]
end Go.Cat
