/-
 Ways of rotations, on both sides.
-/
import Derived.Test.YthoilpmggmenbaaGreatPfWayM
set_option linter.unusedSimpArgs false
set_option linter.unusedVariables false
namespace Go.Cat
variable{K:Nat->List D->List D->Prop}
theorem AVJ[HA K]{ws:List (List Nat)}{k:List Nat}(h:ws.length<=100000):K 378 [LS ws,.s k] [.b (decide (k∈ws))]:=by
 refine qw Vn ?_;refine AN (λi=>k∉ws.take i) (λi=>[LS ws,.s k,.u,.n i,.u,.u]) ws.length (by simp) rfl (λi hi P=>?_) (λP=>?_);have a:ws.take (i+1)=ws.take i++[AF ws i]:=by rw[CQ hi];simp[AF,hi]
 have H:AF ws i∈ws:=by simp[AF,hi]
 cases c:(AF ws i==k);simp(disch:=omega) only[AD,c];rw[a];intro q;rcases A9.1 q with q|q;exact P q;simp only[List.mem_singleton]at q;rw[q]at c;simp at c;have e:AF ws i=k:=by simpa using c
 simp(disch:=omega) only[AD,c];rw[<-e];simp[H];rw[List.take_length]at P;refine wW ?_;simp[P]
theorem Ai1[HA K]{a:List (List Nat)}(h:a.length<=1000000000):K 368 [LS a] [LS a.reverse]:=by
 refine qw I368 ?_
 refine Bd (λ(x:Nat×List (List Nat))=>2*x.1<=a.length+1/\x.2.length=a.length/\∀j:Nat,j<a.length->AF x.2 j=if j<x.1\/a.length<=j+x.1 then AF a (a.length-1-j:Nat)else AF a j)
  (λx=>[LS x.2,.n x.1,.n ((a.length:Int)-1-x.1),.u]) (λx=>a.length-x.1) (0,a) ⟨by simp,rfl,by intro j c;rw[if_neg (by omega)]⟩ (by simp(disch:=try exact dV) only[AD,Int.sub_zero]) ?_
 rintro⟨i,o⟩ ⟨g,b,H⟩;simp only at g b H;by_cases l:2*i+1<a.length
 .refine wW ?_;have e:((a.length-1-i:Nat):Int)=(a.length:Int)-1-i:=by omega
  rw[<-e];refine⟨(i+1,Gw (Gw o i (AF o ((a.length-1-i:Nat):Int))) ((a.length-1-i:Nat):Int) (AF o i)),?_,⟨?_,?_,?_⟩,?_⟩;rotate_left 4;have:((a.length-1-i:Nat):Int)-1=(a.length:Int)-1-((i+1:Nat):Int):=by omega
  rw[this]<;>rfl;show a.length-(i+1)<a.length-i;omega;show 2*(i+1)<=a.length+1;omega;show(Gw (Gw o i _) _ _).length=a.length;rw[ON,ON,b];intro j c;show AF (Gw (Gw o i _) (a.length-1-i:Nat) _) j=_;rw[AC3 (by rw[ON];omega),AC3 (by omega)];have f:=H i (by omega);have a2:=H (a.length-1-i) (by omega);rw[if_neg (by omega)]at f a2;by_cases j1:a.length-1-i=j;rw[if_pos j1,if_pos (by omega),f];congr 2;omega;rw[if_neg j1];by_cases j2:i=j;rw[if_pos j2,if_pos (by omega),a2];congr 2;omega;rw[if_neg j2,H j c];by_cases j3:j<i\/a.length<=j+i;rw[if_pos j3,if_pos (by omega)];rw[if_neg j3,if_neg (by omega)]
 refine wW ?_;have e:o=a.reverse:=by refine List.ext_getElem (by simp[b]) λj c k=>?_;have:=H j (by omega);simp only[AF,BM,Ap]at this;rw[Eg (by omega),Eg (by omega),Eg (by omega)]at this;simp only[Option.getD_some]at this;rw[this,List.getElem_reverse];split;rfl;congr 1;omega
 rw[e]
theorem AYO[HA K]{a:BT}{N:Nat}(I:a.n<=5)(Q:N<=42)(J:(AZ a N).1.length=N)(L:∀j,j<N->j<(AZ a j).1.length):K 366 [.s a.t] [LS ((AZ a N).1.map BT.t),LI (AZ a N).2]:=by
 refine qw I366 ?_;refine AN (λi=>True) (λi=>[.u,.u,.u,LS ((AZ a i).1.map BT.t),LI (AZ a i).2,.n i,.u,.u,.u,.u,.u]) N trivial rfl (λi hi _=>?_) (λ_=>?_);have B:=JJ (a:=a) i;have T:=B.NI I;have H:=L i hi;have P:=B.ns _ (Fu H);have es:=G5 H;have q:=PZ (x:=Am (AZ a i).1 i);simp(disch:=try exact dV) only[AD,List.length_map,es];refine cW (Zk (by omega)) ?_;obtain⟨l,b⟩:∃l,l=Df (Am (AZ a i).1 i):=⟨_,rfl⟩;have h:∀u∈l,u.n=a.n:=λu o=>by rw[b]at o;exact(Vz o).trans P
 have R:AZ a (i+1)=l.foldl (EE i) (AZ a i):=by rw[b];rfl
 rw[<-b]at q|-;refine Ah (λk (S:List BT×List Int)=>S=(l.take k).foldl (EE i) (AZ a i)) (λk S=>[.u,.u,.u,LS (S.1.map BT.t),LI S.2,.n i,D9 l,.n k,.u,.u,.u]) l.length (AZ a i) rfl rfl (λk S g c=>?_) (λS c=>?_);have e:BI a S:=by rw[c];exact B.fold (λu o=>h u (List.mem_of_mem_take o)) H
 have M:=e.NI I;have O:=e.len;have G:l.take (k+1)=l.take k++[Am l k]:=by rw[CQ g,Ii g]
 have F:=G5 g;have tl:=BT.tl (Am l k);have U:=h _ (Fu g);simp(disch:=try exact dV) only[AD,List.length_map,F];have C:=AVJ (K:=K) (ws:=S.1.map BT.t) (k:=(Am l k).t) (by rw[List.length_map];omega);refine cB C ?_;by_cases f:(Am l k).t∈S.1.map BT.t;rw[decide_eq_true f];refine wW ?_;refine⟨S,?_,rfl⟩;rw[G,List.foldl_append,<-c];simp only[List.foldl_cons,List.foldl_nil,EE,if_pos f];rw[decide_eq_false f];simp(disch:=try exact dV) only[AD,List.length_map,F];refine⟨(S.1++[Am l k],S.2++[(i:Int)]),?_,by simp⟩;rw[G,List.foldl_append,<-c];simp only[List.foldl_cons,List.foldl_nil,EE,if_neg f];rw[List.take_length,<-R]at c;subst c;simp(disch:=try exact dV) only[AD,List.length_map];simp(disch:=try exact dV) only[AD,List.length_map,J]
theorem ABA{a:BT}{S:List BT×List Int}(h:BI a S){b:BT}(i:b.t∈S.1.map BT.t):∃k,k<S.1.length/\Am S.1 k=b/\∀j,j<k->¬(Am S.1 j).t=b.t:=by obtain⟨y,l,e⟩:=List.mem_map.1 i;obtain rfl:=XB e;obtain⟨j,H,f⟩:=List.getElem_of_mem l;obtain⟨m,o,c,g⟩:=QJ (P:=λj=>j<S.1.length/\(Am S.1 j).t=y.t) (n:=j) ⟨H,by rw[Ii H,f]⟩;exact⟨m,c.1,XB c.2,λj H q=>g j H ⟨by omega,q⟩⟩
theorem AcD[HA K]{a b:BT}{N k:Nat}(O:a.n<=5)(P:b.n=a.n)(J:N<=42)(L:(AZ a N).1.length=N)(M:∀j,j<N->j<(AZ a j).1.length)(U:k<N)(e:Am (AZ a N).1 k=b)(o:∀j,j<k->¬(Am (AZ a N).1 j).t=b.t):K 347 [.s a.t,.s b.t] [LS (Dd (AZ a N) (k+1) k),.b true]:=by
 have H:=JJ (a:=a) N;have Q:=H.len;have C:decide (a.n=b.n)=true:=decide_eq_true P.symm;refine qw Oz ?_;refine cB (JY (by omega) (by omega)) ?_;rw[C];refine wW ?_;refine cW (Ee (by omega)) ?_;refine cW (AYO O J L M) ?_;refine AN (λi=>True) (λi=>[.u,.s b.t,.u,.u,LS ((AZ a N).1.map BT.t),LI (AZ a N).2,.n i,.u,.u,.u,.u,.u,.u]) k trivial rfl (λi hi _=>?_) (λ_=>?_);have es:=G5 (l:=(AZ a N).1) (i:=i) (by omega);have B:((Am (AZ a N).1 i).t==b.t)=false:=by rw[beq_eq_false_iff_ne];exact o i hi
 simp(disch:=try exact dV) only[AD,List.length_map,es,B];have es:=G5 (l:=(AZ a N).1) (i:=k) (by omega);rw[e]at es;have c:(b.t==b.t)=true:=by simp
 simp(disch:=try exact dV) only[AD,List.length_map,es,c];refine Bd (λ(x:Int×List (List Nat))=>-1<=x.1/\x.1<N/\(if x.1<0 then []else Dd (AZ a N) (x.1.toNat+1) x.1.toNat)++x.2=Dd (AZ a N) (k+1) k) (λx=>[.u,.u,.u,.u,LS ((AZ a N).1.map BT.t),LI (AZ a N).2,.u,LS x.2,.n x.1,.u,.u,.u,.u]) (λx=>(x.1+1).toNat) ((k:Int),[]) ⟨by simp only;omega,by simp only;omega,by simp only[List.append_nil,BM];rw[if_neg (by omega)]⟩ rfl ?_;rintro⟨j,out⟩ ⟨G,I,g⟩;simp only at G I g|-;by_cases T:0<=j;obtain⟨m,rfl⟩:∃m:Nat,j=m:=⟨j.toNat,by omega⟩;have h:m<(AZ a N).1.length:=by omega
 have F:=G5 h;have R:out.length<=k+1:=by have:=congrArg List.length g;rw[AW]at this;have:=TL (S:=AZ a N) (f:=k+1) (k:=k);omega
 have V:-1<=AB (AZ a N).2 (m:Nat)/\AB (AZ a N).2 (m:Nat)<m:=by rcases Nat.eq_zero_or_pos m with rfl|h0;have:=H.hd.2.1;simp only[Int.ofNat_eq_natCast,Int.natCast_zero];omega;have:=H.par m h0 h;omega
 rw[if_neg (by omega),BM,show Dd (AZ a N) (m+1) m=(if AB (AZ a N).2 (m:Nat)<0 then []else Dd (AZ a N) m (AB (AZ a N).2 (m:Nat)).toNat)++[(Am (AZ a N).1 m).t]from rfl]at g;simp(disch:=try exact dV) only[AD,List.length_map,F];refine⟨(AB (AZ a N).2 (m:Nat),(Am (AZ a N).1 m).t::out),by simp only;omega,⟨by simp only;omega,by simp only;omega,?_⟩,rfl⟩;rw[<-g];simp only;by_cases q:AB (AZ a N).2 (m:Nat)<0;rw[if_pos q,if_pos q];simp;rw[if_neg q,if_neg q,T8 H (f:=m) (by omega) (by omega)];simp;rw[if_pos (by omega),List.nil_append]at g;refine wW ?_;rw[g]
def KO(m:List (List Nat×List Nat))(S:List BT×List Int):Prop:=
 (∀j,j<S.1.length->Cr (Am S.1 j).t m=some (if AB S.2 (j:Nat)<0 then []else(Am S.1 (AB S.2 (j:Nat)).toNat).t))/\∀t,t∉S.1.map BT.t->Cr t m=none
theorem W8{α:Type}{k a:List Nat}{v:α}:∀{m:List (List Nat×α)},Cr a (GY k v m)=if a=k then some v else Cr a m
 |[]=>by simp[GY,Cr]
 |(j,x)::m=>by simp only[GY];by_cases h:k=j;rw[if_pos h];subst h;simp only[Cr];by_cases q:a=k;rw[if_pos q,if_pos q];rw[if_neg q,if_neg q,if_neg q];rw[if_neg h];simp only[Cr];rw[W8];by_cases q:a=j;subst q;rw[if_pos rfl,if_neg (λe=>h e.symm),if_pos rfl];rw[if_neg q,if_neg q]
theorem KO.has{m:List (List Nat×List Nat)}{S:List BT×List Int}(h:KO m S){t:List Nat}:(Cr t m).isSome=decide (t∈S.1.map BT.t):=by by_cases q:t∈S.1.map BT.t;obtain⟨y,b,e⟩:=List.mem_map.1 q;obtain⟨j,H,a⟩:=List.getElem_of_mem b;have:=h.1 j H;rw[Ii H,a,e]at this;rw[this,decide_eq_true q]<;>rfl;rw[h.2 t q,decide_eq_false q]<;>rfl
theorem KO.put{m:List (List Nat×List Nat)}{a:BT}{S:List BT×List Int}(h:KO m S)(f:BI a S){u:BT}{i:Nat}(s:u.t∉S.1.map BT.t)(hi:i<S.1.length):KO (GY u.t (Am S.1 i).t m) (S.1++[u],S.2++[(i:Int)]):=by
 have o:=f.len;refine⟨λj l=>?_,λt c=>?_⟩;simp only[AW,AP,A5]at l|-;rw[W8];by_cases q:j<S.1.length;have b:¬(Am S.1 j).t=u.t:=λe=>s (by rw[<-e];exact List.mem_map.2 ⟨_,Fu q,rfl⟩);rw[LQ q,if_neg b,P1 (by omega),h.1 j q];by_cases Q:AB S.2 (j:Nat)<0;rw[if_pos Q,if_pos Q];have H:0<j:=by
  rcases Nat.eq_zero_or_pos j with rfl|h0;exact absurd (show AB S.2 ((0:Nat):Int)<0 by have:=f.hd.2.1;simp only[Int.ofNat_eq_natCast,Int.natCast_zero];omega) Q
  exact h0
 have:=f.par j H q;rw[if_neg Q,if_neg Q,LQ (by omega)];obtain rfl:j=S.1.length:=by omega
 have g:Am (S.1++[u]) S.1.length=u:=by simp[Am]
 have k:AB (S.2++[(i:Int)]) (S.1.length:Nat)=i:=by rw[<-o];simp[AB]
 rw[g,if_pos rfl,k,if_neg (by omega),BM,LQ hi];simp only[List.map_append,List.map_cons,List.map_nil,A9,List.mem_singleton,not_or]at c;rw[W8,if_neg c.2,h.2 t c.1]
def Y9(j:Nat)(R:Env->Prop):X->Env->Prop:=λx e=>x=.ex j/\R e
theorem AJA{j:Nat}{R:Env->Prop}{e:Env}:Y9 j R (.ex j) e=R e:=by simp[Y9]
theorem AlO{b:S}{Q:X->Env->Prop}{e:Env}(j:Nat)(R:Env->Prop)(h:wpS K (.loop b) (Y9 j R) e)(H:∀e,R e->Q (.ex j) e):wpS K (.loop b) Q e:=by refine Dh _ (λx e h=>?_) h;obtain⟨rfl,h⟩:=h;exact H e h
theorem AXG{l:List (List Nat)}(h:l.Nodup){i j:Nat}(hi:i<l.length)(H:j<l.length)(e:l[i]=l[j]):i=j:=by rcases Nat.lt_trichotomy i j with q|q|q;exact absurd e (List.pairwise_iff_getElem.1 h i j hi H q);exact q;exact absurd e.symm (List.pairwise_iff_getElem.1 h j i H hi q)
theorem AWL[HA K][Da K]{a b:BT}{N k:Nat}(Y:a.n<=5)(hb:b.n=a.n)(h1:N<=42)(h2:(AZ a N).1.length=N)(h3:∀j,j<N->j<(AZ a j).1.length)(P:k<N)(hk2:Am (AZ a N).1 k=b)(hk4:b.t∈(AZ a N).1.map BT.t):K 348 [.s a.t,.s b.t] [LS (Dd (AZ a N) (k+1) k),.b true]:=by
 have ed:(decide ((a.n:Int)<=5)&&decide (a.n=b.n))=true:=by rw[decide_eq_true (by omega),decide_eq_true hb.symm];rfl
 refine qw AC0 ?_;refine cB (J5 (by omega) (by omega) (by omega)) ?_;rw[ed];refine wW ?_;refine AlO 0 (λe=>∃i m,i<=N/\KO m (AZ a i)/\b.t∈(AZ a i).1.map BT.t/\e=[.u,.s b.t,.u,.u,MS m,LS ((AZ a i).1.map BT.t),.n i,.u,.u,.u,.u,.u,.u,.u,.u,.u,.u,.u,.u,.u,.u]) ?_ ?_;refine Ah (λi m=>KO m (AZ a i)) (λi m=>[.u,.s b.t,.u,.u,MS m,LS ((AZ a i).1.map BT.t),.n i,.u,.u,.u,.u,.u,.u,.u,.u,.u,.u,.u,.u,.u,.u]) N [(a.t,[])] ⟨λj hj=>by
   simp only[AZ,AP,A5]at hj;obtain rfl:j=0:=by omega
   simp[AZ,Am,Cr,AB],λt ht=>by
   simp only[AZ,List.map_cons,List.map_nil,List.mem_singleton]at ht;simp[Cr,ht]⟩ rfl (λi m hi J=>?_) (λm J=>?_)
 have h:=JJ (a:=a) i;have hl:=h.NI Y;have F:=h3 i hi;have hn:=h.ns _ (Fu F);have es:=G5 F;have U:=J.has (t:=b.t);by_cases hf:b.t∈(AZ a i).1.map BT.t;rw[decide_eq_true hf]at U;simp(disch:=try exact dV) only[AD,List.length_map,U,AJA];exact⟨i,m,by omega,J,hf,rfl⟩;rw[decide_eq_false hf]at U;have hnb:=PZ (x:=Am (AZ a i).1 i);simp(disch:=try exact dV) only[AD,List.length_map,U,es];refine cW (AH2 (by omega)) ?_;obtain⟨l,I⟩:∃l,l=Df (Am (AZ a i).1 i):=⟨_,rfl⟩;have g:∀u∈l,u.n=a.n:=λu V=>by rw[I]at V;exact(Vz V).trans hn
 have hR:AZ a (i+1)=l.foldl (EE i) (AZ a i):=by rw[I];rfl
 rw[<-I]at hnb|-;refine Ah (λk m=>KO m ((l.take k).foldl (EE i) (AZ a i))) (λk m=>[.u,.s b.t,.u,.u,MS m,LS (((l.take k).foldl (EE i) (AZ a i)).1.map BT.t),.n i,.u,.u,.u,.u,.u,.u,.u,.u,D9 l,.n l.length,.n k,.u,.u,.u]) l.length m J (by simp) (λk m P M=>?_) (λm M=>?_);obtain⟨S,B⟩:∃S,S=(l.take k).foldl (EE i) (AZ a i):=⟨_,rfl⟩;have hp:F4 (AZ a i) S:=by rw[B];exact SV
 rw[<-B]at M|-;have L:BI a S:=by rw[B];exact h.fold (λu V=>g u (List.mem_of_mem_take V)) F
 have hlS:=L.NI Y;have hls:=L.len;have T:l.take (k+1)=l.take k++[Am l k]:=by rw[CQ P,Ii P]
 have ek:=G5 P;have tl:=BT.tl (Am l k);have tn:=g _ (Fu P);have O:i<S.1.length:=by obtain⟨r,q,e,_⟩:=hp;rw[e,AW];omega
 have W:=G5 O;have H:=M.has (t:=(Am l k).t);by_cases C:(Am l k).t∈S.1.map BT.t;rw[decide_eq_true C]at H;simp(disch:=try exact dV) only[AD,List.length_map,ek,H];refine⟨m,?_,?_⟩;rw[T,List.foldl_append,<-B];simp only[List.foldl_cons,List.foldl_nil,EE,if_pos C];exact M;rw[T,List.foldl_append,<-B];simp only[List.foldl_cons,List.foldl_nil,EE,if_pos C];rw[decide_eq_false C]at H;simp(disch:=try exact dV) only[AD,List.length_map,ek,H,W];refine⟨GY (Am l k).t (Am S.1 i).t m,?_,?_⟩;rw[T,List.foldl_append,<-B];simp only[List.foldl_cons,List.foldl_nil,EE,if_neg C];exact M.put L C O;rw[T,List.foldl_append,<-B];simp only[List.foldl_cons,List.foldl_nil,EE,if_neg C,List.map_append,List.map_cons,List.map_nil];rw[List.take_length,<-hR]at M|-;simp(disch:=try exact dV) only[AD,List.length_map];exact⟨m,M,rfl⟩;simp(disch:=try exact dV) only[AD,List.length_map,h2,AJA];exact⟨N,m,Nat.le_refl _,J,hk4,rfl⟩;rintro _ ⟨i,m,hi,J,Z,rfl⟩;have h:=JJ (a:=a) i;have o:=Ri (a:=a) hi;obtain⟨c,Q,e',e''⟩:=ABA h Z;have hlen:=h.NI Y;have hkk:c=k:=by
  obtain⟨r,q,e,_⟩:=o;have hN:=(JJ (a:=a) N).nd;have q1:(Am (AZ a N).1 c).t=b.t:=by rw[e,LQ Q,e']
  have q2:(Am (AZ a N).1 k).t=b.t:=by rw[hk2]
  have hle:(AZ a i).1.length<=(AZ a N).1.length:=by rw[e,AW];omega
  refine AXG hN (by rw[List.length_map];omega) (by rw[List.length_map];omega) ?_;rw[List.getElem_map,List.getElem_map,<-Ii,<-Ii,q1,q2]
 subst hkk;have ew:Dd (AZ a N) (c+1) c=Dd (AZ a i) (c+1) c:=(AGP h o Q).symm;rw[ew];have hwl:=TL (S:=AZ a i) (f:=c+1) (k:=c);refine wW ?_;refine Bd (λ(x:Int×List (List Nat))=>-1<=x.1/\x.1<(AZ a i).1.length/\(if x.1<0 then []else Dd (AZ a i) (x.1.toNat+1) x.1.toNat)++x.2.reverse=Dd (AZ a i) (c+1) c) (λx=>[.u,.u,.u,.u,MS m,.u,.u,.u,.u,.u,LS x.2,.s (if x.1<0 then []else(Am (AZ a i).1 x.1.toNat).t),.u,.u,.u,.u,.u,.u,.u,.u,.u]) (λx=>(x.1+1).toNat) ((c:Int),[]) ⟨by simp only;omega,by simp only;omega,by simp only[List.reverse_nil,List.append_nil,BM];rw[if_neg (by omega)]⟩ (by simp only[BM];rw[if_neg (by omega),e'];rfl) ?_;rintro⟨j,out⟩ ⟨g1,g2,G⟩;simp only at g1 g2 G|-;have g4:out.length<=c+1:=by have:=congrArg List.length G;rw[AW,List.length_reverse]at this;omega
 by_cases hj:0<=j;obtain⟨n,rfl⟩:∃n:Nat,j=n:=⟨j.toNat,by omega⟩;have R:n<(AZ a i).1.length:=by omega
 have tl:=BT.tl (Am (AZ a i).1 n);have hne:((Am (AZ a i).1 n).t==[])=false:=by rw[beq_eq_false_iff_ne];intro q;rw[q]at tl;simp at tl
 have hp:-1<=AB (AZ a i).2 (n:Nat)/\AB (AZ a i).2 (n:Nat)<n:=by rcases Nat.eq_zero_or_pos n with rfl|h0;have:=h.hd.2.1;simp only[Int.ofNat_eq_natCast,Int.natCast_zero];omega;have:=h.par n h0 R;omega
 have hg:=J.1 n R;rw[if_neg (by omega),BM]at G|-;rw[show Dd (AZ a i) (n+1) n=(if AB (AZ a i).2 (n:Nat)<0 then []else Dd (AZ a i) n (AB (AZ a i).2 (n:Nat)).toNat)++[(Am (AZ a i).1 n).t]from rfl]at G;simp(disch:=try exact dV) only[AD,hne,hg,Option.getD_some];refine⟨(AB (AZ a i).2 (n:Nat),out++[(Am (AZ a i).1 n).t]),by simp only;omega,⟨by simp only;omega,by simp only;omega,?_⟩,rfl⟩;rw[<-G];simp only[List.reverse_append,List.reverse_cons,List.reverse_nil,List.nil_append,List.cons_append];by_cases q:AB (AZ a i).2 (n:Nat)<0;rw[if_pos q,if_pos q];simp;rw[if_neg q,if_neg q,T8 h (f:=n) (by omega) (by omega)];simp;rw[if_pos (by omega),List.nil_append]at G;rw[if_pos (by omega)];have e0:((([]:List Nat))==[])=true:=rfl;simp(disch:=try exact dV) only[AD,e0];refine cW (Ai1 (by omega)) ?_;rw[G]
end Go.Cat
namespace Go.Cat
variable{K:Nat->List D->List D->Prop}
theorem TT[HA K]{a b:List Nat}(h:K 367 [.s a,.s b,.n 5] [.b false]):K 348 [.s a,.s b] [LS [],.b false]:=by refine qw AC0 ?_;exact cZ h
theorem AgX[HA K][Da K]{x y:BT}(e:x.n<=5)(j:x.n=y.n):∃t:List (List Nat),t.length<=43/\0<t.length/\K 348 [.s x.t,.s y.t] [LS t,.b true]/\K 347 [.s x.t,.s y.t] [LS t,.b true]:=by obtain⟨N,l,c,o,q⟩:=AYL e;have h:=q y j.symm;obtain⟨k,g,H,i⟩:=ABA (JJ (a:=x) N) h;rw[c]at g;have B:=TL (S:=AZ x N) (f:=k+1) (k:=k);exact⟨Dd (AZ x N) (k+1) k,by omega,by simp[Dd],AWL e j.symm l c o g H h,AcD e j.symm l c o g H i⟩
theorem Pm[HA K][Da K](a b:List Nat):∃(t:List (List Nat))(r:Bool),t.length<=43/\(r=true->0<t.length)/\K 348 [.s a,.s b] [LS t,.b r]/\K 347 [.s a,.s b] [LS t,.b r]:=by
 cases ha:Az a with
 |false=>
  refine⟨[],false,by simp,by simp,TT ?_,?_⟩
  .refine qw PJ ?_
   exact cZ (RF ha)
  .refine qw Oz ?_
   exact cZ (US ha)
 |true=>
  obtain⟨x,rfl,h⟩:=FX ha
  cases hb:Az b with
  |false=>
   refine⟨[],false,by simp,by simp,TT ?_,?_⟩
   .refine qw PJ ?_
    refine cB (HE h) ?_
    by_cases g:(x.n:Int)<=5
    .refine wW ?_
     exact cZ (RF hb)
    .exact wZ
   .refine qw Oz ?_
    exact cZ (YA h hb)
  |true=>
   obtain⟨y,rfl,e⟩:=FX hb
   by_cases g:x.n<=5
   .by_cases H:x.n=y.n
    .obtain⟨t,i,j,k⟩:=AgX (K:=K) g H
     exact⟨t,true,i,λ_=>j,k⟩
    .have c:=J5 (K:=K) (x:=x) (y:=y) (m:=5) h e (by omega)
     rw[decide_eq_false H,Bool.and_false]at c
     refine⟨[],false,by simp,by simp,TT c,?_⟩
     have f:=JY (K:=K) h e
     rw[decide_eq_false H]at f
     refine qw Oz ?_
     exact cZ f
   .have c:=J5 (K:=K) (x:=x) (y:=y) (m:=5) h e (by omega)
    rw[decide_eq_false (p:=(x.n:Int)<=5) (by omega),Bool.false_and]at c
    refine⟨[],false,by simp,by simp,TT c,?_⟩
    have f:=JY (K:=K) h e
    refine qw Oz ?_
    refine cB f ?_
    by_cases H:x.n=y.n
    .rw[decide_eq_true H]
     refine wW ?_
     exact cZ (Ee h)
    .rw[decide_eq_false H]
     exact wZ
theorem Al0[HA K][Da K](a b:List Nat):∃v:Int,-1<=v/\v<=43/\K 617 [.s a,.s b] [.n v]/\K 612 [.s a,.s b] [.n v]:=by
 obtain⟨t,r,h,H,k,ks⟩:=Pm (K:=K) a b
 cases r with
 |false=>
  refine⟨-1,by omega,by omega,?_,?_⟩
  .refine qw AR0 ?_
   exact cZ k
  .refine qw AQ4 ?_
   exact cZ ks
 |true=>
  refine⟨(t.length:Int)-1,by omega,by omega,?_,?_⟩
  .refine qw AR0 ?_
   exact cZ k
  .refine qw AQ4 ?_
   exact cZ ks
end Go.Cat
namespace Go.Cat
variable{K:Nat->List D->List D->Prop}
theorem AdA{d:List (List Int)}(h:∀y∈d,Cg y):∀y∈Dv d,Cg y:=by
 have key:∀(n:Nat)(d:List (List Int)),d.length=n->(∀y∈d,Cg y)->∀y∈Dv d,Cg y:=by
  intro n;induction n with
  |zero=>
   intro d hd _ y H
   rw[List.length_eq_zero_iff.1 hd]at H
   simp[Dv,J1]at H
  |succ n i=>
   intro d hd a y H
   obtain⟨e,x,rfl⟩:∃e x,d=e++[x]:=⟨d.dropLast,d.getLast (by rintro rfl;simp at hd),(List.dropLast_concat_getLast _).symm⟩
   rw[show Dv (e++[x])=(Bh x (Dv e).reverse).reverse by simp only[Dv,J1,List.foldl_append,List.foldl_cons,List.foldl_nil,List.reverse_reverse],List.mem_reverse]at H
   rcases Tj.1 H with q|q
   .rw[q];exact a x (by simp)
   .exact i e (by simpa using hd) (λz b=>a z (by simp[b])) y (List.mem_reverse.1 q)
 exact key _ d rfl h
theorem Qv{x:BT}:∀y∈BO x,Cg y:=AdA N6
theorem Ml{x:BT}:(BO x).length<=x.n:=by have:=O1 (x:=x) (l:=0) (r:=(x.n:Int)+1);rw[AR4];omega
def Ih(d:List Int)(Y:List (List Int))(j:Nat):Nat:=((List.range j).filter λk:Nat=>decide (d=AG Y (k:Nat))).length
theorem AAB{d:List Int}{Y:List (List Int)}{j:Nat}:Ih d Y (j+1)=Ih d Y j+if d=AG Y (j:Nat)then 1 else 0:=by simp only[Ih,List.range_succ,List.filter_append,AW];by_cases h:d=AG Y (j:Nat);simp[h];simp[h]
theorem Xx{d:List Int}{Y:List (List Int)}{j:Nat}:Ih d Y j<=j:=by have:=List.length_filter_le (λk:Nat=>decide (d=AG Y (k:Nat))) (List.range j);simpa[Ih]using this
def HZ(X Y:List (List Int)):Nat->Nat
 |0=>0
 |i+1=>HZ X Y i+Ih (AG X (i:Nat)) Y Y.length
theorem AOP{X Y:List (List Int)}:∀{i:Nat},HZ X Y i<=i*Y.length
 |0=>by simp[HZ]
 |i+1=>by have h:=AOP (X:=X) (Y:=Y) (i:=i);have H:=Xx (d:=AG X (i:Nat)) (Y:=Y) (j:=Y.length);simp only[HZ,Nat.add_mul,Nat.one_mul];omega
theorem VV{X Y:List (List Int)}{i:Nat}(hi:i<=8)(h:Y.length<=8):HZ X Y i<=64:=by have H:=AOP (X:=X) (Y:=Y) (i:=i);have a:i*Y.length<=8*8:=Nat.mul_le_mul hi h;omega
theorem cd_i[HA K]{x y:BT}(b:x.n<=8)(h:x.n=y.n):K 616 [.s x.t,.s y.t] [.n (HZ (BO x) (BO y) (BO x).length)]:=by have bx:=Ml (x:=x);have B:=Ml (x:=y);have k:=J5 (K:=K) (x:=x) (y:=y) (m:=8) b (by omega) (by omega);rw[decide_eq_true (p:=(x.n:Int)<=8) (by omega),decide_eq_true h,Bool.and_self]at k;have R:=Qv (x:=x);have l:=Qv (x:=y);have g:=Ro (K:=K) (x:=x) b;have ky:=Ro (K:=K) (x:=y) (by omega);generalize BO x=X at*;generalize BO y=Y at*;refine qw I616 ?_;refine cW k ?_;refine cW g ?_;refine cW ky ?_;refine Ah (λi (c:Int)=>c=HZ X Y i) (λi c=>[.u,.u,.u,.u,LL Y,.n c,.u,.u,.u,LL X,.n X.length,.n i,.u,.u,.u,.u,.u,.u]) X.length 0 rfl rfl (λi c hi a=>?_) (λc a=>?_);have b1:=VV (X:=X) (Y:=Y) (i:=i) (by omega) (by omega);refine wW ?_;refine Ah (λj (e:Int)=>e=c+Ih (AG X (i:Nat)) Y j) (λj e=>[.u,.u,.u,.u,LL Y,.n e,LI (AG X (i:Nat)),.u,.u,LL X,.n X.length,.n i,.u,LL Y,.n Y.length,.n j,.u,.u]) Y.length c (by simp[Ih]) rfl (λj e f he=>?_) (λe he=>?_);have b2:=Xx (d:=AG X (i:Nat)) (Y:=Y) (j:=j);have o:(AG X (i:Nat)).length=2:=R _ (HR hi);have C:(AG Y (j:Nat)).length=2:=l _ (HR f);refine wW ?_;refine cB (ATG (by omega)) ?_;have H:=AAB (d:=AG X (i:Nat)) (Y:=Y) (j:=j);by_cases q:AG X (i:Nat)=AG Y (j:Nat);rw[if_pos q]at H;rw[decide_eq_true q];refine wW ?_;exact⟨_,by rw[H,he];omega,rfl⟩;rw[if_neg q]at H;rw[decide_eq_false q];refine wW ?_;exact⟨_,by rw[H,he];omega,rfl⟩;refine wW ?_;exact⟨_,by rw[he,a];simp only[HZ];omega,rfl⟩;refine wW ?_;rw[a]
theorem cd_s[HA K]{x y:BT}(g:x.n<=8)(h:x.n=y.n):K 611 [.s x.t,.s y.t] [.n (HZ (BO x) (BO y) (BO x).length)]:=by
 have bx:=Ml (x:=x);have B:=Ml (x:=y);have T:=BT.tl x;have ty:=BT.tl y;have o:=Qv (x:=x);have C:=Qv (x:=y);have k:=RW (K:=K) (x:=x) g;have ky:=RW (K:=K) (x:=y) (by omega);generalize BO x=X at*;generalize BO y=Y at*;refine qw I611 ?_;refine cW k ?_;refine cW ky ?_;refine Ah (λi (c:Int)=>c=HZ X Y i) (λi c=>[.u,.u,.u,LL X,.u,LL Y,.u,.n c,.n i,.u,.u,.u,.u,.u]) X.length 0 rfl rfl (λi c hi a=>?_) (λc a=>?_);have b1:=VV (X:=X) (Y:=Y) (i:=i) (by omega) (by omega);refine wW ?_;refine Ah (λj (e:Int)=>e=c+Ih (AG X (i:Nat)) Y j) (λj e=>[.u,.u,.u,LL X,.u,LL Y,.u,.n e,.n i,.n j,.u,.u,.u,.u]) Y.length c (by simp[Ih]) rfl (λj e f he=>?_) (λe he=>?_);have b2:=Xx (d:=AG X (i:Nat)) (Y:=Y) (j:=j);have R:(AG X (i:Nat)).length=2:=o _ (HR hi);have l:(AG Y (j:Nat)).length=2:=C _ (HR f);have H:=AAB (d:=AG X (i:Nat)) (Y:=Y) (j:=j);by_cases Q:AB (AG X (i:Nat)) 0=AB (AG Y (j:Nat)) 0;by_cases b:AB (AG X (i:Nat)) 1=AB (AG Y (j:Nat)) 1;have q:AG X (i:Nat)=AG Y (j:Nat):=by rw[UI R,UI l,Q,b]
 rw[if_pos q]at H;refine wW ?_;exact⟨_,by rw[H,he];omega,rfl⟩;have q:¬AG X (i:Nat)=AG Y (j:Nat):=λe=>b (by rw[e]);rw[if_neg q]at H;refine wW ?_;exact⟨_,by rw[H,he];omega,rfl⟩;have q:¬AG X (i:Nat)=AG Y (j:Nat):=λe=>Q (by rw[e]);rw[if_neg q]at H;refine wW ?_;exact⟨_,by rw[H,he];omega,rfl⟩;refine wW ?_;exact⟨_,by rw[he,a];simp only[HZ];omega,rfl⟩;refine wW ?_;rw[a]
theorem AD3:∀(l:List (List Nat)),(∀w∈l,AK w=true)->∃t:List BT,t.map BT.p=l
 |[],_=>⟨[],rfl⟩
 |w::l,h=>by obtain⟨t,H⟩:=AD3 l (λw a=>h w (BP _ a));obtain⟨x,rfl,_⟩:=Kr (h w (List.mem_cons_self ..));exact⟨x::t,by simp[H]⟩
theorem Ak5:∀n:Nat,n<6->(AI n).length<=42/\∀w∈AI n,AK w=true:=by decide
theorem AIB{l:List BT}{i:Nat}(h:i<l.length):AF (l.map BT.p) (i:Nat)=(Am l i).p:=by simp[AF,Am,h]
theorem AEV[HA K]{n:Nat}(h:n<=5):∃t:List BT,t.length<=42/\(∀z∈t,z.n<=8)/\K 506 [.n n] [D9 t]/\K 504 [.n n] [D9 t]:=by
 obtain⟨j,hd⟩:=Ak5 n (by omega);obtain⟨t,a⟩:=AD3 (AI n) hd;have q:t.length=(AI n).length:=by rw[<-a,List.length_map]
 have f:∀z∈t,z.n<=8:=λz H=>by
  have g:z.p∈AI n:=by rw[<-a];exact List.mem_map.2 ⟨z,H,rfl⟩
  obtain⟨y,e,o⟩:=Kr (hd _ g);rw[BT.AD5 e];exact o
 refine⟨t,by omega,f,?_,?_⟩;have k:=ANV (K:=K) (n:=n) (by omega);rw[<-a]at k;refine qw I506 ?_;refine cB k ?_;simp(disch:=try exact dV) only[AD,List.length_map];refine AN (λ_=>True) (λi=>[.u,.u,D9 (t.take i),.u,LS (t.map BT.p),.n t.length,.n i,.u]) t.length trivial rfl (λi hi _=>?_) (λ_=>?_);have b:=AIB hi;have H:=f _ (Fu hi);have c:t.take (i+1)=t.take i++[Am t i]:=by rw[CQ hi,Ii hi]
 have l:(t.take i).length<=42:=by rw[List.length_take];omega
 simp(disch:=try exact dV) only[AD,List.length_map,b];refine cW (Pt H) ?_;refine cB (KZ (by omega)) ?_;simp(disch:=try exact dV) only[AD,List.length_map];rw[c,D9,List.map_append]<;>rfl;rw[List.take_length];exact wZ;have k:=Sy (K:=K) (n:=n) (by omega);rw[<-a]at k;refine qw I504 ?_;refine cB k ?_;simp(disch:=try exact dV) only[AD,List.length_map];refine AN (λ_=>True) (λi=>[.u,.u,D9 (t.take i),LS (t.map BT.p),.n i,.u]) t.length trivial rfl (λi hi _=>?_) (λ_=>?_);have b:=AIB hi;have H:=f _ (Fu hi);have c:t.take (i+1)=t.take i++[Am t i]:=by rw[CQ hi,Ii hi]
 have l:(t.take i).length<=42:=by rw[List.length_take];omega
 simp(disch:=try exact dV) only[AD,List.length_map,b];refine cB (Ob H) ?_;simp(disch:=try exact dV) only[AD,List.length_map];rw[c,D9,List.map_append]<;>rfl;rw[List.take_length];simp(disch:=try exact dV) only[AD,List.length_map]
def Kd(x y:BT)(t:List BT)(i:Nat):Nat:=((List.range i).filter λk:Nat=>Cy x (Am t k)&&Cy (Am t k) y).length
theorem AEW{x y:BT}{t:List BT}{i:Nat}:Kd x y t (i+1)=Kd x y t i+if(Cy x (Am t i)&&Cy (Am t i) y)=true then 1 else 0:=by simp only[Kd,List.range_succ,List.filter_append,AW];by_cases h:(Cy x (Am t i)&&Cy (Am t i) y)=true;simp[h];simp[h]
theorem VJ{x y:BT}{t:List BT}{i:Nat}:Kd x y t i<=i:=by have:=List.length_filter_le (λk:Nat=>Cy x (Am t k)&&Cy (Am t k) y) (List.range i);simpa[Kd]using this
theorem AV3[HA K]{x y:BT}(g:x.n<=5)(h:x.n=y.n):∃v:Int,0<=v/\v<=42/\K 618 [.s x.t,.s y.t] [.n v]/\K 613 [.s x.t,.s y.t] [.n v]:=by
 obtain⟨t,o,T,j,ks⟩:=AEV (K:=K) (n:=x.n) g;have f:=VJ (x:=x) (y:=y) (t:=t) (i:=t.length);refine⟨Kd x y t t.length,by omega,by omega,?_,?_⟩;have k:=J5 (K:=K) (x:=x) (y:=y) (m:=5) (by omega) (by omega) (by omega);rw[decide_eq_true (p:=(x.n:Int)<=5) (by omega),decide_eq_true h,Bool.and_self]at k;refine qw I618 ?_;refine cW k ?_;refine cW (HE (by omega)) ?_;refine cB j ?_;simp(disch:=try exact dV) only[AD,List.length_map];refine Ah (λi (c:Int)=>c=Kd x y t i) (λi c=>[.s x.t,.s y.t,.u,.n c,.u,.u,D9 t,.n t.length,.n i,.u,.u]) t.length 0 rfl rfl (λi c hi a=>?_) (λc a=>?_);have e:=G5 hi;have b:=T _ (Fu hi);have H:=AEW (x:=x) (y:=y) (t:=t) (i:=i);have l:=VJ (x:=x) (y:=y) (t:=t) (i:=i);simp(disch:=try exact dV) only[AD,List.length_map,e];refine cB (N5 (by omega) b) ?_
 cases q1:Cy x (Am t i)with
 |false=>
  rw[q1,Bool.false_and,if_neg (by simp)]at H
  refine wW ?_
  exact⟨_,by rw[H,a];omega,rfl⟩
 |true=>
  refine wW ?_
  refine cB (N5 b (by omega)) ?_
  cases q2:Cy (Am t i) y with
  |false=>
   rw[q1,q2,Bool.and_false,if_neg (by simp)]at H
   refine wW ?_
   exact⟨_,by rw[H,a];omega,rfl⟩
  |true=>
   rw[q1,q2,Bool.and_self,if_pos rfl]at H
   refine wW ?_
   exact⟨_,by rw[H,a];omega,rfl⟩
 refine wW ?_;rw[a];have k:=JY (K:=K) (x:=x) (y:=y) (by omega) (by omega);rw[decide_eq_true h]at k;refine qw I613 ?_;refine cW k ?_;refine cW (Ee (by omega)) ?_;refine cW (Ee (by omega)) ?_;refine cW ks ?_;refine Ah (λi (c:Int)=>c=Kd x y t i) (λi c=>[.s x.t,.s y.t,.u,D9 t,.n c,.n i,.u,.u,.u]) t.length 0 rfl rfl (λi c hi a=>?_) (λc a=>?_);have e:=G5 hi;have b:=T _ (Fu hi);have H:=AEW (x:=x) (y:=y) (t:=t) (i:=i);have l:=VJ (x:=x) (y:=y) (t:=t) (i:=i);simp(disch:=try exact dV) only[AD,List.length_map,e];refine cB (NA (by omega) b) ?_
 cases q1:Cy x (Am t i)with
 |false=>
  rw[q1,Bool.false_and,if_neg (by simp)]at H
  simp(disch:=try exact dV) only[AD,List.length_map,e]
  exact⟨_,by rw[H,a];omega,rfl⟩
 |true=>
  simp(disch:=try exact dV) only[AD,List.length_map,e]
  refine cB (NA b (by omega)) ?_
  cases q2:Cy (Am t i) y with
  |false=>
   rw[q1,q2,Bool.and_false,if_neg (by simp)]at H
   refine wW ?_
   exact⟨_,by rw[H,a];omega,rfl⟩
  |true=>
   rw[q1,q2,Bool.and_self,if_pos rfl]at H
   refine wW ?_
   exact⟨_,by rw[H,a];omega,rfl⟩
 simp(disch:=try exact dV) only[AD,List.length_map];rw[a]
theorem ACR{a b c d e f:List Nat}:DK [.s a,.s b,.s c,.s d,.s e,.s f]=some (LS [a,b,c,d,e,f]):=rfl
theorem Ag3{a b c d e:List Nat}:DK [.s a,.s b,.s c,.s d,.s e]=some (LS [a,b,c,d,e]):=rfl
theorem AWR[HA K][Da K]{x y:BT}(a:x.n<=8)(h:x.n=y.n):∃v,(v≠[]/\Nw v)/\K 608 [.s x.t,.s y.t] [.s v]/\K 607 [.s x.t,.s y.t] [.s v]:=by
 obtain⟨m,F,M,ms⟩:=ZZ (K:=K) a h;obtain⟨j,j1,J,e⟩:=Ae9 (K:=K) a h;have lm:(m.elim [] BT.t).length<=25:=by
  cases m with
  |none=>simp
  |some z=>have:=F z rfl;have:=BT.tl z;simp only[Option.elim_some];omega
 have lj:(j.elim [] BT.t).length<=25:=by
  cases j with
  |none=>simp
  |some z=>have:=j1 z rfl;have:=BT.tl z;simp only[Option.elim_some];omega
 have O:10∉m.elim [] BT.t:=by cases m<;>simp[Lr]
 have I:10∉j.elim [] BT.t:=by cases j<;>simp[Lr]
 rw[Em]at M ms J e;generalize m.elim [] BT.t=sm at*;generalize j.elim [] BT.t=b at*;generalize m.isSome=R at*;generalize j.isSome=Q at*;have k:=J5 (K:=K) (x:=x) (y:=y) (m:=8) a (by omega) (by omega);rw[decide_eq_true (p:=(x.n:Int)<=8) (by omega),decide_eq_true h,Bool.and_self]at k;have f:=JY (K:=K) (x:=x) (y:=y) a (by omega);rw[decide_eq_true h]at f;have P:=VV (X:=BO x) (Y:=BO y) (i:=(BO x).length) (by have:=Ml (x:=x);omega) (by have:=Ml (x:=y);omega);have C:=cd_i (K:=K) a h;have cs:=cd_s (K:=K) a h;generalize HZ (BO x) (BO y) (BO x).length=c at*;have W:=Aw (n:=(c:Int)) (by omega);have G:glue [32] [[112,97,105,114,32,109,101,101,116],sm,[106,111,105,110],b,[99,111,109,109,111,110],AQ c]=[112,97,105,114,32,109,101,101,116,32]++sm++[32,106,111,105,110,32]++b++[32,99,111,109,109,111,110,32]++AQ c:=by simp[glue,BH,AF]
 have l:=IM (K:=K) (ws:=[[112,97,105,114,32,109,101,101,116],sm,[106,111,105,110],b,[99,111,109,109,111,110],AQ c]) (by simp) (by simp;omega);rw[G]at l;obtain⟨s1,H⟩:∃s,s=[112,97,105,114,32,109,101,101,116,32]++sm++[32,106,111,105,110,32]++b++[32,99,111,109,109,111,110,32]++AQ c:=⟨_,rfl⟩;have B:s1.length<=1000:=by rw[H];simp;omega
 have N:s1≠[]/\10∉s1:=by rw[H];exact⟨by simp,by simp[O,I,Fh]⟩
 rw[<-H]at l;by_cases q:x.n<=5
 .obtain⟨d,T,U,g,o⟩:=Al0 (K:=K) x.t y.t;obtain⟨v,v1,v2,V,vs⟩:=AV3 (K:=K) q h;have Z:=Aw (n:=d) (by omega);have f3:=Aw (n:=v) (by omega);have L:=IM (K:=K) (ws:=[s1,[100,105,115,116,97,110,99,101],AQ d,[98,101,116,119,101,101,110],AQ v]) (by simp) (by simp;omega);refine⟨s1++[32,100,105,115,116,97,110,99,101,32]++AQ d++[32,98,101,116,119,101,101,110,32]++AQ v,⟨by simp,by simp;omega,by simp[N.2,Fh]⟩,?_,?_⟩;rotate_left 1;refine qw U2 ?_;refine cW f ?_;refine cW ms ?_;refine cW e ?_;refine cW cs ?_;refine cW (CB (by omega)) ?_;refine cW (Ee (by omega)) ?_;refine cW o ?_;refine cW (CB (by omega)) ?_;refine cW vs ?_;refine cW (CB (by omega)) ?_;simp[H];refine qw Ud ?_;refine cW k ?_;refine cW M ?_;refine cW J ?_;refine cW C ?_;refine cB (C8 (by omega)) ?_;simp(disch:=try exact dV) only[AD,ACR];refine cW l ?_;refine cW (HE (by omega)) ?_;refine cW g ?_;refine cW (C8 (by omega)) ?_;refine cW V ?_;refine cB (C8 (by omega)) ?_;simp(disch:=try exact dV) only[AD,Ag3];refine cW L ?_;simp[glue,BH,AF]
 refine⟨s1,⟨N.1,by omega,N.2⟩,?_,?_⟩;refine qw Ud ?_;refine cW k ?_;refine cW M ?_;refine cW J ?_;refine cW C ?_;refine cB (C8 (by omega)) ?_;simp(disch:=try exact dV) only[AD,ACR];refine cW l ?_;exact cZ (HE (by omega));refine qw U2 ?_;refine cW f ?_;refine cW ms ?_;refine cW e ?_;refine cW cs ?_;refine cW (CB (by omega)) ?_;refine cW (Ee (by omega)) ?_;simp[H]
theorem AjZ[HA K][Da K](a b:List Nat):∃v,Nw v/\K 608 [.s a,.s b] [.s v]/\K 607 [.s a,.s b] [.s v]:=by
 have o:∀r:Bool,r=false->K 367 [.s a,.s b,.n 8] [.b r]->K 365 [.s a,.s b] [.b r]->∃v,Nw v/\K 608 [.s a,.s b] [.s v]/\K 607 [.s a,.s b] [.s v]:=by
  rintro r rfl c e;refine⟨[],⟨by simp,by simp⟩,?_,?_⟩
  .refine qw Ud ?_;exact cZ c
  .refine qw U2 ?_;exact cZ e
 cases ha:Az a with
 |false=>exact o false rfl (AEH (K:=K) (m:=8) ha) (US (K:=K) ha)
 |true=>
  obtain⟨x,rfl,H⟩:=FX ha
  cases hb:Az b with
  |false=>exact o false rfl (AB3 (K:=K) H hb) (YA (K:=K) H hb)
  |true=>
   obtain⟨y,rfl,f⟩:=FX hb
   by_cases h:x.n=y.n
   .obtain⟨v,g,k⟩:=AWR (K:=K) H h
    exact⟨v,g.2,k⟩
   .have c:=J5 (K:=K) (x:=x) (y:=y) (m:=8) H f (by omega)
    have e:=JY (K:=K) H f
    rw[decide_eq_false h,Bool.and_false]at c
    rw[decide_eq_false h]at e
    exact o false rfl c e
end Go.Cat
