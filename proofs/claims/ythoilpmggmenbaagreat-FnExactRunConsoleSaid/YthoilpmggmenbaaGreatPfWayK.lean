/-
 Ways of rotations, on both sides.
-/
import Derived.Test.YthoilpmggmenbaaGreatPfWayM
set_option linter.unusedSimpArgs false
set_option linter.unusedVariables false
namespace Go.Cat
variable{K:Nat->List D->List D->Prop}
theorem Ac2[HA K]{ws:List (List Nat)}{k:List Nat}(h:ws.length<=100000):K 378 [LS ws,.s k] [.b (decide (k∈ws))]:=by
 refine qw Vl ?_;refine AN (λi=>k∉ws.take i) (λi=>[LS ws,.s k,.u,.n i,.u,.u]) ws.length (by simp) rfl (λi hi P=>?_) (λP=>?_);have a:ws.take (i+1)=ws.take i++[AG ws i]:=by rw[CP hi];simp[AG,hi]
 have H:AG ws i∈ws:=by simp[AG,hi]
 cases c:(AG ws i==k);simp(disch:=omega) only[AD,c];rw[a];intro q;rcases Ac.1 q with q|q;exact P q;simp only[List.mem_singleton]at q;rw[q]at c;simp at c;have e:AG ws i=k:=by simpa using c
 simp(disch:=omega) only[AD,c];rw[<-e];simp[H];rw[List.take_length]at P;refine wW ?_;simp[P]
theorem AZA[HA K]{a:List (List Nat)}(h:a.length<=1000000000):K 368 [LS a] [LS a.reverse]:=by
 refine qw I368 ?_
 refine Bj (λ(x:Nat×List (List Nat))=>2*x.1<=a.length+1/\x.2.length=a.length/\∀j:Nat,j<a.length->AG x.2 j=if j<x.1\/a.length<=j+x.1 then AG a (a.length-1-j:Nat)else AG a j)
  (λx=>[LS x.2,.n x.1,.n ((a.length:Int)-1-x.1),.u]) (λx=>a.length-x.1) (0,a) ⟨by simp,rfl,by intro j c;rw[if_neg (by omega)]⟩ (by simp(disch:=try exact dV) only[AD,Int.sub_zero]) ?_
 rintro⟨i,o⟩ ⟨g,b,H⟩;simp only at g b H;by_cases l:2*i+1<a.length
 .refine wW ?_;have e:((a.length-1-i:Nat):Int)=(a.length:Int)-1-i:=by omega
  rw[<-e];refine⟨(i+1,HD (HD o i (AG o ((a.length-1-i:Nat):Int))) ((a.length-1-i:Nat):Int) (AG o i)),?_,⟨?_,?_,?_⟩,?_⟩;rotate_left 4;have:((a.length-1-i:Nat):Int)-1=(a.length:Int)-1-((i+1:Nat):Int):=by omega
  rw[this]<;>rfl;show a.length-(i+1)<a.length-i;omega;show 2*(i+1)<=a.length+1;omega;show(HD (HD o i _) _ _).length=a.length;rw[OF,OF,b];intro j c;show AG (HD (HD o i _) (a.length-1-i:Nat) _) j=_;rw[AMO (by rw[OF];omega),AMO (by omega)];have f:=H i (by omega);have a2:=H (a.length-1-i) (by omega);rw[if_neg (by omega)]at f a2;by_cases j1:a.length-1-i=j;rw[if_pos j1,if_pos (by omega),f];congr 2;omega;rw[if_neg j1];by_cases j2:i=j;rw[if_pos j2,if_pos (by omega),a2];congr 2;omega;rw[if_neg j2,H j c];by_cases j3:j<i\/a.length<=j+i;rw[if_pos j3,if_pos (by omega)];rw[if_neg j3,if_neg (by omega)]
 refine wW ?_;have e:o=a.reverse:=by refine List.ext_getElem (by simp[b]) λj c k=>?_;have:=H j (by omega);simp only[AG,BM,Ap]at this;rw[FD (by omega),FD (by omega),FD (by omega)]at this;simp only[Option.getD_some]at this;rw[this,List.getElem_reverse];split;rfl;congr 1;omega
 rw[e]
theorem AXK[HA K]{a:BT}{N:Nat}(I:a.n<=5)(Q:N<=42)(J:(AZ a N).1.length=N)(L:∀j,j<N->j<(AZ a j).1.length):K 366 [.s a.t] [LS ((AZ a N).1.map BT.t),LI (AZ a N).2]:=by
 refine qw I366 ?_;refine AN (λi=>True) (λi=>[.u,.u,.u,LS ((AZ a i).1.map BT.t),LI (AZ a i).2,.n i,.u,.u,.u,.u,.u]) N trivial rfl (λi hi _=>?_) (λ_=>?_);have B:=J7 (a:=a) i;have T:=B.My I;have H:=L i hi;have P:=B.ns _ (Fz H);have es:=Gc H;have q:=Ou (x:=An (AZ a i).1 i);simp(disch:=try exact dV) only[AD,List.length_map,es];refine cW (AIN (by omega)) ?_;obtain⟨l,b⟩:∃l,l=D7 (An (AZ a i).1 i):=⟨_,rfl⟩;have h:∀u∈l,u.n=a.n:=λu o=>by rw[b]at o;exact(XM o).trans P
 have R:AZ a (i+1)=l.foldl (Dy i) (AZ a i):=by rw[b];rfl
 rw[<-b]at q|-;refine Aj (λk (S:List BT×List Int)=>S=(l.take k).foldl (Dy i) (AZ a i)) (λk S=>[.u,.u,.u,LS (S.1.map BT.t),LI S.2,.n i,D3 l,.n k,.u,.u,.u]) l.length (AZ a i) rfl rfl (λk S g c=>?_) (λS c=>?_);have e:BI a S:=by rw[c];exact B.fold (λu o=>h u (List.mem_of_mem_take o)) H
 have M:=e.My I;have O:=e.len;have G:l.take (k+1)=l.take k++[An l k]:=by rw[CP g,IX g]
 have F:=Gc g;have tl:=BT.tl (An l k);have U:=h _ (Fz g);simp(disch:=try exact dV) only[AD,List.length_map,F];have C:=Ac2 (K:=K) (ws:=S.1.map BT.t) (k:=(An l k).t) (by rw[List.length_map];omega);refine cB C ?_;by_cases f:(An l k).t∈S.1.map BT.t;rw[decide_eq_true f];refine wW ?_;refine⟨S,?_,rfl⟩;rw[G,List.foldl_append,<-c];simp only[List.foldl_cons,List.foldl_nil,Dy,if_pos f];rw[decide_eq_false f];simp(disch:=try exact dV) only[AD,List.length_map,F];refine⟨(S.1++[An l k],S.2++[(i:Int)]),?_,by simp⟩;rw[G,List.foldl_append,<-c];simp only[List.foldl_cons,List.foldl_nil,Dy,if_neg f];rw[List.take_length,<-R]at c;subst c;simp(disch:=try exact dV) only[AD,List.length_map];simp(disch:=try exact dV) only[AD,List.length_map,J]
theorem AFH{a:BT}{S:List BT×List Int}(h:BI a S){b:BT}(i:b.t∈S.1.map BT.t):∃k,k<S.1.length/\An S.1 k=b/\∀j,j<k->¬(An S.1 j).t=b.t:=by obtain⟨y,l,e⟩:=List.mem_map.1 i;obtain rfl:=VZ e;obtain⟨j,H,f⟩:=List.getElem_of_mem l;obtain⟨m,o,c,g⟩:=QL (P:=λj=>j<S.1.length/\(An S.1 j).t=y.t) (n:=j) ⟨H,by rw[IX H,f]⟩;exact⟨m,c.1,VZ c.2,λj H q=>g j H ⟨by omega,q⟩⟩
theorem AhB[HA K]{a b:BT}{N k:Nat}(O:a.n<=5)(P:b.n=a.n)(J:N<=42)(L:(AZ a N).1.length=N)(M:∀j,j<N->j<(AZ a j).1.length)(U:k<N)(e:An (AZ a N).1 k=b)(o:∀j,j<k->¬(An (AZ a N).1 j).t=b.t):K 347 [.s a.t,.s b.t] [LS (Dd (AZ a N) (k+1) k),.b true]:=by
 have H:=J7 (a:=a) N;have Q:=H.len;have C:decide (a.n=b.n)=true:=decide_eq_true P.symm;refine qw QJ ?_;refine cB (JY (by omega) (by omega)) ?_;rw[C];refine wW ?_;refine cW (EV (by omega)) ?_;refine cW (AXK O J L M) ?_;refine AN (λi=>True) (λi=>[.u,.s b.t,.u,.u,LS ((AZ a N).1.map BT.t),LI (AZ a N).2,.n i,.u,.u,.u,.u,.u,.u]) k trivial rfl (λi hi _=>?_) (λ_=>?_);have es:=Gc (l:=(AZ a N).1) (i:=i) (by omega);have B:((An (AZ a N).1 i).t==b.t)=false:=by rw[beq_eq_false_iff_ne];exact o i hi
 simp(disch:=try exact dV) only[AD,List.length_map,es,B];have es:=Gc (l:=(AZ a N).1) (i:=k) (by omega);rw[e]at es;have c:(b.t==b.t)=true:=by simp
 simp(disch:=try exact dV) only[AD,List.length_map,es,c];refine Bj (λ(x:Int×List (List Nat))=>-1<=x.1/\x.1<N/\(if x.1<0 then []else Dd (AZ a N) (x.1.toNat+1) x.1.toNat)++x.2=Dd (AZ a N) (k+1) k) (λx=>[.u,.u,.u,.u,LS ((AZ a N).1.map BT.t),LI (AZ a N).2,.u,LS x.2,.n x.1,.u,.u,.u,.u]) (λx=>(x.1+1).toNat) ((k:Int),[]) ⟨by simp only;omega,by simp only;omega,by simp only[List.append_nil,BM];rw[if_neg (by omega)]⟩ rfl ?_;rintro⟨j,out⟩ ⟨G,I,g⟩;simp only at G I g|-;by_cases T:0<=j;obtain⟨m,rfl⟩:∃m:Nat,j=m:=⟨j.toNat,by omega⟩;have h:m<(AZ a N).1.length:=by omega
 have F:=Gc h;have R:out.length<=k+1:=by have:=congrArg List.length g;rw[A4]at this;have:=Qi (S:=AZ a N) (f:=k+1) (k:=k);omega
 have V:-1<=AB (AZ a N).2 (m:Nat)/\AB (AZ a N).2 (m:Nat)<m:=by rcases Nat.eq_zero_or_pos m with rfl|h0;have:=H.hd.2.1;simp only[Int.ofNat_eq_natCast,Int.natCast_zero];omega;have:=H.par m h0 h;omega
 rw[if_neg (by omega),BM,show Dd (AZ a N) (m+1) m=(if AB (AZ a N).2 (m:Nat)<0 then []else Dd (AZ a N) m (AB (AZ a N).2 (m:Nat)).toNat)++[(An (AZ a N).1 m).t]from rfl]at g;simp(disch:=try exact dV) only[AD,List.length_map,F];refine⟨(AB (AZ a N).2 (m:Nat),(An (AZ a N).1 m).t::out),by simp only;omega,⟨by simp only;omega,by simp only;omega,?_⟩,rfl⟩;rw[<-g];simp only;by_cases q:AB (AZ a N).2 (m:Nat)<0;rw[if_pos q,if_pos q];simp;rw[if_neg q,if_neg q,Rz H (f:=m) (by omega) (by omega)];simp;rw[if_pos (by omega),List.nil_append]at g;refine wW ?_;rw[g]
def Js(m:List (List Nat×List Nat))(S:List BT×List Int):Prop:=
 (∀j,j<S.1.length->Co (An S.1 j).t m=some (if AB S.2 (j:Nat)<0 then []else(An S.1 (AB S.2 (j:Nat)).toNat).t))/\∀t,t∉S.1.map BT.t->Co t m=none
theorem Wr{α:Type}{k a:List Nat}{v:α}:∀{m:List (List Nat×α)},Co a (GV k v m)=if a=k then some v else Co a m
 |[]=>by simp[GV,Co]
 |(j,x)::m=>by simp only[GV];by_cases h:k=j;rw[if_pos h];subst h;simp only[Co];by_cases q:a=k;rw[if_pos q,if_pos q];rw[if_neg q,if_neg q,if_neg q];rw[if_neg h];simp only[Co];rw[Wr];by_cases q:a=j;subst q;rw[if_pos rfl,if_neg (λe=>h e.symm),if_pos rfl];rw[if_neg q,if_neg q]
theorem Js.has{m:List (List Nat×List Nat)}{S:List BT×List Int}(h:Js m S){t:List Nat}:(Co t m).isSome=decide (t∈S.1.map BT.t):=by by_cases q:t∈S.1.map BT.t;obtain⟨y,b,e⟩:=List.mem_map.1 q;obtain⟨j,H,a⟩:=List.getElem_of_mem b;have:=h.1 j H;rw[IX H,a,e]at this;rw[this,decide_eq_true q]<;>rfl;rw[h.2 t q,decide_eq_false q]<;>rfl
theorem Js.put{m:List (List Nat×List Nat)}{a:BT}{S:List BT×List Int}(h:Js m S)(f:BI a S){u:BT}{i:Nat}(s:u.t∉S.1.map BT.t)(hi:i<S.1.length):Js (GV u.t (An S.1 i).t m) (S.1++[u],S.2++[(i:Int)]):=by
 have o:=f.len;refine⟨λj l=>?_,λt c=>?_⟩;simp only[A4,AO,A6]at l|-;rw[Wr];by_cases q:j<S.1.length;have b:¬(An S.1 j).t=u.t:=λe=>s (by rw[<-e];exact List.mem_map.2 ⟨_,Fz q,rfl⟩);rw[Ks q,if_neg b,Oi (by omega),h.1 j q];by_cases Q:AB S.2 (j:Nat)<0;rw[if_pos Q,if_pos Q];have H:0<j:=by
  rcases Nat.eq_zero_or_pos j with rfl|h0;exact absurd (show AB S.2 ((0:Nat):Int)<0 by have:=f.hd.2.1;simp only[Int.ofNat_eq_natCast,Int.natCast_zero];omega) Q
  exact h0
 have:=f.par j H q;rw[if_neg Q,if_neg Q,Ks (by omega)];obtain rfl:j=S.1.length:=by omega
 have g:An (S.1++[u]) S.1.length=u:=by simp[An]
 have k:AB (S.2++[(i:Int)]) (S.1.length:Nat)=i:=by rw[<-o];simp[AB]
 rw[g,if_pos rfl,k,if_neg (by omega),BM,Ks hi];simp only[List.map_append,List.map_cons,List.map_nil,Ac,List.mem_singleton,not_or]at c;rw[Wr,if_neg c.2,h.2 t c.1]
def X5(j:Nat)(R:Env->Prop):X->Env->Prop:=λx e=>x=.ex j/\R e
theorem AQJ{j:Nat}{R:Env->Prop}{e:Env}:X5 j R (.ex j) e=R e:=by simp[X5]
theorem AXN{b:S}{Q:X->Env->Prop}{e:Env}(j:Nat)(R:Env->Prop)(h:wpS K (.loop b) (X5 j R) e)(H:∀e,R e->Q (.ex j) e):wpS K (.loop b) Q e:=by refine D8 _ (λx e h=>?_) h;obtain⟨rfl,h⟩:=h;exact H e h
theorem ATQ{l:List (List Nat)}(h:l.Nodup){i j:Nat}(hi:i<l.length)(H:j<l.length)(e:l[i]=l[j]):i=j:=by rcases Nat.lt_trichotomy i j with q|q|q;exact absurd e (List.pairwise_iff_getElem.1 h i j hi H q);exact q;exact absurd e.symm (List.pairwise_iff_getElem.1 h j i H hi q)
theorem AVD[HA K][Ds K]{a b:BT}{N k:Nat}(Y:a.n<=5)(hb:b.n=a.n)(h1:N<=42)(h2:(AZ a N).1.length=N)(h3:∀j,j<N->j<(AZ a j).1.length)(P:k<N)(hk2:An (AZ a N).1 k=b)(hk4:b.t∈(AZ a N).1.map BT.t):K 348 [.s a.t,.s b.t] [LS (Dd (AZ a N) (k+1) k),.b true]:=by
 have ed:(decide ((a.n:Int)<=5)&&decide (a.n=b.n))=true:=by rw[decide_eq_true (by omega),decide_eq_true hb.symm];rfl
 refine qw ADH ?_;refine cB (Je (by omega) (by omega) (by omega)) ?_;rw[ed];refine wW ?_;refine AXN 0 (λe=>∃i m,i<=N/\Js m (AZ a i)/\b.t∈(AZ a i).1.map BT.t/\e=[.u,.s b.t,.u,.u,MS m,LS ((AZ a i).1.map BT.t),.n i,.u,.u,.u,.u,.u,.u,.u,.u,.u,.u,.u,.u,.u,.u]) ?_ ?_;refine Aj (λi m=>Js m (AZ a i)) (λi m=>[.u,.s b.t,.u,.u,MS m,LS ((AZ a i).1.map BT.t),.n i,.u,.u,.u,.u,.u,.u,.u,.u,.u,.u,.u,.u,.u,.u]) N [(a.t,[])] ⟨λj hj=>by
   simp only[AZ,AO,A6]at hj;obtain rfl:j=0:=by omega
   simp[AZ,An,Co,AB],λt ht=>by
   simp only[AZ,List.map_cons,List.map_nil,List.mem_singleton]at ht;simp[Co,ht]⟩ rfl (λi m hi J=>?_) (λm J=>?_)
 have h:=J7 (a:=a) i;have hl:=h.My Y;have F:=h3 i hi;have hn:=h.ns _ (Fz F);have es:=Gc F;have U:=J.has (t:=b.t);by_cases hf:b.t∈(AZ a i).1.map BT.t;rw[decide_eq_true hf]at U;simp(disch:=try exact dV) only[AD,List.length_map,U,AQJ];exact⟨i,m,by omega,J,hf,rfl⟩;rw[decide_eq_false hf]at U;have hnb:=Ou (x:=An (AZ a i).1 i);simp(disch:=try exact dV) only[AD,List.length_map,U,es];refine cW (AAL (by omega)) ?_;obtain⟨l,I⟩:∃l,l=D7 (An (AZ a i).1 i):=⟨_,rfl⟩;have g:∀u∈l,u.n=a.n:=λu V=>by rw[I]at V;exact(XM V).trans hn
 have hR:AZ a (i+1)=l.foldl (Dy i) (AZ a i):=by rw[I];rfl
 rw[<-I]at hnb|-;refine Aj (λk m=>Js m ((l.take k).foldl (Dy i) (AZ a i))) (λk m=>[.u,.s b.t,.u,.u,MS m,LS (((l.take k).foldl (Dy i) (AZ a i)).1.map BT.t),.n i,.u,.u,.u,.u,.u,.u,.u,.u,D3 l,.n l.length,.n k,.u,.u,.u]) l.length m J (by simp) (λk m P M=>?_) (λm M=>?_);obtain⟨S,B⟩:∃S,S=(l.take k).foldl (Dy i) (AZ a i):=⟨_,rfl⟩;have hp:FP (AZ a i) S:=by rw[B];exact RJ
 rw[<-B]at M|-;have L:BI a S:=by rw[B];exact h.fold (λu V=>g u (List.mem_of_mem_take V)) F
 have hlS:=L.My Y;have hls:=L.len;have T:l.take (k+1)=l.take k++[An l k]:=by rw[CP P,IX P]
 have ek:=Gc P;have tl:=BT.tl (An l k);have tn:=g _ (Fz P);have O:i<S.1.length:=by obtain⟨r,q,e,_⟩:=hp;rw[e,A4];omega
 have W:=Gc O;have H:=M.has (t:=(An l k).t);by_cases C:(An l k).t∈S.1.map BT.t;rw[decide_eq_true C]at H;simp(disch:=try exact dV) only[AD,List.length_map,ek,H];refine⟨m,?_,?_⟩;rw[T,List.foldl_append,<-B];simp only[List.foldl_cons,List.foldl_nil,Dy,if_pos C];exact M;rw[T,List.foldl_append,<-B];simp only[List.foldl_cons,List.foldl_nil,Dy,if_pos C];rw[decide_eq_false C]at H;simp(disch:=try exact dV) only[AD,List.length_map,ek,H,W];refine⟨GV (An l k).t (An S.1 i).t m,?_,?_⟩;rw[T,List.foldl_append,<-B];simp only[List.foldl_cons,List.foldl_nil,Dy,if_neg C];exact M.put L C O;rw[T,List.foldl_append,<-B];simp only[List.foldl_cons,List.foldl_nil,Dy,if_neg C,List.map_append,List.map_cons,List.map_nil];rw[List.take_length,<-hR]at M|-;simp(disch:=try exact dV) only[AD,List.length_map];exact⟨m,M,rfl⟩;simp(disch:=try exact dV) only[AD,List.length_map,h2,AQJ];exact⟨N,m,Nat.le_refl _,J,hk4,rfl⟩;rintro _ ⟨i,m,hi,J,Z,rfl⟩;have h:=J7 (a:=a) i;have o:=TB (a:=a) hi;obtain⟨c,Q,e',e''⟩:=AFH h Z;have hlen:=h.My Y;have hkk:c=k:=by
  obtain⟨r,q,e,_⟩:=o;have hN:=(J7 (a:=a) N).nd;have q1:(An (AZ a N).1 c).t=b.t:=by rw[e,Ks Q,e']
  have q2:(An (AZ a N).1 k).t=b.t:=by rw[hk2]
  have hle:(AZ a i).1.length<=(AZ a N).1.length:=by rw[e,A4];omega
  refine ATQ hN (by rw[List.length_map];omega) (by rw[List.length_map];omega) ?_;rw[List.getElem_map,List.getElem_map,<-IX,<-IX,q1,q2]
 subst hkk;have ew:Dd (AZ a N) (c+1) c=Dd (AZ a i) (c+1) c:=(AC9 h o Q).symm;rw[ew];have hwl:=Qi (S:=AZ a i) (f:=c+1) (k:=c);refine wW ?_;refine Bj (λ(x:Int×List (List Nat))=>-1<=x.1/\x.1<(AZ a i).1.length/\(if x.1<0 then []else Dd (AZ a i) (x.1.toNat+1) x.1.toNat)++x.2.reverse=Dd (AZ a i) (c+1) c) (λx=>[.u,.u,.u,.u,MS m,.u,.u,.u,.u,.u,LS x.2,.s (if x.1<0 then []else(An (AZ a i).1 x.1.toNat).t),.u,.u,.u,.u,.u,.u,.u,.u,.u]) (λx=>(x.1+1).toNat) ((c:Int),[]) ⟨by simp only;omega,by simp only;omega,by simp only[List.reverse_nil,List.append_nil,BM];rw[if_neg (by omega)]⟩ (by simp only[BM];rw[if_neg (by omega),e'];rfl) ?_;rintro⟨j,out⟩ ⟨g1,g2,G⟩;simp only at g1 g2 G|-;have g4:out.length<=c+1:=by have:=congrArg List.length G;rw[A4,List.length_reverse]at this;omega
 by_cases hj:0<=j;obtain⟨n,rfl⟩:∃n:Nat,j=n:=⟨j.toNat,by omega⟩;have R:n<(AZ a i).1.length:=by omega
 have tl:=BT.tl (An (AZ a i).1 n);have hne:((An (AZ a i).1 n).t==[])=false:=by rw[beq_eq_false_iff_ne];intro q;rw[q]at tl;simp at tl
 have hp:-1<=AB (AZ a i).2 (n:Nat)/\AB (AZ a i).2 (n:Nat)<n:=by rcases Nat.eq_zero_or_pos n with rfl|h0;have:=h.hd.2.1;simp only[Int.ofNat_eq_natCast,Int.natCast_zero];omega;have:=h.par n h0 R;omega
 have hg:=J.1 n R;rw[if_neg (by omega),BM]at G|-;rw[show Dd (AZ a i) (n+1) n=(if AB (AZ a i).2 (n:Nat)<0 then []else Dd (AZ a i) n (AB (AZ a i).2 (n:Nat)).toNat)++[(An (AZ a i).1 n).t]from rfl]at G;simp(disch:=try exact dV) only[AD,hne,hg,Option.getD_some];refine⟨(AB (AZ a i).2 (n:Nat),out++[(An (AZ a i).1 n).t]),by simp only;omega,⟨by simp only;omega,by simp only;omega,?_⟩,rfl⟩;rw[<-G];simp only[List.reverse_append,List.reverse_cons,List.reverse_nil,List.nil_append,List.cons_append];by_cases q:AB (AZ a i).2 (n:Nat)<0;rw[if_pos q,if_pos q];simp;rw[if_neg q,if_neg q,Rz h (f:=n) (by omega) (by omega)];simp;rw[if_pos (by omega),List.nil_append]at G;rw[if_pos (by omega)];have e0:((([]:List Nat))==[])=true:=rfl;simp(disch:=try exact dV) only[AD,e0];refine cW (AZA (by omega)) ?_;rw[G]
end Go.Cat
