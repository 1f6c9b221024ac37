/-
 Texts of objects, read back: what the readers make of the text of a path is that path.
-/
import Derived.Test.YthoilpmggmenbaaGreatPfTurn
import Derived.Test.YthoilpmggmenbaaGreatPfRdQ
set_option linter.unusedSimpArgs false
set_option linter.unusedVariables false
namespace Go.Cat
set_option maxRecDepth 100000
theorem AI9{b:Nat}:∀{ws:List (List Nat)}{x:List Nat},sep b (ws++[x])=sep b ws++(if 0<ws.length then [b]else [])++x
 |[],x=>by simp[sep]
 |[p],x=>by simp[sep]
 |p::q::t,x=>by have:=AI9 (b:=b) (ws:=q::t) (x:=x);simp only[List.cons_append]at this;simp only[List.cons_append,sep];rw[this];simp
theorem AKL{b:Nat}{ws:List (List Nat)}:∀i,i<=ws.length->BH [b] ws i=sep b (ws.take i)
 |0,_=>by simp[BH,sep]
 |i+1,h=>by
  have l:(ws.take i).length=i:=by simp;omega
  rw[BH,AKL i (by omega),VP (by omega),AI9,l]
theorem Lz{b:Nat}{ws:List (List Nat)}:glue [b] ws=sep b ws:=by rw[glue,AKL _ (Nat.le_refl _),List.take_length]
theorem R6{b k:Nat}:∀{ps:List (List Nat)},(∀p∈ps,p.length<=k)->(sep b ps).length<=ps.length*(k+1)
 |[],_=>by simp[sep]
 |[p],h=>by have:=h p (by simp);simp only[sep,AP,A5];omega
 |p::q::t,h=>by have a:=h p (by simp);have c:=R6 (b:=b) (ps:=q::t) (λx H=>h x (BP _ H));simp only[sep,AW,AP]at*;rw[Nat.add_mul,Nat.one_mul];omega
theorem T3{p:List Nat}{c:Nat}(h:c∉p):AA p c=0:=List.count_eq_zero.2 h
theorem Wd{b c k:Nat}(H:b≠c):∀{ps:List (List Nat)},(∀p∈ps,AA p c=k)->AA (sep b ps) c=ps.length*k
 |[],_=>by simp[sep,AA]
 |[p],h=>by have:=h p (by simp);simp only[sep,this,AP,A5];omega
 |p::q::t,h=>by have a:=h p (by simp);have e:=Wd H (ps:=q::t) (λx f=>h x (BP _ f));rw[sep,J0,Mf,a,e,if_neg H,show(p::q::t).length=(q::t).length+1 from rfl,Nat.add_mul];omega
theorem AB5{b:Nat}:∀{ps:List (List Nat)},(∀p∈ps,b∉p)->AA (sep b ps) b=ps.length-1
 |[],_=>by simp[sep,AA]
 |[p],h=>by have:=T3 (h p (by simp));simp only[sep,this,AP,A5]
 |p::q::t,h=>by have H:=T3 (h p (by simp));have a:=AB5 (ps:=q::t) (λx c=>h x (BP _ c));rw[sep,J0,Mf,H,a,if_pos rfl];simp only[AP];omega
theorem AGB{x:Int}:∀c∈AQ x,DV c=true\/(c=45/\x<0):=by intro c H;unfold AQ at H;split at H;rw[List.mem_singleton.1 H];exact .inl rfl;split at H;rename_i h;rcases A6.1 H with q|q;exact .inr ⟨q,h⟩;exact .inl (Sr _ q);exact .inl (Sr _ H)
theorem N2{x:Int}{c:Nat}(h:DV c=false)(H:c≠45):c∉AQ x:=by intro a;rcases AGB c a with q|q;rw[h]at q;cases q;exact H q.1
theorem Qm{x:Int}(h:0<=x):45∉AQ x:=by
 intro c;rcases AGB 45 c with q|q
 cases q;omega
theorem Nl{x:Int}{k:Nat}(h0:0<=x)(H:0<k)(h:x.toNat<10^k):(AQ x).length<=k:=by
 unfold AQ;split;exact H;rw[if_neg (by omega)];have e:x.natAbs=x.toNat:=by omega
 rw[e];exact N1 h
theorem Kg{x:Int}(h0:0<=x)(H:x<=9):AQ x=[48+x.toNat]:=by
 unfold AQ;split;rename_i h;rw[h];rfl;rename_i h;have e:Cd 0=[]:=by simp[Cd]
 have a:x.natAbs/10=0:=by omega
 have b:x.natAbs%10=x.toNat:=by omega
 rw[if_neg (by omega),Hf (by omega),a,e,b]<;>rfl
theorem AAM{b:Nat}{p q:List Nat}(a:b∉p)(c:b∉q):AO b (p++[b]++q)=[p,q]:=by
 have h:=Ru (b:=b) (ps:=[p,q]) (by simp) (by
  intro x H;simp only[A6,Di,or_false]at H;rcases H with rfl|rfl
  .exact a
  .exact c)
 simpa[sep]using h
theorem JC{f:List Nat->Bool}{l:List (List Nat)}{k m:Nat}(a:0<k)(g:l.length<=k*m)(h:∀j,j<m->((l.drop (k*j)).take k).all f=true):l.all f=true:=by refine Ao.2 λw b=>?_;obtain⟨i,hi,rfl⟩:=List.mem_iff_getElem.1 b;have H:i/k<m:=Nat.div_lt_of_lt_mul (by omega);refine Ao.1 (h _ H) _ (List.mem_iff_getElem.2 ⟨i%k,?_,?_⟩);have c:=Nat.mod_lt i a;have e:=Nat.div_add_mod i k;rw[List.length_take,List.length_drop];omega;rw[List.getElem_take,List.getElem_drop];congr 1;exact Nat.div_add_mod i k
theorem QV:(AI 7).length<=143*3:=of_decide_eq_true (by kernel_rfl)
theorem Of:(AI 8).length<=143*10:=of_decide_eq_true (by kernel_rfl)
theorem P9{f:List Nat->Bool}(a:BR 7 (λn=>(AI n).all f)=true)(b:(AI 7).all f=true)(c:(AI 8).all f=true){w:List Nat}(hd:AK w=true):f w=true:=by
 have H:=NN hd;have h:w∈AI (w.length/2):=(Y4 (by omega)).2 ⟨hd,by have:=H.1.2.1;omega⟩;rcases BQ (w.length/2) 7 with q|q;exact Ao.1 (BY a _ q) w h;have e:w.length/2=7\/w.length/2=8:=by omega
 rcases e with e|e;rw[e]at h;exact Ao.1 b w h;rw[e]at h;exact Ao.1 c w h
def Nt:Nat->List Nat->BT×List Nat
 |0,w=>(.lf,w)
 |f+1,w=>if w.headD 0=117 then(BT.nd (Nt f w.tail).1 (Nt f (Nt f w.tail).2.tail).1,(Nt f (Nt f w.tail).2.tail).2)else(.lf,w)
def C3(w:List Nat):BT:=(Nt w.length w).1
def Fy(w:List Nat):Nat->List Int×List Nat
 |0=>(rep (w.length:Nat) 0,[])
 |i+1=>if AH w i=117 then((Fy w i).1,i::(Fy w i).2)else(BE (BE (Fy w i).1 i ((Fy w i).2.headD 0:Nat)) ((Fy w i).2.headD 0:Nat) i,(Fy w i).2.tail)
def Ce(w:List Nat):List Int:=(Fy w w.length).1
theorem ZT{w:List Nat}(hd:DY w):∀{i:Nat},i<=w.length->PS w i (Fy w i).1 (Fy w i).2
 |0,_=>⟨by simp[Fy,SO,FI],by simp[Fy,rep],by simp⟩
 |i+1,h=>by
  have I:=ZT hd (i:=i) (by omega);rcases hd.ud i (by omega)with H|H;rw[Fy,if_pos H];exact APN I (by omega) H;rw[Fy,if_neg (by omega)];have s:=LP I.1;have e:=F0 (w:=w) (i:=i) (by omega) H;have a:=hd.h0 (i+1) (by omega)
  cases hst:(Fy w i).2 with
  |nil=>rw[hst]at s;simp only[A5]at s;omega
  |cons j t=>
   rw[hst]at I
   exact AL5 I (by omega) H
theorem My{w:List Nat}(f:AK w=true):E3 w=Ce w:=by
 have hd:=Af f;have h:=ZT hd (Nat.le_refl w.length);refine TU ⟨h.2.1,λa c=>?_⟩;obtain⟨H,g,b⟩:=h;refine b a c λq=>?_;have:=LP H;rw[hd.he]at this;have e:(Fy w w.length).2=[]:=Dy (by omega);rw[e]at q
 cases q
def Ed(w:List Nat):List Int:=DB (DO w (λa=>(ED w (AB (Ce w) a).toNat:Int)) w.length) (CV w w.length)
theorem S7{w:List Nat}(h:AK w=true):EB w=Ed w:=by rw[EB,Ed,My h]
end Go.Cat
