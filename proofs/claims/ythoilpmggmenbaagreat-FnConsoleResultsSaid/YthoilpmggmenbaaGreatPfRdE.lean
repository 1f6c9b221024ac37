/-
 Texts of objects, read back: what the readers make of the text of a path is that path.
-/
import Derived.Test.YthoilpmggmenbaaGreatPfTurn
set_option linter.unusedSimpArgs false
set_option linter.unusedVariables false
namespace Go.Cat
set_option maxRecDepth 100000
theorem Wd{b:Nat}:∀{ws:List (List Nat)}{x:List Nat},sep b (ws++[x])=sep b ws++(if 0<ws.length then [b]else [])++x
 |[],x=>by simp[sep]
 |[p],x=>by simp[sep]
 |p::q::t,x=>by have:=Wd (b:=b) (ws:=q::t) (x:=x);simp only[List.cons_append]at this;simp only[List.cons_append,sep];rw[this];simp
theorem AAG{b:Nat}{ws:List (List Nat)}:∀i,i<=ws.length->BC [b] ws i=sep b (ws.take i)
 |0,_=>by simp[BC,sep]
 |i+1,h=>by
  have l:(ws.take i).length=i:=by simp;omega
  rw[BC,AAG i (by omega),Rr (by omega),Wd,l]
theorem K8{b:Nat}{ws:List (List Nat)}:glue [b] ws=sep b ws:=by rw[glue,AAG _ (Nat.le_refl _),List.take_length]
theorem PW{b k:Nat}:∀{ps:List (List Nat)},(∀p∈ps,p.length<=k)->(sep b ps).length<=ps.length*(k+1)
 |[],_=>by simp[sep]
 |[p],h=>by have:=h p (by simp);simp only[sep,AO,Aa];omega
 |p::q::t,h=>by have a:=h p (by simp);have c:=PW (b:=b) (ps:=q::t) (λx H=>h x (BL _ H));simp only[sep,AZ,AO]at*;rw[Nat.add_mul,Nat.one_mul];omega
theorem Pn{p:List Nat}{c:Nat}(h:c∉p):AA p c=0:=List.count_eq_zero.2 h
theorem Tw{b c k:Nat}(H:b≠c):∀{ps:List (List Nat)},(∀p∈ps,AA p c=k)->AA (sep b ps) c=ps.length*k
 |[],_=>by simp[sep,AA]
 |[p],h=>by have:=h p (by simp);simp only[sep,this,AO,Aa];omega
 |p::q::t,h=>by have a:=h p (by simp);have e:=Tw H (ps:=q::t) (λx f=>h x (BL _ f));rw[sep,IM,MC,a,e,if_neg H,show(p::q::t).length=(q::t).length+1 from rfl,Nat.add_mul];omega
theorem XJ{b:Nat}:∀{ps:List (List Nat)},(∀p∈ps,b∉p)->AA (sep b ps) b=ps.length-1
 |[],_=>by simp[sep,AA]
 |[p],h=>by have:=Pn (h p (by simp));simp only[sep,this,AO,Aa]
 |p::q::t,h=>by have H:=Pn (h p (by simp));have a:=XJ (ps:=q::t) (λx c=>h x (BL _ c));rw[sep,IM,MC,H,a,if_pos rfl];simp only[AO];omega
theorem XI{x:Int}:∀c∈AN x,Dm c=true\/(c=45/\x<0):=by intro c H;unfold AN at H;split at H;rw[List.mem_singleton.1 H];exact .inl rfl;split at H;rename_i h;rcases AY.1 H with q|q;exact .inr ⟨q,h⟩;exact .inl (QS _ q);exact .inl (QS _ H)
theorem L8{x:Int}{c:Nat}(h:Dm c=false)(H:c≠45):c∉AN x:=by intro a;rcases XI c a with q|q;rw[h]at q;cases q;exact H q.1
theorem Ox{x:Int}(h:0<=x):45∉AN x:=by
 intro c;rcases XI 45 c with q|q
 cases q;omega
theorem La{x:Int}{k:Nat}(h0:0<=x)(H:0<k)(h:x.toNat<10^k):(AN x).length<=k:=by
 unfold AN;split;exact H;rw[if_neg (by omega)];have e:x.natAbs=x.toNat:=by omega
 rw[e];exact Ld h
theorem JH{x:Int}(h0:0<=x)(H:x<=9):AN x=[48+x.toNat]:=by
 unfold AN;split;rename_i h;rw[h];rfl;rename_i h;have e:CQ 0=[]:=by simp[CQ]
 have a:x.natAbs/10=0:=by omega
 have b:x.natAbs%10=x.toNat:=by omega
 rw[if_neg (by omega),GW (by omega),a,e,b]<;>rfl
theorem YA{b:Nat}{p q:List Nat}(a:b∉p)(c:b∉q):Ag b (p++[b]++q)=[p,q]:=by
 have h:=Of (b:=b) (ps:=[p,q]) (by simp) (by
  intro x H;simp only[AY,Cy,or_false]at H;rcases H with rfl|rfl
  .exact a
  .exact c)
 simpa[sep]using h
theorem H5{f:List Nat->Bool}{l:List (List Nat)}{k m:Nat}(a:0<k)(g:l.length<=k*m)(h:∀j,j<m->((l.drop (k*j)).take k).all f=true):l.all f=true:=by refine Aj.2 λw b=>?_;obtain⟨i,hi,rfl⟩:=List.mem_iff_getElem.1 b;have H:i/k<m:=Nat.div_lt_of_lt_mul (by omega);refine Aj.1 (h _ H) _ (List.mem_iff_getElem.2 ⟨i%k,?_,?_⟩);have c:=Nat.mod_lt i a;have e:=Nat.div_add_mod i k;rw[List.length_take,List.length_drop];omega;rw[List.getElem_take,List.getElem_drop];congr 1;exact Nat.div_add_mod i k
theorem Nd:(AG 7).length<=143*3:=of_decide_eq_true (by kernel_rfl)
theorem Mx:(AG 8).length<=143*10:=of_decide_eq_true (by kernel_rfl)
theorem NP{f:List Nat->Bool}(a:BH 7 (λn=>(AG n).all f)=true)(b:(AG 7).all f=true)(c:(AG 8).all f=true){w:List Nat}(hd:AK w=true):f w=true:=by
 have H:=Lg hd;have h:w∈AG (w.length/2):=(Vc (by omega)).2 ⟨hd,by have:=H.1.2.1;omega⟩;rcases B7 (w.length/2) 7 with q|q;exact Aj.1 (BQ a _ q) w h;have e:w.length/2=7\/w.length/2=8:=by omega
 rcases e with e|e;rw[e]at h;exact Aj.1 b w h;rw[e]at h;exact Aj.1 c w h
def Lr:Nat->List Nat->BT×List Nat
 |0,w=>(.lf,w)
 |f+1,w=>if w.headD 0=117 then(BT.nd (Lr f w.tail).1 (Lr f (Lr f w.tail).2.tail).1,(Lr f (Lr f w.tail).2.tail).2)else(.lf,w)
def CP(w:List Nat):BT:=(Lr w.length w).1
def FZ(w:List Nat):Nat->List Int×List Nat
 |0=>(rep (w.length:Nat) 0,[])
 |i+1=>if AI w i=117 then((FZ w i).1,i::(FZ w i).2)else(B9 (B9 (FZ w i).1 i ((FZ w i).2.headD 0:Nat)) ((FZ w i).2.headD 0:Nat) i,(FZ w i).2.tail)
def C1(w:List Nat):List Int:=(FZ w w.length).1
theorem AG4{w:List Nat}(hd:DY w):∀{i:Nat},i<=w.length->PS w i (FZ w i).1 (FZ w i).2
 |0,_=>⟨by simp[FZ,SO,Ef],by simp[FZ,rep],by simp⟩
 |i+1,h=>by
  have I:=AG4 hd (i:=i) (by omega);rcases hd.ud i (by omega)with H|H;rw[FZ,if_pos H];exact AIT I (by omega) H;rw[FZ,if_neg (by omega)];have s:=K2 I.1;have e:=Ej (w:=w) (i:=i) (by omega) H;have a:=hd.h0 (i+1) (by omega)
  cases hst:(FZ w i).2 with
  |nil=>rw[hst]at s;simp only[Aa]at s;omega
  |cons j t=>
   rw[hst]at I
   exact ACG I (by omega) H
theorem Kj{w:List Nat}(f:AK w=true):Ds w=C1 w:=by
 have hd:=A8 f;have h:=AG4 hd (Nat.le_refl w.length);refine PT ⟨h.2.1,λa c=>?_⟩;obtain⟨H,g,b⟩:=h;refine b a c λq=>?_;have:=K2 H;rw[hd.he]at this;have e:(FZ w w.length).2=[]:=Dd (by omega);rw[e]at q
 cases q
def Dw(w:List Nat):List Int:=Cq (Cr w (λa=>(D8 w (AB (C1 w) a).toNat:Int)) w.length) (CD w w.length)
theorem PJ{w:List Nat}(h:AK w=true):De w=Dw w:=by rw[De,Dw,Kj h]
end Go.Cat
