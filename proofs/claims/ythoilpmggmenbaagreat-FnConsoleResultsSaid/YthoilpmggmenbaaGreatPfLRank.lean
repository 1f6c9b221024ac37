/-
 Paths by rank: the law.
-/
import Derived.Test.YthoilpmggmenbaaGreatPfRdE2
import Derived.Test.YthoilpmggmenbaaGreatPfRdE4
import Derived.Test.YthoilpmggmenbaaGreatPfRdE6
import Derived.Test.YthoilpmggmenbaaGreatPfRdE7
set_option linter.unusedSimpArgs false
set_option linter.unusedVariables false
namespace Go.Cat
variable{K:Nat->List D->List D->Prop}
set_option maxRecDepth 100000
theorem Ys{a b:Int}(h:DE a b=true):AK (Ea a b)=true/\Bu (Ea a b)=b/\FQ (Ea a b)=a/\(Ea a b).length<=16:=by
 have H:0<=a/\a<=8/\0<=b/\b<bw a.toNat a.toNat:=by simpa[DE]using h
 obtain⟨n,rfl⟩:=CZ H.1;obtain⟨k,rfl⟩:=CZ H.2.2.1;simp only[BM]at H;have c:k<bw n n:=by omega
 obtain⟨⟨f,g,G⟩,e⟩:=SX (n+n) n n k (by omega) rfl c;rw[Qg (by omega) c];have hd:AK (Cv (n+n) n n k)=true:=by simp only[AK,AU,Ad];exact⟨by rw[<-G];congr 1;omega,by omega⟩
 refine⟨hd,?_,?_,by omega⟩;simp only[Bu,hd,if_true,g];rw[show(n+n)/2=n by omega,e];simp only[FQ,hd,if_true,g];omega
theorem Xz{a b:Int}:(Ea a b).length<=16:=by cases h:DE a b;rw[LD h];simp;exact(Ys h).2.2.2
theorem ARE{w:List Nat}(h:AK w=true):∃n r:Nat,w.length=2*n/\n<=8/\Bu w=r/\FQ w=n/\r<bw n n/\Ea n r=w/\DE n r=true:=by obtain⟨g,l⟩:=Lg h;obtain⟨q,Q⟩:=Og w _ _ g;have G:=g.2.1;refine⟨w.length/2,DT w (w.length/2) (w.length/2),by omega,by omega,by simp[Bu,h],by simp only[FQ,h,if_true];omega,q,?_,OV (by omega) q⟩;rw[Qg (by omega) q,Q]
end Go.Cat
namespace Go.Cat
set_option maxRecDepth 100000
variable{K:Nat->List D->List D->Prop}
theorem BT.Vy:∀{x y:BT}{a b:List Nat},x.t++a=y.t++b->x=y/\a=b
 |.lf,.lf,a,b,h=>by simpa[BT.t]using h
 |.lf,.nd _ _,a,b,h=>by simp[BT.t]at h
 |.nd _ _,.lf,a,b,h=>by simp[BT.t]at h
 |.nd l r,.nd L R,a,b,h=>by simp only[BT.t,List.cons_append,CE,List.cons.injEq,true_and,List.nil_append]at h;obtain⟨c,e⟩:=BT.Vy h;obtain⟨f,H⟩:=BT.Vy e;subst c;subst f;simp only[List.cons.injEq,true_and]at H;exact⟨rfl,H⟩
theorem BT.tinj{x y:BT}(h:x.t=y.t):x=y:=(BT.Vy (a:=[]) (b:=[]) (by rw[h])).1
open Classical in
noncomputable def HY(s:List Nat):List Nat:=if h:∃x:BT,x.n<=8/\s=x.t then h.choose.p else []
theorem S7{x:BT}(h:x.n<=8):HY x.t=x.p:=by have e:∃y:BT,y.n<=8/\x.t=y.t:=⟨x,h,rfl⟩;simp only[HY,dif_pos e];rw[<-BT.tinj e.choose_spec.2]
theorem ACU{s:List Nat}(h:Bq s=false):HY s=[]:=by
 have:¬∃x:BT,x.n<=8/\s=x.t:=by rintro⟨x,H,rfl⟩;rw[FO H]at h;cases h
 simp only[HY,dif_neg this]
theorem ATK[HA K]{s:List Nat}:K 560 [.s s] [.s (HY s),.b (Bq s)]:=by cases h:Bq s;rw[ACU h];exact Aa9 h;obtain⟨x,rfl,H⟩:=GF h;rw[S7 H];exact AQG H
def PO(s:List Nat):Bool:=Gn (Ag 58 s)&&decide ((EW (Ag 58 s)).length=2)
def K0(s:List Nat):List Int:=s.map λ(c:Nat)=>(c:Int)-49
noncomputable def EU:Nat->List Nat->List Nat
 |0,s=>s
 |1,s=>Gv s
 |2,s=>if CY (EW (Ag 44 s))=true then Ml (EW (Ag 44 s))else []
 |3,s=>HY s
 |4,s=>Oc s
 |5,s=>IX (M7 s)
 |6,s=>Hp (JL s)
 |7,s=>Rj (K0 s)
 |8,s=>if PO s=true then Ea (AB (EW (Ag 58 s)) 0) (AB (EW (Ag 58 s)) 1)else []
 |_,_=>[]
noncomputable def JG:Nat->List Nat->Bool
 |0,s=>AK s
 |1,s=>Hy s
 |2,s=>CY (EW (Ag 44 s))&&Gn (Ag 44 s)
 |3,s=>Bq s
 |4,s=>ABQ s
 |5,s=>Fp (M7 s)&&AAO s
 |6,s=>EG (JL s)&&AIF s
 |7,s=>Qk (K0 s)
 |8,s=>PO s&&DE (AB (EW (Ag 58 s)) 0) (AB (EW (Ag 58 s)) 1)
 |_,_=>false
theorem X9{w:List Nat}(hd:AK w=true):Ag 58 (A9 w 8)=[AN ((w.length/2:Nat):Int),AN (Bu w)]/\(0<=Bu w/\Bu w<=1430)/\DE ((w.length/2:Nat):Int) (Bu w)=true/\Ea ((w.length/2:Nat):Int) (Bu w)=w/\(A9 w 8).length<=100:=by
 obtain⟨n,r,c,f,h,g,i,H,b⟩:=ARE hd;have j:=J5 hd;have e:w.length/2=n:=by omega
 have a:(w.length:Int)/2=(n:Int):=by omega
 rw[e,A9,a];refine⟨YA (L8 rfl (by omega)) (L8 rfl (by omega)),by omega,by rw[h];exact b,by rw[h];exact H,?_⟩;have l:=La (x:=(n:Int)) (k:=2) (by omega) (by omega) (by omega);have o:=La (x:=Bu w) (k:=4) (by omega) (by omega) (by omega);simp only[AZ,AO,Aa];omega
theorem PU{w:List Nat}(hd:AK w=true):∀i:Nat,i<9->JG i (A9 w i)=true/\EU i (A9 w i)=w/\(A9 w i).length<=100
 |0,_=>by
  have e:=(A8 hd).l
  exact⟨hd,rfl,by simp only[A9];omega⟩
 |1,_=>by
  have e:=(A8 hd).l
  obtain⟨H,a⟩:=AOE hd
  have:=M6 (w:=w)
  exact⟨H,a,by simp only[A9];omega⟩
 |2,_=>by
  obtain⟨⟨H,a⟩,⟨b,c⟩,_,k⟩:=AHE hd
  refine⟨?_,?_,k⟩
  simp only[JG,H,a,b,Bool.and_self]
  simp only[EU,a,b,c,if_true]
 |3,_=>by
  obtain⟨x,rfl,j⟩:=Hq hd
  have:=BT.tl x
  refine⟨?_,?_,?_⟩
  simp only[A9,JG,GO,FO j]
  simp only[A9,EU,GO,S7 j]
  simp only[A9,GO];omega
 |4,_=>by
  obtain⟨H,_,b⟩:=AHT hd
  refine⟨?_,?_,b⟩
  simp only[JG,ABQ,H,Option.isSome_some]
  simp only[EU,Oc,H,Option.getD_some]
 |5,_=>by
  obtain⟨H,⟨a,b⟩,_,c⟩:=ANU hd
  refine⟨?_,?_,c⟩
  simp only[JG,AAO,M7,H,a,Option.isSome_some,Option.getD_some,Bool.and_self]
  simp only[EU,M7,H,b,Option.getD_some]
 |6,_=>by
  obtain⟨H,⟨a,b⟩,_,c⟩:=ACX hd
  refine⟨?_,?_,c⟩
  simp only[JG,AIF,JL,H,a,Option.isSome_some,Option.getD_some,Bool.and_self]
  simp only[EU,JL,H,b,Option.getD_some]
 |7,_=>by
  have e:=(A8 hd).l
  obtain⟨H,⟨a,b⟩,c⟩:=XQ hd
  refine⟨?_,?_,by omega⟩
  simp only[JG,K0,H,a]
  simp only[EU,K0,H,b]
 |8,_=>by
  have e:=(A8 hd).l
  obtain⟨H,q,a,b,c⟩:=X9 hd
  have o:0<=((w.length/2:Nat):Int)/\((w.length/2:Nat):Int)<=8:=by omega
  generalize ((w.length/2:Nat):Int)=m at H a b o
  have O:Gn [AN m,AN (Bu w)]=true:=by
   simp[Gn,JU (n:=m) (by omega),JU (n:=Bu w) (by omega)]
  have R:EW [AN m,AN (Bu w)]=[m,Bu w]:=by
   rw[EW,if_pos O];simp[NI]
  have N:PO (A9 w 8)=true:=by simp only[PO,H,O,R];rfl
  have f:AB [m,Bu w] 0=m:=rfl
  have g:AB [m,Bu w] 1=Bu w:=rfl
  refine⟨?_,?_,c⟩
  simp only[JG,N,H,R,f,g,a,Bool.and_self]
  simp only[EU,N,H,R,f,g,b,if_true]
 |i+9,h=>absurd h (by omega)
theorem AW9{w v:List Nat}(c:AK w=true)(b:AK v=true){i:Nat}(hi:i<9)(h:A9 w i=A9 v i):w=v:=by have H:=(PU c i hi).2.1;have a:=(PU b i hi).2.1;rw[<-H,h,a]
open Classical in
noncomputable def HC(k s:List Nat):Option (List Nat):=if h:∃w,AK w=true/\BP k<9/\A9 w (BP k)=s then some h.choose else none
theorem ASM{k w:List Nat}(hd:AK w=true)(h:BP k<9):HC k (A9 w (BP k))=some w:=by have e:∃v,AK v=true/\BP k<9/\A9 v (BP k)=A9 w (BP k):=⟨w,hd,h,rfl⟩;simp only[HC,dif_pos e];rw[AW9 e.choose_spec.1 hd h e.choose_spec.2.2]
theorem ZY{k s w:List Nat}(h:HC k s=some w):AK w=true/\BP k<9/\A9 w (BP k)=s:=by
 unfold HC at h;split at h;rename_i e;injection h with h;rw[<-h];exact e.choose_spec
 cases h
theorem AY2{k s:List Nat}(h:∀w,AK w=true->BP k<9->A9 w (BP k)≠s):HC k s=none:=by
 cases e:HC k s with
 |none=>rfl
 |some w=>
  obtain⟨H,a,b⟩:=ZY e
  exact absurd b (h w H a)
noncomputable def Dy(k s:List Nat):Bool:=(HC k s).isSome
noncomputable def E1(k s:List Nat):List Nat:=(HC k s).getD []
theorem WZ{k w:List Nat}(hd:AK w=true)(h:BP k<9):Dy k (A9 w (BP k))=true/\E1 k (A9 w (BP k))=w:=by simp[Dy,E1,ASM hd h]
theorem Wc{k s:List Nat}(h:Dy k s=true):AK (E1 k s)=true/\BP k<9/\A9 (E1 k s) (BP k)=s:=by
 unfold Dy E1 at*
 cases e:HC k s with
 |none=>rw[e]at h;cases h
 |some w=>exact ZY e
theorem Yw{k s:List Nat}(h:∀w,AK w=true->BP k<9->A9 w (BP k)≠s):Dy k s=false/\E1 k s=[]:=by simp[Dy,E1,AY2 h]
theorem AZN{k s T:List Nat}(i:∀w,AK w=true->BP k<9->A9 w (BP k)=s->T=w):Dy k s=(EZ k T&&(ET k T==s))/\(Dy k s=true->E1 k s=T)/\(Dy k s=false->E1 k s=[]):=by
 cases hO:Dy k s;refine⟨?_,(λh=>by cases h),(λ_=>?_)⟩
 cases H:EZ k T;rfl
 cases q:ET k T==s;rfl;exfalso;simp only[EZ,AU,Ad]at H;have e:ET k T=A9 T (BP k):=by simp[ET,EZ,H.1,H.2]
 rw[e,beq_iff_eq]at q;have:=(WZ H.1 H.2).1;rw[q,hO]at this;cases this;unfold Dy at hO;unfold E1
 cases e:HC k s with
 |none=>rfl
 |some w=>rw[e]at hO;cases hO
 obtain⟨b,c,f⟩:=Wc hO;have e:=i _ b c f;have a:EZ k T=true:=by rw[e];simp[EZ,b,c]
 refine⟨?_,(λ_=>e.symm),(λh=>by cases h)⟩;have g:ET k T=s:=by simp only[ET,a,if_true];rw[e];exact f
 rw[a,g];simp
theorem Aa4{s:List Nat}:(JL s).length<=2*(s.length+1):=by
 have hX:∀(n:Int)(t:List (List Int))(p:List Int){q:List Int},Js n t p=some q->q.length=p.length:=by
  intro n t;induction t with
  |nil=>intro p q h;simp only[Js,AL]at h;rw[h]
  |cons c t i=>
   intro p q h
   rw[Js]at h
   split at h
   .have:=i _ h
    rwa [DD,DD]at this
   .cases h
 have H:=(Jg (b:=32) (s:=s) (acc:=[])).2;unfold JL NT;split;simp;split
 cases e:Js (2*(Ag 32 s).length:Nat) ((Ag 32 s).map Qq) (List.replicate (2*(Ag 32 s).length) 0)with
 |none=>simp
 |some q=>
  have:=hX _ _ _ e
  simp only[List.length_replicate,Ag]at this
  simp only[Option.getD_some];omega
 simp
theorem AFS:∀{st:List Int}{n:Int},(Hd st n).1.length+(Hd st n).2.1.length=st.length
 |[],_=>rfl
 |y::st,n=>by have i:=AFS (st:=st) (n:=n+1);unfold Hd;split;simp only[AO];omega;simp
theorem ABW:∀{p st:List Int}{n:Int},(M8 p st n).length<=2*p.length+st.length
 |[],_,_=>by simp[M8]
 |x::p,st,n=>by have h:=AFS (st:=x::st) (n:=n);have H:=ABW (p:=p) (st:=(Hd (x::st) n).2.1) (n:=(Hd (x::st) n).2.2);simp only[M8,AO,AZ]at *;omega
theorem AdI{s:List Nat}:(Oc s).length<=16:=by unfold Oc NN;split;rename_i h;have H:=AJH h.2.2;have:=BT.pl (Je (pR (s.take (Gp s))) (P2 (s.drop (Gp s+2))));simp only[Option.getD_some];omega;simp
theorem AdD{s:List Nat}:(HY s).length<=16:=by cases h:Bq s;rw[ACU h];simp;obtain⟨x,rfl,H⟩:=GF h;have:=BT.pl x;rw[S7 H];omega
theorem AUA{p:List Int}(h:CY p=true):(Ml p).length<=200:=by
 obtain⟨⟨a,c⟩,H⟩:=AVY h;have b:∀k:Nat,k<=p.length-1->0<=AB (ES p p.length) k/\AB (ES p p.length) k<=9:=by intro k f;have:=AcU H (i:=p.length) (k:=k) (by omega) (by omega);omega
 have G:=AEU b (Nat.le_refl _);have g:=b (p.length-1) (by omega);have e:((p.length-1:Nat):Int)=(p.length:Int)-1:=by omega
 rw[e]at g;simp only[Ml,AZ,List.length_replicate];omega
theorem AQK{p:List Int}(h:CJ p=true)(j:Nat):(AF (Ak p p.length) (AB p j)).length<=8:=by
 by_cases q:(AB p j).toNat<(Ak p p.length).length;have e:Ak p p.length=Br p:=by simp[Br,h]
 have H:AF (Ak p p.length) (AB p j)∈Br p:=by rw[<-e];simp[AF,q]
 exact(P1 H).1;have:AF (Ak p p.length) (AB p j)=[]:=by simp[AF,Nat.le_of_not_lt q]
 rw[this];simp
theorem AWL{p:List Int}:(IX p).length<=200:=by unfold IX;split;rename_i h;simp only[Fp,AU]at h;have H:=AL3 h.1;have:=VW (p:=p) (b:=Ak p p.length) (λj _=>AQK h.1 j) (Nat.le_refl _);omega;simp
theorem Ti{s:List Nat}(h:s.length<=1048576):∀i:Nat,(EU i s).length<=1000000000
 |0=>by simp only[EU];omega
 |1=>by have:=ABA (s:=s);simp only[EU,Gv];split;omega;simp
 |2=>by simp only[EU];split;rename_i h;have:=AUA h;omega;simp
 |3=>by have:=AdD (s:=s);simp only[EU];omega
 |4=>by have:=AdI (s:=s);simp only[EU];omega
 |5=>by have:=AWL (p:=M7 s);simp only[EU];omega
 |6=>by have:=Aa4 (s:=s);have H:=Sv (m:=JL s) (JL s).length;simp only[EU,Hp];split;omega;simp
 |7=>by
  have:=ABW (p:=K0 s) (st:=[]) (n:=0);have e:(K0 s).length=s.length:=by simp[K0]
  simp only[EU,Rj];split;simp only[Aa]at this;omega;simp
 |8=>by simp only[EU];split;have:=Xz (a:=AB (EW (Ag 58 s)) 0) (b:=AB (EW (Ag 58 s)) 1);omega;simp
 |i+9=>by simp[EU]
def Ja:Nat->List Nat->Int
 |2,s=>AA s 44
 |4,s=>pR (AH (Ag 58 s) 0)-2
 |5,s=>(s.length:Int)-AA s 124
 |6,s=>AA s 45
 |7,s=>s.length
 |_,_=>-1
theorem AU1{w:List Nat}(hd:AK w=true):∀i:Nat,(i=2\/i=4\/i=5\/i=6\/i=7)->Ja i (A9 w i)=((w.length/2:Nat):Int):=by
 have H:=(A8 hd).l;rintro i (rfl|rfl|rfl|rfl|rfl);have:=(AHE hd).2.2.1;simp only[Ja];omega;obtain⟨_,⟨r,h⟩,_⟩:=AHT hd;have e:AH (Ag 58 (A9 w 4)) 0=AN (((w.length/2:Nat):Int)+2):=by rw[h];rfl
 simp only[Ja,e,N7 (n:=((w.length/2:Nat):Int)+2) (by omega)];omega;have:=(ANU hd).2.2.1;simp only[Ja];omega;have:=(ACX hd).2.2.1;simp only[Ja];omega;have:=(XQ hd).2.2;simp only[Ja];omega
theorem szi[HA K]{s:List Nat}(h:s.length<=1048576):∀i:Nat,(i=2\/i=4\/i=5\/i=6\/i=7)->K 563 [.s (AH BK i),.s s] [.n (Ja i s)]:=by
 have a:=λc=>Nt (w:=s) (c:=c);rintro i (rfl|rfl|rfl|rfl|rfl)
 .show K 563 [.s [112,108,97,110,101],.s s] [.n (AA s 44)];refine qb Lp ?_;simp(disch:=omega) only[AD,BA,Ax,Ay];refine cB (TN (by omega)) ?_;simp(disch:=omega) only[AD,BA,Ax,Ay];try rfl
 .have H:=Jg (b:=58) (s:=s) (acc:=[]);have l:(AH (Ag 58 s) 0).length<=s.length:=by have:=Ib (ws:=Ag 58 s) (b:=s.length) (i:=0) (λp f=>by have:=OD f;simp only[Aa]at this;omega);exact this
  have k:=PI (K:=K) (s:=AH (Ag 58 s) 0) (by omega);have g:=AbA (s:=AH (Ag 58 s) 0);have e:0<(Ag 58 s).length:=H.1;show K 563 [.s [100,105,97,103,111,110,97,108,115],.s s] [.n (pR (AH (Ag 58 s) 0)-2)];refine qb Lp ?_;simp(disch:=omega) only[AD,BA,Ax,Ay];refine cB (No (by omega)) ?_;simp(disch:=omega) only[AD,BA,Ax,Ay];refine cB k ?_;simp(disch:=omega) only[AD,BA,Ax,Ay];try rfl
 .have:=a 124;show K 563 [.s [112,97,114,116,105,116,105,111,110],.s s] [.n ((s.length:Int)-AA s 124)];refine qb Lp ?_;simp(disch:=omega) only[AD,BA,Ax,Ay];refine cB (TN (by omega)) ?_;simp(disch:=omega) only[AD,BA,Ax,Ay];try rfl
 .show K 563 [.s [109,97,116,99,104,105,110,103],.s s] [.n (AA s 45)];refine qb Lp ?_;simp(disch:=omega) only[AD,BA,Ax,Ay];refine cB (TN (by omega)) ?_;simp(disch:=omega) only[AD,BA,Ax,Ay];try rfl
 show K 563 [.s [112,101,114,109,117,116,97,116,105,111,110],.s s] [.n s.length];refine qb Lp ?_;simp(disch:=omega) only[AD,BA,Ax,Ay];try rfl
theorem ATL[HA K]{k s:List Nat}(h:¬BP k<9):K 563 [.s k,.s s] [.n (-1)]:=by have o:=λ(x:List Nat)(H:x∈BK)=>TB h H;have q:=o [112,108,97,110,101] (by simp[BK]);have Q:=o [100,105,97,103,111,110,97,108,115] (by simp[BK]);have a:=o [112,97,114,116,105,116,105,111,110] (by simp[BK]);have b:=o [109,97,116,99,104,105,110,103] (by simp[BK]);have c:=o [112,101,114,109,117,116,97,116,105,111,110] (by simp[BK]);refine qb Lp ?_;simp(disch:=omega) only[AD,q,Q,a,b,c,BA,Ax,Ay];try rfl
theorem AMN[HA K]{k s:List Nat}{n:Int}(O:s.length<=1048576)
  (Q:(k==[112,97,116,104])=false) (I:(k==[98,114,97,99,107,101,116,115])=false) (J:(k==[98,105,110,97,114,121])=false) (L:(k==[114,97,110,107])=false)
  (ks:K 563 [.s k,.s s] [.n n]) (q:∀w,AK w=true->BP k<9->A9 w (BP k)=s->n=((w.length/2:Nat):Int)) (C:0<=n->BP k<9):
  K 548 [.s k,.s s] [.s (E1 k s),.b (Dy k s)]:=by
 refine qb Kz ?_;simp(disch:=omega) only[AD,Q,I,J,L,BA,Ax,Ay];refine cB ks ?_;simp(disch:=omega) only[AD,BA,Ax,Ay];refine cB CN ?_
 cases hi:A4 0 8 n
 .have hi:=I3.1 hi;obtain⟨a,c⟩:=Yw (k:=k) (s:=s) (λw H g f=>by have:=q w H g f;have:=(A8 H).l;omega);rw[a,c];simp(disch:=omega) only[AD,BA,Ax,Ay];try rfl
 .have hi:=Af.1 hi;have o:=C hi.1;obtain⟨m,rfl⟩:=CZ hi.1;have R:=Aa6 (n:=m) (by omega);simp(disch:=omega) only[AD,BA,Ax,Ay];refine cB (Aa8 (by omega)) ?_;simp(disch:=omega) only[AD,BA,Ax,Ay];refine AR (λi=>∀x∈(AG m).take i,A9 x (BP k)≠s) (λi=>[.s k,.s s,.u,.u,.u,.u,.u,.u,.u,.u,.u,.u,.u,.u,.u,LS (AG m),.n (AG m).length,.n i,.u,.u,.u,.u,.u,.u,.u,.u]) (AG m).length (by simp) rfl (λi hi P=>?_) (λP=>?_)
  .obtain⟨hd,F⟩:=(Vc (n:=m) (w:=AH (AG m) i) (by omega)).1 (by simp[AH,hi]);have j:=V3 (K:=K) (k:=k) (w:=AH (AG m) i) (by omega);have e:ET k (AH (AG m) i)=A9 (AH (AG m) i) (BP k):=by simp[ET,EZ,hd,o]
   rw[e]at j
   cases hq:A9 (AH (AG m) i) (BP k)==s
   .refine wW ?_;refine cB j ?_;simp(disch:=omega) only[AD,hq,BA,Ax,Ay];intro x B;rw[Rr hi]at B;rcases Ac.1 B with h|h
    .exact P x h
    .rw[List.mem_singleton.1 h];exact beq_eq_false_iff_ne.1 hq
   .have G:=beq_iff_eq.1 hq;obtain⟨a,c⟩:=WZ (k:=k) hd o;rw[G]at a c;rw[a,c];simp(disch:=omega) only[AD,BA,Ax,Ay];refine cB j ?_;simp(disch:=omega) only[AD,hq,BA,Ax,Ay];try rfl
  .rw[List.take_length]at P;obtain⟨a,c⟩:=Yw (k:=k) (s:=s) (λw H g f=>by have M:=q w H g f;have N:=(Lg H).1.2.1;exact P w ((Vc (by omega)).2 ⟨H,by omega⟩) f);rw[a,c];simp(disch:=omega) only[AD,BA,Ax,Ay];try rfl
noncomputable def Eh:Nat->List Nat->List Nat
 |0,s=>s
 |1,s=>Gv s
 |3,s=>HY s
 |8,s=>if(Ag 58 s).length=2 then Ea (pR (AH (Ag 58 s) 0)) (pR (AH (Ag 58 s) 1))else []
 |_,_=>[]
theorem Ac4{w:List Nat}(hd:AK w=true):∀i:Nat,(i=0\/i=1\/i=3\/i=8)->Eh i (A9 w i)=w:=by rintro i (rfl|rfl|rfl|rfl);rfl;exact(PU hd 1 (by omega)).2.1;exact(PU hd 3 (by omega)).2.1;have g:=(A8 hd).l;obtain⟨h,f,c,H,e⟩:=X9 hd;have a:AH [AN ((w.length/2:Nat):Int),AN (Bu w)] 0=AN ((w.length/2:Nat):Int):=rfl;have b:AH [AN ((w.length/2:Nat):Int),AN (Bu w)] 1=AN (Bu w):=rfl;simp only[Eh,h,a,b];rw[if_pos (show [AN ((w.length/2:Nat):Int),AN (Bu w)].length=2 from rfl),N7 (by omega),N7 (by omega),H]
theorem AUI{s:List Nat}(h:s.length<=1048576):∀i:Nat,(i=0\/i=1\/i=3\/i=8)->(Eh i s).length<=1000000000:=by rintro i (rfl|rfl|rfl|rfl);exact Ti h 0;exact Ti h 1;exact Ti h 3;simp only[Eh];split;have:=Xz (a:=pR (AH (Ag 58 s) 0)) (b:=pR (AH (Ag 58 s) 1));omega;simp
theorem AVP[HA K]{s:List Nat}(B:s.length<=1048576):∀i:Nat,(i=0\/i=1\/i=3\/i=8)->K 548 [.s (AH BK i),.s s] [.s (E1 (AH BK i) s),.b (Dy (AH BK i) s)]:=by
 intro i hi;have f:=YN i (by omega);have x:=AUI B i hi;obtain⟨g,G,j⟩:=AZN (k:=AH BK i) (s:=s) (T:=Eh i s) (λw q h l=>by rw[f]at l;rw[<-l];exact Ac4 q i hi);have a:=V3 (K:=K) (k:=AH BK i) (w:=Eh i s) x;have fin:E1 (AH BK i) s=if(EZ (AH BK i) (Eh i s)&&(ET (AH BK i) (Eh i s)==s))=true then Eh i s else []:=by cases hO:Dy (AH BK i) s;rw[<-g,hO];exact j hO;rw[<-g,hO];exact G hO
 rw[fin,g];clear g G j fin f;generalize EZ (AH BK i) (Eh i s)=o at*;generalize ET (AH BK i) (Eh i s)=r at*;rcases hi with rfl|rfl|rfl|rfl
 .have a:K 524 [.s [112,97,116,104],.s s] [.s r,.b o]:=a;show K 548 [.s [112,97,116,104],.s s] [.s (if(o&&(r==s))=true then s else []),.b (o&&(r==s))];refine qb Kz ?_;simp(disch:=omega) only[AD,BA,Ax,Ay];refine cB a ?_
  cases o;exact wZ
  cases hq:r==s
  .simp(disch:=omega) only[AD,hq];try rfl
  simp(disch:=omega) only[AD,hq];try rfl
 .have a:K 524 [.s [98,114,97,99,107,101,116,115],.s (Gv s)] [.s r,.b o]:=a;show K 548 [.s [98,114,97,99,107,101,116,115],.s s] [.s (if(o&&(r==s))=true then Gv s else []),.b (o&&(r==s))];refine qb Kz ?_;simp(disch:=omega) only[AD,BA,Ax,Ay];refine cB (ARF (by omega)) ?_;simp(disch:=omega) only[AD,BA,Ax,Ay];refine cB a ?_
  cases o;exact wZ
  cases hq:r==s
  .simp(disch:=omega) only[AD,hq];try rfl
  simp(disch:=omega) only[AD,hq];try rfl
 .have a:K 524 [.s [98,105,110,97,114,121],.s (HY s)] [.s r,.b o]:=a;show K 548 [.s [98,105,110,97,114,121],.s s] [.s (if(o&&(r==s))=true then HY s else []),.b (o&&(r==s))];refine qb Kz ?_;simp(disch:=omega) only[AD,BA,Ax,Ay];refine cB ATK ?_;simp(disch:=omega) only[AD,BA,Ax,Ay];refine cB a ?_
  cases o;exact wZ
  cases hq:r==s
  .simp(disch:=omega) only[AD,hq];try rfl
  simp(disch:=omega) only[AD,hq];try rfl
 have a:K 524 [.s [114,97,110,107],.s (Eh 8 s)] [.s r,.b o]:=a;show K 548 [.s [114,97,110,107],.s s] [.s (if(o&&(r==s))=true then Eh 8 s else []),.b (o&&(r==s))];have c:=Jg (b:=58) (s:=s) (acc:=[]);have H:∀p∈Ag 58 s,p.length<=s.length:=λp F=>by have:=OD F;simp only[Aa]at this;omega
 have P:(AH (Ag 58 s) 0).length<=s.length:=Ib (i:=0) H;have L:(AH (Ag 58 s) 1).length<=s.length:=Ib (i:=1) H;have I:=PI (K:=K) (s:=AH (Ag 58 s) 0) (by omega);have J:=PI (K:=K) (s:=AH (Ag 58 s) 1) (by omega);have C:(Ag 58 s).length<=s.length+1:=c.2;by_cases h:(Ag 58 s).length=2
 .have e:Eh 8 s=Ea (pR (AH (Ag 58 s) 0)) (pR (AH (Ag 58 s) 1)):=by simp only[Eh,if_pos h]
  rw[e]at a|-;refine qb Kz ?_;simp(disch:=omega) only[AD,BA,Ax,Ay];refine cB (No (by omega)) ?_;simp(disch:=omega) only[AD,h,BA,Ax,Ay];refine cB I ?_;simp(disch:=omega) only[AD,h,BA,Ax,Ay];refine cB J ?_;simp(disch:=omega) only[AD,BA,Ax,Ay];refine cB un_i ?_;simp(disch:=omega) only[AD,BA,Ax,Ay];refine cB a ?_
  cases o;exact wZ
  cases hq:r==s
  .simp(disch:=omega) only[AD,hq];try rfl
  simp(disch:=omega) only[AD,hq];try rfl
 have e:Eh 8 s=[]:=by simp only[Eh,if_neg h]
 rw[e]at a|-;refine qb Kz ?_;simp(disch:=omega) only[AD,BA,Ax,Ay];refine cB (No (by omega)) ?_;simp(disch:=omega) only[AD,h,BA,Ax,Ay];refine cB a ?_
 cases o;exact wZ
 cases hq:r==s
 .simp(disch:=omega) only[AD,hq];try rfl
 simp(disch:=omega) only[AD,hq];try rfl
theorem ra_i[HA K]{k s:List Nat}(l:s.length<=1048576):K 548 [.s k,.s s] [.s (E1 k s),.b (Dy k s)]:=by
 by_cases H:BP k<9;by_cases hi:BP k=0\/BP k=1\/BP k=3\/BP k=8;have:=AVP (K:=K) (s:=s) l (BP k) hi;rwa [<-U0 H]at this;have hi:BP k=2\/BP k=4\/BP k=5\/BP k=6\/BP k=7:=by omega
 have ks:=szi (K:=K) (s:=s) l (BP k) hi;rw[<-U0 H]at ks;have e:∀j:Nat,j<9->BP k≠j->(k==AH BK j)=false:=by intro j i a;refine beq_eq_false_iff_ne.2 λq=>a ?_;rw[q,YN j i]
 exact AMN l (e 0 (by omega) (by omega)) (e 1 (by omega) (by omega)) (e 3 (by omega) (by omega)) (e 8 (by omega) (by omega)) ks (λw c f g=>by rw[<-g];exact AU1 c _ hi) (λ_=>H);have o:=λ(x:List Nat)(B:x∈BK)=>TB H B;exact AMN l (o _ (by simp[BK])) (o _ (by simp[BK])) (o _ (by simp[BK])) (o _ (by simp[BK])) (ATL H) (λw c f g=>absurd f H) (λh=>by omega)
theorem AdG{k s:List Nat}:(E1 k s).length<=16:=by
 cases h:Dy k s;unfold Dy at h;unfold E1
 cases e:HC k s with
 |none=>simp
 |some w=>rw[e]at h;cases h
 exact(A8 (Wc h).1).l
noncomputable def WU(a b s:List Nat):Bool:=Dy a s&&EZ b (E1 a s)
noncomputable def Od(a b s:List Nat):List Nat:=if Dy a s=true then ET b (E1 a s)else []
theorem AdQ[HA K]{a b s:List Nat}(l:s.length<=1048576):K 552 [.s a,.s b,.s s] [.s (Od a b s),.b (WU a b s)]:=by
 have c:=ra_i (K:=K) (k:=a) (s:=s) (by omega);have H:=AdG (k:=a) (s:=s);unfold Od WU;refine qw I552 ?_;refine cB c ?_
 cases h:Dy a s;exact wZ;refine wW ?_;exact cZ (V3 (by omega))
end Go.Cat
namespace Go.Cat
variable{K:Nat->List D->List D->Prop}
set_option maxRecDepth 100000
end Go.Cat
