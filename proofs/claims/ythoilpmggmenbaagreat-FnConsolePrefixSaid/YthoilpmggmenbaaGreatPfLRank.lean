/-
 Paths by rank: the law.
-/
import Derived.Test.YthoilpmggmenbaaGreatPfRdE2
import Derived.Test.YthoilpmggmenbaaGreatPfRdE4
import Derived.Test.YthoilpmggmenbaaGreatPfRdE6
import Derived.Test.YthoilpmggmenbaaGreatPfRdE7
set_option linter.unusedSimpArgs false
set_option linter.unusedVariables false
namespace Go.Cat
variable{K:Nat->List D->List D->Prop}
set_option maxRecDepth 100000
theorem Ab3{a b:Int}(h:Dm a b=true):AK (F7 a b)=true/\CN (F7 a b)=b/\Fz (F7 a b)=a/\(F7 a b).length<=16:=by
 have H:0<=a/\a<=8/\0<=b/\b<bw a.toNat a.toNat:=by simpa[Dm]using h
 obtain⟨n,rfl⟩:=CJ H.1;obtain⟨k,rfl⟩:=CJ H.2.2.1;simp only[BM]at H;have c:k<bw n n:=by omega
 obtain⟨⟨f,g,G⟩,e⟩:=XS (n+n) n n k (by omega) rfl c;rw[UJ (by omega) c];have hd:AK (DQ (n+n) n n k)=true:=by simp only[AK,AV,Ac];exact⟨by rw[<-G];congr 1;omega,by omega⟩
 refine⟨hd,?_,?_,by omega⟩;simp only[CN,hd,if_true,g];rw[show(n+n)/2=n by omega,e];simp only[Fz,hd,if_true,g];omega
theorem API{a b:Int}:(F7 a b).length<=16:=by cases h:Dm a b;rw[NP h];simp;exact(Ab3 h).2.2.2
theorem AeY{w:List Nat}(h:AK w=true):∃n r:Nat,w.length=2*n/\n<=8/\CN w=r/\Fz w=n/\r<bw n n/\F7 n r=w/\Dm n r=true:=by obtain⟨g,l⟩:=NN h;obtain⟨q,Q⟩:=Se w _ _ g;have G:=g.2.1;refine⟨w.length/2,Dr w (w.length/2) (w.length/2),by omega,by omega,by simp[CN,h],by simp only[Fz,h,if_true];omega,q,?_,Qe (by omega) q⟩;rw[UJ (by omega) q,Q]
end Go.Cat
namespace Go.Cat
set_option maxRecDepth 100000
variable{K:Nat->List D->List D->Prop}
theorem BT.Wn:∀{x y:BT}{a b:List Nat},x.t++a=y.t++b->x=y/\a=b
 |.lf,.lf,a,b,h=>by simpa[BT.t]using h
 |.lf,.nd _ _,a,b,h=>by simp[BT.t]at h
 |.nd _ _,.lf,a,b,h=>by simp[BT.t]at h
 |.nd l r,.nd L R,a,b,h=>by simp only[BT.t,List.cons_append,CT,List.cons.injEq,true_and,List.nil_append]at h;obtain⟨c,e⟩:=BT.Wn h;obtain⟨f,H⟩:=BT.Wn e;subst c;subst f;simp only[List.cons.injEq,true_and]at H;exact⟨rfl,H⟩
theorem BT.tinj{x y:BT}(h:x.t=y.t):x=y:=(BT.Wn (a:=[]) (b:=[]) (by rw[h])).1
open Classical in
noncomputable def HW(s:List Nat):List Nat:=if h:∃x:BT,x.n<=8/\s=x.t then h.choose.p else []
theorem UA{x:BT}(h:x.n<=8):HW x.t=x.p:=by have e:∃y:BT,y.n<=8/\x.t=y.t:=⟨x,h,rfl⟩;simp only[HW,dif_pos e];rw[<-BT.tinj e.choose_spec.2]
theorem UR{s:List Nat}(h:Az s=false):HW s=[]:=by
 have:¬∃x:BT,x.n<=8/\s=x.t:=by rintro⟨x,H,rfl⟩;rw[GN H]at h;cases h
 simp only[HW,dif_neg this]
theorem AkL[HA K]{s:List Nat}:K 577 [.s s] [.s (HW s),.b (Az s)]:=by cases h:Az s;rw[UR h];exact ABD h;obtain⟨x,rfl,H⟩:=FX h;rw[UA H];exact WN H
theorem Ab9[HA K]{s:List Nat}:K 560 [.s s] [.s (HW s),.b (Az s)]:=by cases h:Az s;rw[UR h];exact AkH h;obtain⟨x,rfl,H⟩:=FX h;rw[UA H];exact AbS H
def SJ(s:List Nat):Bool:=Cm (AO 58 s)&&decide ((Bp (AO 58 s)).length=2)
def FQ(s:List Nat):List Int:=s.map λ(c:Nat)=>(c:Int)-49
noncomputable def Ck:Nat->List Nat->List Nat
 |0,s=>s
 |1,s=>FO s
 |2,s=>if CI (Bp (AO 44 s))=true then KE (Bp (AO 44 s))else []
 |3,s=>HW s
 |4,s=>GP s
 |5,s=>Ij (Fk s)
 |6,s=>Iz (E0 s)
 |7,s=>DT (FQ s)
 |8,s=>if SJ s=true then F7 (AB (Bp (AO 58 s)) 0) (AB (Bp (AO 58 s)) 1)else []
 |_,_=>[]
noncomputable def E7:Nat->List Nat->Bool
 |0,s=>AK s
 |1,s=>FM s
 |2,s=>CI (Bp (AO 44 s))&&Cm (AO 44 s)
 |3,s=>Az s
 |4,s=>HN s
 |5,s=>GM (Fk s)&&JV s
 |6,s=>ET (E0 s)&&HS s
 |7,s=>DH (FQ s)
 |8,s=>SJ s&&Dm (AB (Bp (AO 58 s)) 0) (AB (Bp (AO 58 s)) 1)
 |_,_=>false
theorem AL3{w:List Nat}(hd:AK w=true):AO 58 (A8 w 8)=[AQ ((w.length/2:Nat):Int),AQ (CN w)]/\(0<=CN w/\CN w<=1430)/\Dm ((w.length/2:Nat):Int) (CN w)=true/\F7 ((w.length/2:Nat):Int) (CN w)=w/\(A8 w 8).length<=100:=by
 obtain⟨n,r,c,f,h,g,i,H,b⟩:=AeY hd;have j:=Lm hd;have e:w.length/2=n:=by omega
 have a:(w.length:Int)/2=(n:Int):=by omega
 rw[e,A8,a];refine⟨AAM (N2 rfl (by omega)) (N2 rfl (by omega)),by omega,by rw[h];exact b,by rw[h];exact H,?_⟩;have l:=Nl (x:=(n:Int)) (k:=2) (by omega) (by omega) (by omega);have o:=Nl (x:=CN w) (k:=4) (by omega) (by omega) (by omega);simp only[AW,AP,A5];omega
theorem MD{w:List Nat}(hd:AK w=true):∀i:Nat,i<9->E7 i (A8 w i)=true/\Ck i (A8 w i)=w/\(A8 w i).length<=100
 |0,_=>by
  have e:=(Af hd).l
  exact⟨hd,rfl,by simp only[A8];omega⟩
 |1,_=>by
  have e:=(Af hd).l
  obtain⟨H,a⟩:=AgH hd
  have:=Ok (w:=w)
  exact⟨H,a,by simp only[A8];omega⟩
 |2,_=>by
  obtain⟨⟨H,a⟩,⟨b,c⟩,_,k⟩:=AOQ hd
  refine⟨?_,?_,k⟩
  simp only[E7,H,a,b,Bool.and_self]
  simp only[Ck,a,b,c,if_true]
 |3,_=>by
  obtain⟨x,rfl,j⟩:=Kr hd
  have:=BT.tl x
  refine⟨?_,?_,?_⟩
  simp only[A8,E7,Hi,GN j]
  simp only[A8,Ck,Hi,UA j]
  simp only[A8,Hi];omega
 |4,_=>by
  obtain⟨H,_,b⟩:=AKJ hd
  refine⟨?_,?_,b⟩
  simp only[E7,HN,H,Option.isSome_some]
  simp only[Ck,GP,H,Option.getD_some]
 |5,_=>by
  obtain⟨H,⟨a,b⟩,_,c⟩:=AJ6 hd
  refine⟨?_,?_,c⟩
  simp only[E7,JV,Fk,H,a,Option.isSome_some,Option.getD_some,Bool.and_self]
  simp only[Ck,Fk,H,b,Option.getD_some]
 |6,_=>by
  obtain⟨H,⟨a,b⟩,_,c⟩:=AK2 hd
  refine⟨?_,?_,c⟩
  simp only[E7,HS,E0,H,a,Option.isSome_some,Option.getD_some,Bool.and_self]
  simp only[Ck,E0,H,b,Option.getD_some]
 |7,_=>by
  have e:=(Af hd).l
  obtain⟨H,⟨a,b⟩,c⟩:=Zq hd
  refine⟨?_,?_,by omega⟩
  simp only[E7,FQ,H,a]
  simp only[Ck,FQ,H,b]
 |8,_=>by
  have e:=(Af hd).l
  obtain⟨H,q,a,b,c⟩:=AL3 hd
  have o:0<=((w.length/2:Nat):Int)/\((w.length/2:Nat):Int)<=8:=by omega
  generalize ((w.length/2:Nat):Int)=m at H a b o
  have O:Cm [AQ m,AQ (CN w)]=true:=by
   simp[Cm,LC (n:=m) (by omega),LC (n:=CN w) (by omega)]
  have R:Bp [AQ m,AQ (CN w)]=[m,CN w]:=by
   rw[Bp,if_pos O];simp[P8]
  have N:SJ (A8 w 8)=true:=by simp only[SJ,H,O,R];rfl
  have f:AB [m,CN w] 0=m:=rfl
  have g:AB [m,CN w] 1=CN w:=rfl
  refine⟨?_,?_,c⟩
  simp only[E7,N,H,R,f,g,a,Bool.and_self]
  simp only[Ck,N,H,R,f,g,b,if_true]
 |i+9,h=>absurd h (by omega)
theorem AZV{w v:List Nat}(c:AK w=true)(b:AK v=true){i:Nat}(hi:i<9)(h:A8 w i=A8 v i):w=v:=by have H:=(MD c i hi).2.1;have a:=(MD b i hi).2.1;rw[<-H,h,a]
open Classical in
noncomputable def Hn(k s:List Nat):Option (List Nat):=if h:∃w,AK w=true/\BG k<9/\A8 w (BG k)=s then some h.choose else none
theorem Aa0{k w:List Nat}(hd:AK w=true)(h:BG k<9):Hn k (A8 w (BG k))=some w:=by have e:∃v,AK v=true/\BG k<9/\A8 v (BG k)=A8 w (BG k):=⟨w,hd,h,rfl⟩;simp only[Hn,dif_pos e];rw[AZV e.choose_spec.1 hd h e.choose_spec.2.2]
theorem AGW{k s w:List Nat}(h:Hn k s=some w):AK w=true/\BG k<9/\A8 w (BG k)=s:=by
 unfold Hn at h;split at h;rename_i e;injection h with h;rw[<-h];exact e.choose_spec
 cases h
theorem AgP{k s:List Nat}(h:∀w,AK w=true->BG k<9->A8 w (BG k)≠s):Hn k s=none:=by
 cases e:Hn k s with
 |none=>rfl
 |some w=>
  obtain⟨H,a,b⟩:=AGW e
  exact absurd b (h w H a)
noncomputable def EA(k s:List Nat):Bool:=(Hn k s).isSome
noncomputable def E5(k s:List Nat):List Nat:=(Hn k s).getD []
theorem ADV{k w:List Nat}(hd:AK w=true)(h:BG k<9):EA k (A8 w (BG k))=true/\E5 k (A8 w (BG k))=w:=by simp[EA,E5,Aa0 hd h]
theorem AKD{k s:List Nat}(h:EA k s=true):AK (E5 k s)=true/\BG k<9/\A8 (E5 k s) (BG k)=s:=by
 unfold EA E5 at*
 cases e:Hn k s with
 |none=>rw[e]at h;cases h
 |some w=>exact AGW e
theorem QZ{k s:List Nat}(h:∀w,AK w=true->BG k<9->A8 w (BG k)≠s):EA k s=false/\E5 k s=[]:=by simp[EA,E5,AgP h]
theorem AO7{k s T:List Nat}(i:∀w,AK w=true->BG k<9->A8 w (BG k)=s->T=w):EA k s=(DD k T&&(Cz k T==s))/\(EA k s=true->E5 k s=T)/\(EA k s=false->E5 k s=[]):=by
 cases hO:EA k s;refine⟨?_,(λh=>by cases h),(λ_=>?_)⟩
 cases H:DD k T;rfl
 cases q:Cz k T==s;rfl;exfalso;simp only[DD,AV,Ac]at H;have e:Cz k T=A8 T (BG k):=by simp[Cz,DD,H.1,H.2]
 rw[e,beq_iff_eq]at q;have:=(ADV H.1 H.2).1;rw[q,hO]at this;cases this;unfold EA at hO;unfold E5
 cases e:Hn k s with
 |none=>rfl
 |some w=>rw[e]at hO;cases hO
 obtain⟨b,c,f⟩:=AKD hO;have e:=i _ b c f;have a:DD k T=true:=by rw[e];simp[DD,b,c]
 refine⟨?_,(λ_=>e.symm),(λh=>by cases h)⟩;have g:Cz k T=s:=by simp only[Cz,a,if_true];rw[e];exact f
 rw[a,g];simp
theorem WA{ps:List (List Nat)}:(Bp ps).length<=ps.length:=by unfold Bp;split<;>simp
theorem AfF[HA K]{s:List Nat}(h:s.length<=1000):K 559 [.s (AF Ai 0),.s s] [.s (Ck 0 s),.b (E7 0 s)]:=by show K 559 [.s [112,97,116,104],.s s] [.s s,.b (AK s)];refine qb J7 ?_;simp(disch:=omega) only[AD,Ak,Aj,Al];refine cB (Bu (by omega)) ?_;simp(disch:=omega) only[AD,Ak,Aj,Al];try rfl
theorem AiL[HA K]{s:List Nat}(h:s.length<=1000):K 559 [.s (AF Ai 1),.s s] [.s (Ck 1 s),.b (E7 1 s)]:=by show K 559 [.s [98,114,97,99,107,101,116,115],.s s] [.s (FO s),.b (FM s)];refine qb J7 ?_;simp(disch:=omega) only[AD,Ak,Aj,Al];refine cB (AhA (by omega)) ?_;simp(disch:=omega) only[AD,Ak,Aj,Al];try rfl
theorem AdV[HA K]{s:List Nat}(h:s.length<=1000):K 559 [.s (AF Ai 2),.s s] [.s (Ck 2 s),.b (E7 2 s)]:=by
 have l:=WA (ps:=AO 44 s);have H:=(Gn (b:=44) (s:=s) (acc:=[])).2;have a:=Ak9 (K:=K) (p:=Bp (AO 44 s)) (by simp only[AO]at *;omega);have k:=Ra (K:=K) (s:=s) (b:=44) (by omega);show K 559 [.s [112,108,97,110,101],.s s] [.s (if CI (Bp (AO 44 s))=true then KE (Bp (AO 44 s))else []),.b (CI (Bp (AO 44 s))&&Cm (AO 44 s))];generalize Bp (AO 44 s)=p at*;generalize Cm (AO 44 s)=o at*;refine qb J7 ?_;simp(disch:=omega) only[AD,Ak,Aj,Al];refine cB k ?_;simp(disch:=omega) only[AD,Ak,Aj,Al];refine cB a ?_
 cases o
 .refine wW ?_;try first|rfl|simp
 refine wW ?_;try first|rfl|simp
theorem Al7[HA K]{s:List Nat}:K 559 [.s (AF Ai 3),.s s] [.s (Ck 3 s),.b (E7 3 s)]:=by show K 559 [.s [98,105,110,97,114,121],.s s] [.s (HW s),.b (Az s)];refine qb J7 ?_;simp(disch:=omega) only[AD,Ak,Aj,Al];refine cB AkL ?_;simp(disch:=omega) only[AD,Ak,Aj,Al];try rfl
theorem AhG[HA K]{s:List Nat}(h:s.length<=1000)(H:∀c∈s,c<256):K 559 [.s (AF Ai 4),.s s] [.s (Ck 4 s),.b (E7 4 s)]:=by show K 559 [.s [100,105,97,103,111,110,97,108,115],.s s] [.s (GP s),.b (HN s)];refine qb J7 ?_;simp(disch:=omega) only[AD,Ak,Aj,Al];refine cB (AkA h H) ?_;simp(disch:=omega) only[AD,Ak,Aj,Al];try rfl
theorem Ah3[HA K]{s:List Nat}(h:s.length<=1000)(a:∀c∈s,c<256):K 559 [.s (AF Ai 5),.s s] [.s (Ck 5 s),.b (E7 5 s)]:=by
 have k:=AUU (K:=K) (s:=s) (by omega) a;have g:(Fk s).length<=8:=by
  have hX:∀(n:Int)(t:List Nat)(p:List Int)(b:Int){q:List Int},HC n t p b=some q->q.length=p.length:=by
   intro n t;induction t with
   |nil=>intro p b q H;simp only[HC,AL]at H;rw[H]
   |cons c t i=>
    intro p b q H
    rw[HC]at H
    split at H
    .exact i _ _ H
    .split at H
     .have:=i _ _ H
      rwa [DN]at this
     .cases H
  unfold Fk Iw;split;simp;rename_i a
  cases e:HC (HH s) s (List.replicate (HH s) (-1)) 0 with
  |none=>simp
  |some q=>
   have:=hX _ _ _ _ e
   simp only[List.length_replicate]at this
   simp only[Option.getD_some];omega
 have f:=AET (K:=K) (p:=Fk s) (by omega);show K 559 [.s [112,97,114,116,105,116,105,111,110],.s s] [.s (Ij (Fk s)),.b (GM (Fk s)&&JV s)];generalize Fk s=p at*;generalize JV s=o at*;refine qb J7 ?_;simp(disch:=omega) only[AD,Ak,Aj,Al];refine cB k ?_;simp(disch:=omega) only[AD,Ak,Aj,Al];refine cB f ?_
 cases o
 .refine wW ?_;try first|rfl|simp
 refine wW ?_;try first|rfl|simp
theorem AIM{s:List Nat}:(E0 s).length<=2*(s.length+1):=by
 have hX:∀(n:Int)(t:List (List Int))(p:List Int){q:List Int},Ha n t p=some q->q.length=p.length:=by
  intro n t;induction t with
  |nil=>intro p q h;simp only[Ha,AL]at h;rw[h]
  |cons c t i=>
   intro p q h
   rw[Ha]at h
   split at h
   .have:=i _ h
    rwa [DN,DN]at this
   .cases h
 have H:=(Gn (b:=32) (s:=s) (acc:=[])).2;unfold E0 Fb;split;simp;split
 cases e:Ha (2*(AO 32 s).length:Nat) ((AO 32 s).map G9) (List.replicate (2*(AO 32 s).length) 0)with
 |none=>simp
 |some q=>
  have:=hX _ _ _ e
  simp only[List.length_replicate,AO]at this
  simp only[Option.getD_some];omega
 simp
theorem AZZ[HA K]{s:List Nat}(h:s.length<=1000):K 559 [.s (AF Ai 6),.s s] [.s (Ck 6 s),.b (E7 6 s)]:=by
 have k:=AaM (K:=K) (s:=s) (by omega);have H:=AIM (s:=s);have a:=AQM (K:=K) (m:=E0 s) (by omega);show K 559 [.s [109,97,116,99,104,105,110,103],.s s] [.s (Iz (E0 s)),.b (ET (E0 s)&&HS s)];generalize E0 s=p at*;generalize HS s=o at*;refine qb J7 ?_;simp(disch:=omega) only[AD,Ak,Aj,Al];refine cB k ?_;simp(disch:=omega) only[AD,Ak,Aj,Al];refine cB a ?_
 cases o
 .refine wW ?_;try first|rfl|simp
 refine wW ?_;try first|rfl|simp
theorem AVZ[HA K]{s:List Nat}(h:s.length<=1000)(H:∀c∈s,c<256):K 559 [.s (AF Ai 7),.s s] [.s (Ck 7 s),.b (E7 7 s)]:=by
 have k:=AJW (K:=K) (p:=FQ s) (by simpa[FQ]using h);show K 559 [.s [112,101,114,109,117,116,97,116,105,111,110],.s s] [.s (DT (FQ s)),.b (DH (FQ s))];refine qb J7 ?_;simp(disch:=try exact dV) only[AD,APW,Ak,Aj,Al];refine AN (λ_=>True) (λi=>[.u,.s s,.u,.u,.u,.u,.u,.u,.u,.u,.u,.u,.u,.u,.u,.u,LI (FQ (s.take i)),.n i,.u,.u,.u,.u,.u,.u,.u,.u,.u,.u,.u,.u,.u,.u,.u,.u,.u,.u,.u,.u,.u]) s.length trivial (by rfl) (λi hi _=>?_) (λ_=>?_);have a:=PO H (i:=(i:Int));have l:(FQ (s.take i)).length=i:=by simp[FQ];omega
 have e:FQ (s.take (i+1))=FQ (s.take i)++[(AH s i:Int)-49]:=by rw[FE hi];simp[FQ]
 rw[e];simp(disch:=try exact dV) only[AD,Ak,Aj,Al];rw[List.take_length];simp(disch:=try exact dV) only[AD,Ak,Aj,Al];refine cB k ?_;simp(disch:=try exact dV) only[AD,Ak,Aj,Al];try rfl
theorem Ad0[HA K]{s:List Nat}(h:s.length<=1000):K 559 [.s (AF Ai 8),.s s] [.s (Ck 8 s),.b (E7 8 s)]:=by
 have k:=Ra (K:=K) (s:=s) (b:=58) (by omega);have l:=WA (ps:=AO 58 s);have c:=(Gn (b:=58) (s:=s) (acc:=[])).2;have e:(Bp (AO 58 s)).length<=2000:=by simp only[AO]at *;omega
 have f:=un_s (K:=K) (a:=AB (Bp (AO 58 s)) 0) (b:=AB (Bp (AO 58 s)) 1);show K 559 [.s [114,97,110,107],.s s] [.s (if(Cm (AO 58 s)&&decide ((Bp (AO 58 s)).length=2))=true then F7 (AB (Bp (AO 58 s)) 0) (AB (Bp (AO 58 s)) 1)else []),.b ((Cm (AO 58 s)&&decide ((Bp (AO 58 s)).length=2))&&Dm (AB (Bp (AO 58 s)) 0) (AB (Bp (AO 58 s)) 1))];clear l c;generalize Bp (AO 58 s)=p at*;generalize Cm (AO 58 s)=o at*;refine qb J7 ?_;simp(disch:=omega) only[AD,Ak,Aj,Al];refine cB k ?_
 cases o;exact wZ;by_cases H:p.length=2
 .simp(disch:=omega) only[AD,H];refine cB f ?_;simp(disch:=omega) only[AD,Ak,Aj,Al];try simp[H]
 simp(disch:=omega) only[AD,H];try simp[H]
theorem AV8[HA K]{s:List Nat}(h:s.length<=1000)(H:∀c∈s,c<256):∀i:Nat,i<9->K 559 [.s (AF Ai i),.s s] [.s (Ck i s),.b (E7 i s)]
 |0,_=>AfF h
 |1,_=>AiL h
 |2,_=>AdV h
 |3,_=>Al7
 |4,_=>AhG h H
 |5,_=>Ah3 h H
 |6,_=>AZZ h
 |7,_=>AVZ h H
 |8,_=>Ad0 h
 |i+9,q=>absurd q (by omega)
theorem AhI{k w:List Nat}:(Cz k w).length<=5000:=by unfold Cz;split;rename_i h;simp only[DD,AV]at h;exact Q6 h.1 _;simp
theorem AB1:∀{st:List Int}{n:Int},(Cq st n).1.length+(Cq st n).2.1.length=st.length
 |[],_=>rfl
 |y::st,n=>by have i:=AB1 (st:=st) (n:=n+1);unfold Cq;split;simp only[AP];omega;simp
theorem AH3:∀{p st:List Int}{n:Int},(Dk p st n).length<=2*p.length+st.length
 |[],_,_=>by simp[Dk]
 |x::p,st,n=>by have h:=AB1 (st:=x::st) (n:=n);have H:=AH3 (p:=p) (st:=(Cq (x::st) n).2.1) (n:=(Cq (x::st) n).2.2);simp only[Dk,AP,AW]at *;omega
theorem Aj5{s:List Nat}:(GP s).length<=16:=by unfold GP HB;split;rename_i h;have H:=XX h.2.2;have:=BT.pl (I2 (pR (s.take (CD s))) (GL (s.drop (CD s+2))));simp only[Option.getD_some];omega;simp
theorem AdI{s:List Nat}:(HW s).length<=16:=by cases h:Az s;rw[UR h];simp;obtain⟨x,rfl,H⟩:=FX h;have:=BT.pl x;rw[UA H];omega
theorem AfY{p:List Int}(h:CI p=true):(KE p).length<=200:=by
 obtain⟨⟨a,c⟩,H⟩:=Yo h;have b:∀k:Nat,k<=p.length-1->0<=AB (DZ p p.length) k/\AB (DZ p p.length) k<=9:=by intro k f;have:=Uq H (i:=p.length) (k:=k) (by omega) (by omega);omega
 have G:=TJ b (Nat.le_refl _);have g:=b (p.length-1) (by omega);have e:((p.length-1:Nat):Int)=(p.length:Int)-1:=by omega
 rw[e]at g;simp only[KE,AW,List.length_replicate];omega
theorem Ac4{p:List Int}(h:CZ p=true)(j:Nat):(AG (Ar p p.length) (AB p j)).length<=8:=by
 by_cases q:(AB p j).toNat<(Ar p p.length).length;have e:Ar p p.length=CM p:=by simp[CM,h]
 have H:AG (Ar p p.length) (AB p j)∈CM p:=by rw[<-e];simp[AG,q]
 exact(TZ H).1;have:AG (Ar p p.length) (AB p j)=[]:=by simp[AG,Nat.le_of_not_lt q]
 rw[this];simp
theorem AYN{p:List Int}:(Ij p).length<=200:=by unfold Ij;split;rename_i h;simp only[GM,AV]at h;have H:=ALB h.1;have:=Yx (p:=p) (b:=Ar p p.length) (λj _=>Ac4 h.1 j) (Nat.le_refl _);omega;simp
theorem Sp{s:List Nat}(h:s.length<=1048576):∀i:Nat,(Ck i s).length<=1000000000
 |0=>by simp only[Ck];omega
 |1=>by have:=P0 (s:=s);simp only[Ck,FO];split;omega;simp
 |2=>by simp only[Ck];split;rename_i h;have:=AfY h;omega;simp
 |3=>by have:=AdI (s:=s);simp only[Ck];omega
 |4=>by have:=Aj5 (s:=s);simp only[Ck];omega
 |5=>by have:=AYN (p:=Fk s);simp only[Ck];omega
 |6=>by have:=AIM (s:=s);have H:=V4 (m:=E0 s) (E0 s).length;simp only[Ck,Iz];split;omega;simp
 |7=>by
  have:=AH3 (p:=FQ s) (st:=[]) (n:=0);have e:(FQ s).length=s.length:=by simp[FQ]
  simp only[Ck,DT];split;simp only[A5]at this;omega;simp
 |8=>by simp only[Ck];split;have:=API (a:=AB (Bp (AO 58 s)) 0) (b:=AB (Bp (AO 58 s)) 1);omega;simp
 |i+9=>by simp[Ck]
theorem ra_s[HA K]{k s:List Nat}(F:s.length<=1099511627776)(C:∀c∈s,c<256):K 547 [.s k,.s s] [.s (E5 k s),.b (EA k s)]:=by
 have e:=WY (K:=K) (ws:=Ai) (k:=k) (by decide);rw[AX1]at e;by_cases h:BG k<9
 .by_cases q:s.length<=100
  .have f:=AV8 (K:=K) (s:=s) (by omega) C (BG k) h;have kl:=Sp (s:=s) (by omega) (BG k);rw[<-N7 h]at f;have x:∀w,AK w=true->BG k<9->A8 w (BG k)=s->E7 (BG k) s=true/\Ck (BG k) s=w:=by rintro w a H rfl;exact⟨(MD a _ H).1,(MD a _ H).2.1⟩
   generalize Ck (BG k) s=T at*
   cases hO:E7 (BG k) s;obtain⟨j,l⟩:=QZ (k:=k) (s:=s) (λw a H i=>by have:=(x w a H i).1;rw[hO]at this;cases this);rw[j,l];rw[hO]at f;refine qw NH ?_;refine cB Js ?_;simp(disch:=omega) only[AD,h];refine cB e ?_;simp(disch:=omega) only[AD,h];exact cZ f;obtain⟨g,B,G⟩:=AO7 (k:=k) (s:=s) (T:=T) (λw a H i=>(x w a H i).2);rw[hO]at f;have o:=AA7 (K:=K) (k:=k) (w:=T) kl
   cases ew:DD k T;rw[ew,Bool.false_and]at g;rw[g,G g];rw[ew]at o;refine qw NH ?_;refine cB Js ?_;simp(disch:=omega) only[AD,h];refine cB e ?_;simp(disch:=omega) only[AD,h];refine cW f ?_;exact cZ o;rw[ew,Bool.true_and]at g;rw[ew]at o
   cases eq:Cz k T==s
   .rw[eq]at g;rw[g,G g];refine qw NH ?_;refine cB Js ?_;simp(disch:=omega) only[AD,h];refine cB e ?_;simp(disch:=omega) only[AD,h];refine cW f ?_;refine cB o ?_;simp(disch:=omega) only[AD,eq];try rfl
   rw[eq]at g;rw[g,B g];refine qw NH ?_;refine cB Js ?_;simp(disch:=omega) only[AD,h];refine cB e ?_;simp(disch:=omega) only[AD,h];refine cW f ?_;refine cB o ?_;simp(disch:=omega) only[AD,eq];try rfl
  obtain⟨j,l⟩:=QZ (k:=k) (s:=s) (λw a H i=>by have:=(MD a _ H).2.2;rw[i]at this;omega);rw[j,l];refine qw NH ?_;refine cB Js ?_;simp(disch:=omega) only[AD,h];refine cB e ?_;simp(disch:=omega) only[AD,h];try rfl
 obtain⟨j,l⟩:=QZ (k:=k) (s:=s) (λw a H i=>absurd H h);rw[j,l];refine qw NH ?_;refine cB Js ?_;simp(disch:=omega) only[AD,h];refine cB e ?_;simp(disch:=omega) only[AD,h];try rfl
def L5:Nat->List Nat->Int
 |2,s=>AA s 44
 |4,s=>pR (AF (AO 58 s) 0)-2
 |5,s=>(s.length:Int)-AA s 124
 |6,s=>AA s 45
 |7,s=>s.length
 |_,_=>-1
theorem AjB{w:List Nat}(hd:AK w=true):∀i:Nat,(i=2\/i=4\/i=5\/i=6\/i=7)->L5 i (A8 w i)=((w.length/2:Nat):Int):=by
 have H:=(Af hd).l;rintro i (rfl|rfl|rfl|rfl|rfl);have:=(AOQ hd).2.2.1;simp only[L5];omega;obtain⟨_,⟨r,h⟩,_⟩:=AKJ hd;have e:AF (AO 58 (A8 w 4)) 0=AQ (((w.length/2:Nat):Int)+2):=by rw[h];rfl
 simp only[L5,e,St (n:=((w.length/2:Nat):Int)+2) (by omega)];omega;have:=(AJ6 hd).2.2.1;simp only[L5];omega;have:=(AK2 hd).2.2.1;simp only[L5];omega;have:=(Zq hd).2.2;simp only[L5];omega
theorem szi[HA K]{s:List Nat}(h:s.length<=1048576):∀i:Nat,(i=2\/i=4\/i=5\/i=6\/i=7)->K 563 [.s (AF Ai i),.s s] [.n (L5 i s)]:=by
 have a:=λc=>Od (w:=s) (c:=c);rintro i (rfl|rfl|rfl|rfl|rfl)
 .show K 563 [.s [112,108,97,110,101],.s s] [.n (AA s 44)];refine qb N0 ?_;simp(disch:=omega) only[AD,Ak,Aj,Al];refine cB (Uz (by omega)) ?_;simp(disch:=omega) only[AD,Ak,Aj,Al];try rfl
 .have H:=Gn (b:=58) (s:=s) (acc:=[]);have l:(AF (AO 58 s) 0).length<=s.length:=by have:=KN (ws:=AO 58 s) (b:=s.length) (i:=0) (λp f=>by have:=MA f;simp only[A5]at this;omega);exact this
  have k:=Ng (K:=K) (s:=AF (AO 58 s) 0) (by omega);have g:=Zl (s:=AF (AO 58 s) 0);have e:0<(AO 58 s).length:=H.1;show K 563 [.s [100,105,97,103,111,110,97,108,115],.s s] [.n (pR (AF (AO 58 s) 0)-2)];refine qb N0 ?_;simp(disch:=omega) only[AD,Ak,Aj,Al];refine cB (Mc (by omega)) ?_;simp(disch:=omega) only[AD,Ak,Aj,Al];refine cB k ?_;simp(disch:=omega) only[AD,Ak,Aj,Al];try rfl
 .have:=a 124;show K 563 [.s [112,97,114,116,105,116,105,111,110],.s s] [.n ((s.length:Int)-AA s 124)];refine qb N0 ?_;simp(disch:=omega) only[AD,Ak,Aj,Al];refine cB (Uz (by omega)) ?_;simp(disch:=omega) only[AD,Ak,Aj,Al];try rfl
 .show K 563 [.s [109,97,116,99,104,105,110,103],.s s] [.n (AA s 45)];refine qb N0 ?_;simp(disch:=omega) only[AD,Ak,Aj,Al];refine cB (Uz (by omega)) ?_;simp(disch:=omega) only[AD,Ak,Aj,Al];try rfl
 show K 563 [.s [112,101,114,109,117,116,97,116,105,111,110],.s s] [.n s.length];refine qb N0 ?_;simp(disch:=omega) only[AD,Ak,Aj,Al];try rfl
theorem AcB[HA K]{k s:List Nat}(h:¬BG k<9):K 563 [.s k,.s s] [.n (-1)]:=by have o:=λ(x:List Nat)(H:x∈Ai)=>QC h H;have q:=o [112,108,97,110,101] (by simp[Ai]);have Q:=o [100,105,97,103,111,110,97,108,115] (by simp[Ai]);have a:=o [112,97,114,116,105,116,105,111,110] (by simp[Ai]);have b:=o [109,97,116,99,104,105,110,103] (by simp[Ai]);have c:=o [112,101,114,109,117,116,97,116,105,111,110] (by simp[Ai]);refine qb N0 ?_;simp(disch:=omega) only[AD,q,Q,a,b,c,Ak,Aj,Al];try rfl
theorem ASZ[HA K]{k s:List Nat}{n:Int}(O:s.length<=1048576)
  (Q:(k==[112,97,116,104])=false) (I:(k==[98,114,97,99,107,101,116,115])=false) (J:(k==[98,105,110,97,114,121])=false) (L:(k==[114,97,110,107])=false)
  (ks:K 563 [.s k,.s s] [.n n]) (q:∀w,AK w=true->BG k<9->A8 w (BG k)=s->n=((w.length/2:Nat):Int)) (C:0<=n->BG k<9):
  K 548 [.s k,.s s] [.s (E5 k s),.b (EA k s)]:=by
 refine qb Nm ?_;simp(disch:=omega) only[AD,Q,I,J,L,Ak,Aj,Al];refine cB ks ?_;simp(disch:=omega) only[AD,Ak,Aj,Al];refine cB Br ?_
 cases hi:AR 0 8 n
 .have hi:=JS.1 hi;obtain⟨a,c⟩:=QZ (k:=k) (s:=s) (λw H g f=>by have:=q w H g f;have:=(Af H).l;omega);rw[a,c];simp(disch:=omega) only[AD,Ak,Aj,Al];try rfl
 .have hi:=A7.1 hi;have o:=C hi.1;obtain⟨m,rfl⟩:=CJ hi.1;have R:=AgK (n:=m) (by omega);simp(disch:=omega) only[AD,Ak,Aj,Al];refine cB (AZK (by omega)) ?_;simp(disch:=omega) only[AD,Ak,Aj,Al];refine AN (λi=>∀x∈(AI m).take i,A8 x (BG k)≠s) (λi=>[.s k,.s s,.u,.u,.u,.u,.u,.u,.u,.u,.u,.u,.u,.u,.u,LS (AI m),.n (AI m).length,.n i,.u,.u,.u,.u,.u,.u,.u,.u]) (AI m).length (by simp) rfl (λi hi P=>?_) (λP=>?_)
  .obtain⟨hd,F⟩:=(Y4 (n:=m) (w:=AF (AI m) i) (by omega)).1 (by simp[AF,hi]);have j:=VD (K:=K) (k:=k) (w:=AF (AI m) i) (by omega);have e:Cz k (AF (AI m) i)=A8 (AF (AI m) i) (BG k):=by simp[Cz,DD,hd,o]
   rw[e]at j
   cases hq:A8 (AF (AI m) i) (BG k)==s
   .refine wW ?_;refine cB j ?_;simp(disch:=omega) only[AD,hq,Ak,Aj,Al];intro x B;rw[VP hi]at B;rcases A9.1 B with h|h
    .exact P x h
    .rw[List.mem_singleton.1 h];exact beq_eq_false_iff_ne.1 hq
   .have G:=beq_iff_eq.1 hq;obtain⟨a,c⟩:=ADV (k:=k) hd o;rw[G]at a c;rw[a,c];simp(disch:=omega) only[AD,Ak,Aj,Al];refine cB j ?_;simp(disch:=omega) only[AD,hq,Ak,Aj,Al];try rfl
  .rw[List.take_length]at P;obtain⟨a,c⟩:=QZ (k:=k) (s:=s) (λw H g f=>by have M:=q w H g f;have N:=(NN H).1.2.1;exact P w ((Y4 (by omega)).2 ⟨H,by omega⟩) f);rw[a,c];simp(disch:=omega) only[AD,Ak,Aj,Al];try rfl
noncomputable def FJ:Nat->List Nat->List Nat
 |0,s=>s
 |1,s=>FO s
 |3,s=>HW s
 |8,s=>if(AO 58 s).length=2 then F7 (pR (AF (AO 58 s) 0)) (pR (AF (AO 58 s) 1))else []
 |_,_=>[]
theorem AY7{w:List Nat}(hd:AK w=true):∀i:Nat,(i=0\/i=1\/i=3\/i=8)->FJ i (A8 w i)=w:=by rintro i (rfl|rfl|rfl|rfl);rfl;exact(MD hd 1 (by omega)).2.1;exact(MD hd 3 (by omega)).2.1;have g:=(Af hd).l;obtain⟨h,f,c,H,e⟩:=AL3 hd;have a:AF [AQ ((w.length/2:Nat):Int),AQ (CN w)] 0=AQ ((w.length/2:Nat):Int):=rfl;have b:AF [AQ ((w.length/2:Nat):Int),AQ (CN w)] 1=AQ (CN w):=rfl;simp only[FJ,h,a,b];rw[if_pos (show [AQ ((w.length/2:Nat):Int),AQ (CN w)].length=2 from rfl),St (by omega),St (by omega),H]
theorem AkB{s:List Nat}(h:s.length<=1048576):∀i:Nat,(i=0\/i=1\/i=3\/i=8)->(FJ i s).length<=1000000000:=by rintro i (rfl|rfl|rfl|rfl);exact Sp h 0;exact Sp h 1;exact Sp h 3;simp only[FJ];split;have:=API (a:=pR (AF (AO 58 s) 0)) (b:=pR (AF (AO 58 s) 1));omega;simp
theorem Ad7[HA K]{s:List Nat}(B:s.length<=1048576):∀i:Nat,(i=0\/i=1\/i=3\/i=8)->K 548 [.s (AF Ai i),.s s] [.s (E5 (AF Ai i) s),.b (EA (AF Ai i) s)]:=by
 intro i hi;have f:=ABR i (by omega);have x:=AkB B i hi;obtain⟨g,G,j⟩:=AO7 (k:=AF Ai i) (s:=s) (T:=FJ i s) (λw q h l=>by rw[f]at l;rw[<-l];exact AY7 q i hi);have a:=VD (K:=K) (k:=AF Ai i) (w:=FJ i s) x;have fin:E5 (AF Ai i) s=if(DD (AF Ai i) (FJ i s)&&(Cz (AF Ai i) (FJ i s)==s))=true then FJ i s else []:=by cases hO:EA (AF Ai i) s;rw[<-g,hO];exact j hO;rw[<-g,hO];exact G hO
 rw[fin,g];clear g G j fin f;generalize DD (AF Ai i) (FJ i s)=o at*;generalize Cz (AF Ai i) (FJ i s)=r at*;rcases hi with rfl|rfl|rfl|rfl
 .have a:K 524 [.s [112,97,116,104],.s s] [.s r,.b o]:=a;show K 548 [.s [112,97,116,104],.s s] [.s (if(o&&(r==s))=true then s else []),.b (o&&(r==s))];refine qb Nm ?_;simp(disch:=omega) only[AD,Ak,Aj,Al];refine cB a ?_
  cases o;exact wZ
  cases hq:r==s
  .simp(disch:=omega) only[AD,hq];try rfl
  simp(disch:=omega) only[AD,hq];try rfl
 .have a:K 524 [.s [98,114,97,99,107,101,116,115],.s (FO s)] [.s r,.b o]:=a;show K 548 [.s [98,114,97,99,107,101,116,115],.s s] [.s (if(o&&(r==s))=true then FO s else []),.b (o&&(r==s))];refine qb Nm ?_;simp(disch:=omega) only[AD,Ak,Aj,Al];refine cB (AkY (by omega)) ?_;simp(disch:=omega) only[AD,Ak,Aj,Al];refine cB a ?_
  cases o;exact wZ
  cases hq:r==s
  .simp(disch:=omega) only[AD,hq];try rfl
  simp(disch:=omega) only[AD,hq];try rfl
 .have a:K 524 [.s [98,105,110,97,114,121],.s (HW s)] [.s r,.b o]:=a;show K 548 [.s [98,105,110,97,114,121],.s s] [.s (if(o&&(r==s))=true then HW s else []),.b (o&&(r==s))];refine qb Nm ?_;simp(disch:=omega) only[AD,Ak,Aj,Al];refine cB Ab9 ?_;simp(disch:=omega) only[AD,Ak,Aj,Al];refine cB a ?_
  cases o;exact wZ
  cases hq:r==s
  .simp(disch:=omega) only[AD,hq];try rfl
  simp(disch:=omega) only[AD,hq];try rfl
 have a:K 524 [.s [114,97,110,107],.s (FJ 8 s)] [.s r,.b o]:=a;show K 548 [.s [114,97,110,107],.s s] [.s (if(o&&(r==s))=true then FJ 8 s else []),.b (o&&(r==s))];have c:=Gn (b:=58) (s:=s) (acc:=[]);have H:∀p∈AO 58 s,p.length<=s.length:=λp F=>by have:=MA F;simp only[A5]at this;omega
 have P:(AF (AO 58 s) 0).length<=s.length:=KN (i:=0) H;have L:(AF (AO 58 s) 1).length<=s.length:=KN (i:=1) H;have I:=Ng (K:=K) (s:=AF (AO 58 s) 0) (by omega);have J:=Ng (K:=K) (s:=AF (AO 58 s) 1) (by omega);have C:(AO 58 s).length<=s.length+1:=c.2;by_cases h:(AO 58 s).length=2
 .have e:FJ 8 s=F7 (pR (AF (AO 58 s) 0)) (pR (AF (AO 58 s) 1)):=by simp only[FJ,if_pos h]
  rw[e]at a|-;refine qb Nm ?_;simp(disch:=omega) only[AD,Ak,Aj,Al];refine cB (Mc (by omega)) ?_;simp(disch:=omega) only[AD,h,Ak,Aj,Al];refine cB I ?_;simp(disch:=omega) only[AD,h,Ak,Aj,Al];refine cB J ?_;simp(disch:=omega) only[AD,Ak,Aj,Al];refine cB un_i ?_;simp(disch:=omega) only[AD,Ak,Aj,Al];refine cB a ?_
  cases o;exact wZ
  cases hq:r==s
  .simp(disch:=omega) only[AD,hq];try rfl
  simp(disch:=omega) only[AD,hq];try rfl
 have e:FJ 8 s=[]:=by simp only[FJ,if_neg h]
 rw[e]at a|-;refine qb Nm ?_;simp(disch:=omega) only[AD,Ak,Aj,Al];refine cB (Mc (by omega)) ?_;simp(disch:=omega) only[AD,h,Ak,Aj,Al];refine cB a ?_
 cases o;exact wZ
 cases hq:r==s
 .simp(disch:=omega) only[AD,hq];try rfl
 simp(disch:=omega) only[AD,hq];try rfl
theorem ra_i[HA K]{k s:List Nat}(l:s.length<=1048576):K 548 [.s k,.s s] [.s (E5 k s),.b (EA k s)]:=by
 by_cases H:BG k<9;by_cases hi:BG k=0\/BG k=1\/BG k=3\/BG k=8;have:=Ad7 (K:=K) (s:=s) l (BG k) hi;rwa [<-N7 H]at this;have hi:BG k=2\/BG k=4\/BG k=5\/BG k=6\/BG k=7:=by omega
 have ks:=szi (K:=K) (s:=s) l (BG k) hi;rw[<-N7 H]at ks;have e:∀j:Nat,j<9->BG k≠j->(k==AF Ai j)=false:=by intro j i a;refine beq_eq_false_iff_ne.2 λq=>a ?_;rw[q,ABR j i]
 exact ASZ l (e 0 (by omega) (by omega)) (e 1 (by omega) (by omega)) (e 3 (by omega) (by omega)) (e 8 (by omega) (by omega)) ks (λw c f g=>by rw[<-g];exact AjB c _ hi) (λ_=>H);have o:=λ(x:List Nat)(B:x∈Ai)=>QC H B;exact ASZ l (o _ (by simp[Ai])) (o _ (by simp[Ai])) (o _ (by simp[Ai])) (o _ (by simp[Ai])) (AcB H) (λw c f g=>absurd f H) (λh=>by omega)
theorem ASQ{k s:List Nat}:(E5 k s).length<=16:=by
 cases h:EA k s;unfold EA at h;unfold E5
 cases e:Hn k s with
 |none=>simp
 |some w=>rw[e]at h;cases h
 exact(Af (AKD h).1).l
noncomputable def Pe(a b s:List Nat):Bool:=EA a s&&DD b (E5 a s)
noncomputable def Jj(a b s:List Nat):List Nat:=if EA a s=true then Cz b (E5 a s)else []
theorem AjU[HA K]{a b s:List Nat}(l:s.length<=1048576)(H:∀c∈s,c<256):K 551 [.s a,.s b,.s s] [.s (Jj a b s),.b (Pe a b s)]:=by
 have e:=ra_s (K:=K) (k:=a) (s:=s) (by omega) H;have f:=ASQ (k:=a) (s:=s);unfold Jj Pe;refine qw I551 ?_;refine cB e ?_
 cases h:EA a s;exact wZ;refine wW ?_;exact cZ (AA7 (by omega))
theorem AbQ[HA K]{a b s:List Nat}(l:s.length<=1048576):K 552 [.s a,.s b,.s s] [.s (Jj a b s),.b (Pe a b s)]:=by
 have c:=ra_i (K:=K) (k:=a) (s:=s) (by omega);have H:=ASQ (k:=a) (s:=s);unfold Jj Pe;refine qw I552 ?_;refine cB c ?_
 cases h:EA a s;exact wZ;refine wW ?_;exact cZ (VD (by omega))
end Go.Cat
namespace Go.Cat
variable{K:Nat->List D->List D->Prop}
set_option maxRecDepth 100000
end Go.Cat
