/-
 ReadAs, PlaceIn, ConvertText: both sides.
-/
import Derived.Test.YthoilpmggmenbaaGreatPfRdE2
import Derived.Test.YthoilpmggmenbaaGreatPfRdE6
set_option linter.unusedSimpArgs false
set_option linter.unusedVariables false
namespace Go.Cat
set_option maxRecDepth 100000
variable{K:Nat->List D->List D->Prop}
theorem BT.XB:∀{x y:BT}{a b:List Nat},x.t++a=y.t++b->x=y/\a=b
 |.lf,.lf,a,b,h=>by simpa[BT.t]using h
 |.lf,.nd _ _,a,b,h=>by simp[BT.t]at h
 |.nd _ _,.lf,a,b,h=>by simp[BT.t]at h
 |.nd l r,.nd L R,a,b,h=>by simp only[BT.t,List.cons_append,CO,List.cons.injEq,true_and,List.nil_append]at h;obtain⟨c,e⟩:=BT.XB h;obtain⟨f,H⟩:=BT.XB e;subst c;subst f;simp only[List.cons.injEq,true_and]at H;exact⟨rfl,H⟩
theorem BT.tinj{x y:BT}(h:x.t=y.t):x=y:=(BT.XB (a:=[]) (b:=[]) (by rw[h])).1
open Classical in
noncomputable def HS(s:List Nat):List Nat:=if h:∃x:BT,x.n<=8/\s=x.t then h.choose.p else []
theorem Qs{x:BT}(h:x.n<=8):HS x.t=x.p:=by have e:∃y:BT,y.n<=8/\x.t=y.t:=⟨x,h,rfl⟩;simp only[HS,dif_pos e];rw[<-BT.tinj e.choose_spec.2]
theorem V1{s:List Nat}(h:Az s=false):HS s=[]:=by
 have:¬∃x:BT,x.n<=8/\s=x.t:=by rintro⟨x,H,rfl⟩;rw[GF H]at h;cases h
 simp only[HS,dif_neg this]
theorem AT7[HA K]{s:List Nat}:K 577 [.s s] [.s (HS s),.b (Az s)]:=by cases h:Az s;rw[V1 h];exact AFV h;obtain⟨x,rfl,H⟩:=FL h;rw[Qs H];exact Wt H
theorem AeT[HA K]{s:List Nat}:K 560 [.s s] [.s (HS s),.b (Az s)]:=by cases h:Az s;rw[V1 h];exact AiY h;obtain⟨x,rfl,H⟩:=FL h;rw[Qs H];exact Ad6 H
def Qx(s:List Nat):Bool:=Cl (AP 58 s)&&decide ((Bp (AP 58 s)).length=2)
def F1(s:List Nat):List Int:=s.map λ(c:Nat)=>(c:Int)-49
noncomputable def Ch:Nat->List Nat->List Nat
 |0,s=>s
 |1,s=>F5 s
 |2,s=>if CB (Bp (AP 44 s))=true then K5 (Bp (AP 44 s))else []
 |3,s=>HS s
 |4,s=>Ge s
 |5,s=>Ig (F8 s)
 |6,s=>Is (Ea s)
 |7,s=>DR (F1 s)
 |8,s=>if Qx s=true then FH (AB (Bp (AP 58 s)) 0) (AB (Bp (AP 58 s)) 1)else []
 |_,_=>[]
noncomputable def EX:Nat->List Nat->Bool
 |0,s=>AK s
 |1,s=>F6 s
 |2,s=>CB (Bp (AP 44 s))&&Cl (AP 44 s)
 |3,s=>Az s
 |4,s=>HP s
 |5,s=>Fq (F8 s)&&J2 s
 |6,s=>EG (Ea s)&&H8 s
 |7,s=>DE (F1 s)
 |8,s=>Qx s&&Di (AB (Bp (AP 58 s)) 0) (AB (Bp (AP 58 s)) 1)
 |_,_=>false
theorem AOS{w:List Nat}(hd:AK w=true):AP 58 (A8 w 8)=[AQ ((w.length/2:Nat):Int),AQ (CI w)]/\(0<=CI w/\CI w<=1430)/\Di ((w.length/2:Nat):Int) (CI w)=true/\FH ((w.length/2:Nat):Int) (CI w)=w/\(A8 w 8).length<=100:=by
 obtain⟨n,r,c,f,h,g,i,H,b⟩:=AhD hd;have j:=Ls hd;have e:w.length/2=n:=by omega
 have a:(w.length:Int)/2=(n:Int):=by omega
 rw[e,A8,a];refine⟨AMT (N7 rfl (by omega)) (N7 rfl (by omega)),by omega,by rw[h];exact b,by rw[h];exact H,?_⟩;have l:=Mv (x:=(n:Int)) (k:=2) (by omega) (by omega) (by omega);have o:=Mv (x:=CI w) (k:=4) (by omega) (by omega) (by omega);simp only[A4,AO,A6];omega
theorem LZ{w:List Nat}(hd:AK w=true):∀i:Nat,i<9->EX i (A8 w i)=true/\Ch i (A8 w i)=w/\(A8 w i).length<=100
 |0,_=>by
  have e:=(Af hd).l
  exact⟨hd,rfl,by simp only[A8];omega⟩
 |1,_=>by
  have e:=(Af hd).l
  obtain⟨H,a⟩:=AcD hd
  have:=OC (w:=w)
  exact⟨H,a,by simp only[A8];omega⟩
 |2,_=>by
  obtain⟨⟨H,a⟩,⟨b,c⟩,_,k⟩:=ALX hd
  refine⟨?_,?_,k⟩
  simp only[EX,H,a,b,Bool.and_self]
  simp only[Ch,a,b,c,if_true]
 |3,_=>by
  obtain⟨x,rfl,j⟩:=Jp hd
  have:=BT.tl x
  refine⟨?_,?_,?_⟩
  simp only[A8,EX,IM,GF j]
  simp only[A8,Ch,IM,Qs j]
  simp only[A8,IM];omega
 |4,_=>by
  obtain⟨H,_,b⟩:=AQK hd
  refine⟨?_,?_,b⟩
  simp only[EX,HP,H,Option.isSome_some]
  simp only[Ch,Ge,H,Option.getD_some]
 |5,_=>by
  obtain⟨H,⟨a,b⟩,_,c⟩:=AP6 hd
  refine⟨?_,?_,c⟩
  simp only[EX,J2,F8,H,a,Option.isSome_some,Option.getD_some,Bool.and_self]
  simp only[Ch,F8,H,b,Option.getD_some]
 |6,_=>by
  obtain⟨H,⟨a,b⟩,_,c⟩:=ANC hd
  refine⟨?_,?_,c⟩
  simp only[EX,H8,Ea,H,a,Option.isSome_some,Option.getD_some,Bool.and_self]
  simp only[Ch,Ea,H,b,Option.getD_some]
 |7,_=>by
  have e:=(Af hd).l
  obtain⟨H,⟨a,b⟩,c⟩:=AD1 hd
  refine⟨?_,?_,by omega⟩
  simp only[EX,F1,H,a]
  simp only[Ch,F1,H,b]
 |8,_=>by
  have e:=(Af hd).l
  obtain⟨H,q,a,b,c⟩:=AOS hd
  have o:0<=((w.length/2:Nat):Int)/\((w.length/2:Nat):Int)<=8:=by omega
  generalize ((w.length/2:Nat):Int)=m at H a b o
  have O:Cl [AQ m,AQ (CI w)]=true:=by
   simp[Cl,Lw (n:=m) (by omega),Lw (n:=CI w) (by omega)]
  have R:Bp [AQ m,AQ (CI w)]=[m,CI w]:=by
   rw[Bp,if_pos O];simp[Of]
  have N:Qx (A8 w 8)=true:=by simp only[Qx,H,O,R];rfl
  have f:AB [m,CI w] 0=m:=rfl
  have g:AB [m,CI w] 1=CI w:=rfl
  refine⟨?_,?_,c⟩
  simp only[EX,N,H,R,f,g,a,Bool.and_self]
  simp only[Ch,N,H,R,f,g,b,if_true]
 |i+9,h=>absurd h (by omega)
theorem AbE{w v:List Nat}(c:AK w=true)(b:AK v=true){i:Nat}(hi:i<9)(h:A8 w i=A8 v i):w=v:=by have H:=(LZ c i hi).2.1;have a:=(LZ b i hi).2.1;rw[<-H,h,a]
open Classical in
noncomputable def Hq(k s:List Nat):Option (List Nat):=if h:∃w,AK w=true/\BG k<9/\A8 w (BG k)=s then some h.choose else none
theorem AjI{k w:List Nat}(hd:AK w=true)(h:BG k<9):Hq k (A8 w (BG k))=some w:=by have e:∃v,AK v=true/\BG k<9/\A8 v (BG k)=A8 w (BG k):=⟨w,hd,h,rfl⟩;simp only[Hq,dif_pos e];rw[AbE e.choose_spec.1 hd h e.choose_spec.2.2]
theorem ASH{k s w:List Nat}(h:Hq k s=some w):AK w=true/\BG k<9/\A8 w (BG k)=s:=by
 unfold Hq at h;split at h;rename_i e;injection h with h;rw[<-h];exact e.choose_spec
 cases h
theorem Ag2{k s:List Nat}(h:∀w,AK w=true->BG k<9->A8 w (BG k)≠s):Hq k s=none:=by
 cases e:Hq k s with
 |none=>rfl
 |some w=>
  obtain⟨H,a,b⟩:=ASH e
  exact absurd b (h w H a)
noncomputable def EA(k s:List Nat):Bool:=(Hq k s).isSome
noncomputable def E5(k s:List Nat):List Nat:=(Hq k s).getD []
theorem AOJ{k w:List Nat}(hd:AK w=true)(h:BG k<9):EA k (A8 w (BG k))=true/\E5 k (A8 w (BG k))=w:=by simp[EA,E5,AjI hd h]
theorem AJX{k s:List Nat}(h:EA k s=true):AK (E5 k s)=true/\BG k<9/\A8 (E5 k s) (BG k)=s:=by
 unfold EA E5 at*
 cases e:Hq k s with
 |none=>rw[e]at h;cases h
 |some w=>exact ASH e
theorem QG{k s:List Nat}(h:∀w,AK w=true->BG k<9->A8 w (BG k)≠s):EA k s=false/\E5 k s=[]:=by simp[EA,E5,Ag2 h]
theorem AOM{k s T:List Nat}(i:∀w,AK w=true->BG k<9->A8 w (BG k)=s->T=w):EA k s=(Cz k T&&(Cs k T==s))/\(EA k s=true->E5 k s=T)/\(EA k s=false->E5 k s=[]):=by
 cases hO:EA k s;refine⟨?_,(λh=>by cases h),(λ_=>?_)⟩
 cases H:Cz k T;rfl
 cases q:Cs k T==s;rfl;exfalso;simp only[Cz,AV,Aa]at H;have e:Cs k T=A8 T (BG k):=by simp[Cs,Cz,H.1,H.2]
 rw[e,beq_iff_eq]at q;have:=(AOJ H.1 H.2).1;rw[q,hO]at this;cases this;unfold EA at hO;unfold E5
 cases e:Hq k s with
 |none=>rfl
 |some w=>rw[e]at hO;cases hO
 obtain⟨b,c,f⟩:=AJX hO;have e:=i _ b c f;have a:Cz k T=true:=by rw[e];simp[Cz,b,c]
 refine⟨?_,(λ_=>e.symm),(λh=>by cases h)⟩;have g:Cs k T=s:=by simp only[Cs,a,if_true];rw[e];exact f
 rw[a,g];simp
theorem Ye{ps:List (List Nat)}:(Bp ps).length<=ps.length:=by unfold Bp;split<;>simp
theorem AYC[HA K]{s:List Nat}(h:s.length<=1000):K 559 [.s (AG Ah 0),.s s] [.s (Ch 0 s),.b (EX 0 s)]:=by show K 559 [.s [112,97,116,104],.s s] [.s s,.b (AK s)];refine qb Jc ?_;simp(disch:=omega) only[AD,Ak,Ai,Al];refine cB (Br (by omega)) ?_;simp(disch:=omega) only[AD,Ak,Ai,Al];try rfl
theorem AZ5[HA K]{s:List Nat}(h:s.length<=1000):K 559 [.s (AG Ah 1),.s s] [.s (Ch 1 s),.b (EX 1 s)]:=by show K 559 [.s [98,114,97,99,107,101,116,115],.s s] [.s (F5 s),.b (F6 s)];refine qb Jc ?_;simp(disch:=omega) only[AD,Ak,Ai,Al];refine cB (AeW (by omega)) ?_;simp(disch:=omega) only[AD,Ak,Ai,Al];try rfl
theorem AkP[HA K]{s:List Nat}(h:s.length<=1000):K 559 [.s (AG Ah 2),.s s] [.s (Ch 2 s),.b (EX 2 s)]:=by
 have l:=Ye (ps:=AP 44 s);have H:=(Gj (b:=44) (s:=s) (acc:=[])).2;have a:=Ah0 (K:=K) (p:=Bp (AP 44 s)) (by simp only[AP]at *;omega);have k:=QS (K:=K) (s:=s) (b:=44) (by omega);show K 559 [.s [112,108,97,110,101],.s s] [.s (if CB (Bp (AP 44 s))=true then K5 (Bp (AP 44 s))else []),.b (CB (Bp (AP 44 s))&&Cl (AP 44 s))];generalize Bp (AP 44 s)=p at*;generalize Cl (AP 44 s)=o at*;refine qb Jc ?_;simp(disch:=omega) only[AD,Ak,Ai,Al];refine cB k ?_;simp(disch:=omega) only[AD,Ak,Ai,Al];refine cB a ?_
 cases o
 .refine wW ?_;try first|rfl|simp
 refine wW ?_;try first|rfl|simp
theorem Ae1[HA K]{s:List Nat}:K 559 [.s (AG Ah 3),.s s] [.s (Ch 3 s),.b (EX 3 s)]:=by show K 559 [.s [98,105,110,97,114,121],.s s] [.s (HS s),.b (Az s)];refine qb Jc ?_;simp(disch:=omega) only[AD,Ak,Ai,Al];refine cB AT7 ?_;simp(disch:=omega) only[AD,Ak,Ai,Al];try rfl
theorem AW8[HA K]{s:List Nat}(h:s.length<=1000)(H:∀c∈s,c<256):K 559 [.s (AG Ah 4),.s s] [.s (Ch 4 s),.b (EX 4 s)]:=by show K 559 [.s [100,105,97,103,111,110,97,108,115],.s s] [.s (Ge s),.b (HP s)];refine qb Jc ?_;simp(disch:=omega) only[AD,Ak,Ai,Al];refine cB (AfR h H) ?_;simp(disch:=omega) only[AD,Ak,Ai,Al];try rfl
theorem AhA[HA K]{s:List Nat}(h:s.length<=1000)(a:∀c∈s,c<256):K 559 [.s (AG Ah 5),.s s] [.s (Ch 5 s),.b (EX 5 s)]:=by
 have k:=AU8 (K:=K) (s:=s) (by omega) a;have g:(F8 s).length<=8:=by
  have hX:∀(n:Int)(t:List Nat)(p:List Int)(b:Int){q:List Int},HF n t p b=some q->q.length=p.length:=by
   intro n t;induction t with
   |nil=>intro p b q H;simp only[HF,AL]at H;rw[H]
   |cons c t i=>
    intro p b q H
    rw[HF]at H
    split at H
    .exact i _ _ H
    .split at H
     .have:=i _ _ H
      rwa [DO]at this
     .cases H
  unfold F8 Im;split;simp;rename_i a
  cases e:HF (Gh s) s (List.replicate (Gh s) (-1)) 0 with
  |none=>simp
  |some q=>
   have:=hX _ _ _ _ e
   simp only[List.length_replicate]at this
   simp only[Option.getD_some];omega
 have f:=ASK (K:=K) (p:=F8 s) (by omega);show K 559 [.s [112,97,114,116,105,116,105,111,110],.s s] [.s (Ig (F8 s)),.b (Fq (F8 s)&&J2 s)];generalize F8 s=p at*;generalize J2 s=o at*;refine qb Jc ?_;simp(disch:=omega) only[AD,Ak,Ai,Al];refine cB k ?_;simp(disch:=omega) only[AD,Ak,Ai,Al];refine cB f ?_
 cases o
 .refine wW ?_;try first|rfl|simp
 refine wW ?_;try first|rfl|simp
theorem AI7{s:List Nat}:(Ea s).length<=2*(s.length+1):=by
 have hX:∀(n:Int)(t:List (List Int))(p:List Int){q:List Int},H9 n t p=some q->q.length=p.length:=by
  intro n t;induction t with
  |nil=>intro p q h;simp only[H9,AL]at h;rw[h]
  |cons c t i=>
   intro p q h
   rw[H9]at h
   split at h
   .have:=i _ h
    rwa [DO,DO]at this
   .cases h
 have H:=(Gj (b:=32) (s:=s) (acc:=[])).2;unfold Ea F7;split;simp;split
 cases e:H9 (2*(AP 32 s).length:Nat) ((AP 32 s).map G8) (List.replicate (2*(AP 32 s).length) 0)with
 |none=>simp
 |some q=>
  have:=hX _ _ _ e
  simp only[List.length_replicate,AP]at this
  simp only[Option.getD_some];omega
 simp
theorem AY0[HA K]{s:List Nat}(h:s.length<=1000):K 559 [.s (AG Ah 6),.s s] [.s (Ch 6 s),.b (EX 6 s)]:=by
 have k:=AaU (K:=K) (s:=s) (by omega);have H:=AI7 (s:=s);have a:=AKF (K:=K) (m:=Ea s) (by omega);show K 559 [.s [109,97,116,99,104,105,110,103],.s s] [.s (Is (Ea s)),.b (EG (Ea s)&&H8 s)];generalize Ea s=p at*;generalize H8 s=o at*;refine qb Jc ?_;simp(disch:=omega) only[AD,Ak,Ai,Al];refine cB k ?_;simp(disch:=omega) only[AD,Ak,Ai,Al];refine cB a ?_
 cases o
 .refine wW ?_;try first|rfl|simp
 refine wW ?_;try first|rfl|simp
theorem AdU[HA K]{s:List Nat}(h:s.length<=1000)(H:∀c∈s,c<256):K 559 [.s (AG Ah 7),.s s] [.s (Ch 7 s),.b (EX 7 s)]:=by
 have k:=ANT (K:=K) (p:=F1 s) (by simpa[F1]using h);show K 559 [.s [112,101,114,109,117,116,97,116,105,111,110],.s s] [.s (DR (F1 s)),.b (DE (F1 s))];refine qb Jc ?_;simp(disch:=try exact dV) only[AD,AJO,Ak,Ai,Al];refine AN (λ_=>True) (λi=>[.u,.s s,.u,.u,.u,.u,.u,.u,.u,.u,.u,.u,.u,.u,.u,.u,LI (F1 (s.take i)),.n i,.u,.u,.u,.u,.u,.u,.u,.u,.u,.u,.u,.u,.u,.u,.u,.u,.u,.u,.u,.u,.u]) s.length trivial (by rfl) (λi hi _=>?_) (λ_=>?_);have a:=QB H (i:=(i:Int));have l:(F1 (s.take i)).length=i:=by simp[F1];omega
 have e:F1 (s.take (i+1))=F1 (s.take i)++[(AH s i:Int)-49]:=by rw[Fw hi];simp[F1]
 rw[e];simp(disch:=try exact dV) only[AD,Ak,Ai,Al];rw[List.take_length];simp(disch:=try exact dV) only[AD,Ak,Ai,Al];refine cB k ?_;simp(disch:=try exact dV) only[AD,Ak,Ai,Al];try rfl
theorem AY6[HA K]{s:List Nat}(h:s.length<=1000):K 559 [.s (AG Ah 8),.s s] [.s (Ch 8 s),.b (EX 8 s)]:=by
 have k:=QS (K:=K) (s:=s) (b:=58) (by omega);have l:=Ye (ps:=AP 58 s);have c:=(Gj (b:=58) (s:=s) (acc:=[])).2;have e:(Bp (AP 58 s)).length<=2000:=by simp only[AP]at *;omega
 have f:=un_s (K:=K) (a:=AB (Bp (AP 58 s)) 0) (b:=AB (Bp (AP 58 s)) 1);show K 559 [.s [114,97,110,107],.s s] [.s (if(Cl (AP 58 s)&&decide ((Bp (AP 58 s)).length=2))=true then FH (AB (Bp (AP 58 s)) 0) (AB (Bp (AP 58 s)) 1)else []),.b ((Cl (AP 58 s)&&decide ((Bp (AP 58 s)).length=2))&&Di (AB (Bp (AP 58 s)) 0) (AB (Bp (AP 58 s)) 1))];clear l c;generalize Bp (AP 58 s)=p at*;generalize Cl (AP 58 s)=o at*;refine qb Jc ?_;simp(disch:=omega) only[AD,Ak,Ai,Al];refine cB k ?_
 cases o;exact wZ;by_cases H:p.length=2
 .simp(disch:=omega) only[AD,H];refine cB f ?_;simp(disch:=omega) only[AD,Ak,Ai,Al];try simp[H]
 simp(disch:=omega) only[AD,H];try simp[H]
theorem AdT[HA K]{s:List Nat}(h:s.length<=1000)(H:∀c∈s,c<256):∀i:Nat,i<9->K 559 [.s (AG Ah i),.s s] [.s (Ch i s),.b (EX i s)]
 |0,_=>AYC h
 |1,_=>AZ5 h
 |2,_=>AkP h
 |3,_=>Ae1
 |4,_=>AW8 h H
 |5,_=>AhA h H
 |6,_=>AY0 h
 |7,_=>AdU h H
 |8,_=>AY6 h
 |i+9,q=>absurd q (by omega)
theorem AaG{k w:List Nat}:(Cs k w).length<=5000:=by unfold Cs;split;rename_i h;simp only[Cz,AV]at h;exact RA h.1 _;simp
theorem AGH:∀{st:List Int}{n:Int},(Cm st n).1.length+(Cm st n).2.1.length=st.length
 |[],_=>rfl
 |y::st,n=>by have i:=AGH (st:=st) (n:=n+1);unfold Cm;split;simp only[AO];omega;simp
theorem AL0:∀{p st:List Int}{n:Int},(Dh p st n).length<=2*p.length+st.length
 |[],_,_=>by simp[Dh]
 |x::p,st,n=>by have h:=AGH (st:=x::st) (n:=n);have H:=AL0 (p:=p) (st:=(Cm (x::st) n).2.1) (n:=(Cm (x::st) n).2.2);simp only[Dh,AO,A4]at *;omega
theorem AVU{s:List Nat}:(Ge s).length<=16:=by unfold Ge HH;split;rename_i h;have H:=Vw h.2.2;have:=BT.pl (Ij (pR (s.take (CA s))) (GG (s.drop (CA s+2))));simp only[Option.getD_some];omega;simp
theorem AWP{s:List Nat}:(HS s).length<=16:=by cases h:Az s;rw[V1 h];simp;obtain⟨x,rfl,H⟩:=FL h;have:=BT.pl x;rw[Qs H];omega
theorem AdQ{p:List Int}(h:CB p=true):(K5 p).length<=200:=by
 obtain⟨⟨a,c⟩,H⟩:=Xl h;have b:∀k:Nat,k<=p.length-1->0<=AB (D0 p p.length) k/\AB (D0 p p.length) k<=9:=by intro k f;have:=Ul H (i:=p.length) (k:=k) (by omega) (by omega);omega
 have G:=Ro b (Nat.le_refl _);have g:=b (p.length-1) (by omega);have e:((p.length-1:Nat):Int)=(p.length:Int)-1:=by omega
 rw[e]at g;simp only[K5,A4,List.length_replicate];omega
theorem AfX{p:List Int}(h:CW p=true)(j:Nat):(AF (Ar p p.length) (AB p j)).length<=8:=by
 by_cases q:(AB p j).toNat<(Ar p p.length).length;have e:Ar p p.length=CJ p:=by simp[CJ,h]
 have H:AF (Ar p p.length) (AB p j)∈CJ p:=by rw[<-e];simp[AF,q]
 exact(To H).1;have:AF (Ar p p.length) (AB p j)=[]:=by simp[AF,Nat.le_of_not_lt q]
 rw[this];simp
theorem Ad8{p:List Int}:(Ig p).length<=200:=by unfold Ig;split;rename_i h;simp only[Fq,AV]at h;have H:=AFW h.1;have:=W6 (p:=p) (b:=Ar p p.length) (λj _=>AfX h.1 j) (Nat.le_refl _);omega;simp
theorem TE{s:List Nat}(h:s.length<=1048576):∀i:Nat,(Ch i s).length<=1000000000
 |0=>by simp only[Ch];omega
 |1=>by have:=Pp (s:=s);simp only[Ch,F5];split;omega;simp
 |2=>by simp only[Ch];split;rename_i h;have:=AdQ h;omega;simp
 |3=>by have:=AWP (s:=s);simp only[Ch];omega
 |4=>by have:=AVU (s:=s);simp only[Ch];omega
 |5=>by have:=Ad8 (p:=F8 s);simp only[Ch];omega
 |6=>by have:=AI7 (s:=s);have H:=Wm (m:=Ea s) (Ea s).length;simp only[Ch,Is];split;omega;simp
 |7=>by
  have:=AL0 (p:=F1 s) (st:=[]) (n:=0);have e:(F1 s).length=s.length:=by simp[F1]
  simp only[Ch,DR];split;simp only[A6]at this;omega;simp
 |8=>by simp only[Ch];split;have:=ADX (a:=AB (Bp (AP 58 s)) 0) (b:=AB (Bp (AP 58 s)) 1);omega;simp
 |i+9=>by simp[Ch]
theorem ra_s[HA K]{k s:List Nat}(F:s.length<=1099511627776)(C:∀c∈s,c<256):K 547 [.s k,.s s] [.s (E5 k s),.b (EA k s)]:=by
 have e:=Un (K:=K) (ws:=Ah) (k:=k) (by decide);rw[Ae8]at e;by_cases h:BG k<9
 .by_cases q:s.length<=100
  .have f:=AdT (K:=K) (s:=s) (by omega) C (BG k) h;have kl:=TE (s:=s) (by omega) (BG k);rw[<-NV h]at f;have x:∀w,AK w=true->BG k<9->A8 w (BG k)=s->EX (BG k) s=true/\Ch (BG k) s=w:=by rintro w a H rfl;exact⟨(LZ a _ H).1,(LZ a _ H).2.1⟩
   generalize Ch (BG k) s=T at*
   cases hO:EX (BG k) s;obtain⟨j,l⟩:=QG (k:=k) (s:=s) (λw a H i=>by have:=(x w a H i).1;rw[hO]at this;cases this);rw[j,l];rw[hO]at f;refine qw NP ?_;refine cB Jj ?_;simp(disch:=omega) only[AD,h];refine cB e ?_;simp(disch:=omega) only[AD,h];exact cZ f;obtain⟨g,B,G⟩:=AOM (k:=k) (s:=s) (T:=T) (λw a H i=>(x w a H i).2);rw[hO]at f;have o:=AEX (K:=K) (k:=k) (w:=T) kl
   cases ew:Cz k T;rw[ew,Bool.false_and]at g;rw[g,G g];rw[ew]at o;refine qw NP ?_;refine cB Jj ?_;simp(disch:=omega) only[AD,h];refine cB e ?_;simp(disch:=omega) only[AD,h];refine cW f ?_;exact cZ o;rw[ew,Bool.true_and]at g;rw[ew]at o
   cases eq:Cs k T==s
   .rw[eq]at g;rw[g,G g];refine qw NP ?_;refine cB Jj ?_;simp(disch:=omega) only[AD,h];refine cB e ?_;simp(disch:=omega) only[AD,h];refine cW f ?_;refine cB o ?_;simp(disch:=omega) only[AD,eq];try rfl
   rw[eq]at g;rw[g,B g];refine qw NP ?_;refine cB Jj ?_;simp(disch:=omega) only[AD,h];refine cB e ?_;simp(disch:=omega) only[AD,h];refine cW f ?_;refine cB o ?_;simp(disch:=omega) only[AD,eq];try rfl
  obtain⟨j,l⟩:=QG (k:=k) (s:=s) (λw a H i=>by have:=(LZ a _ H).2.2;rw[i]at this;omega);rw[j,l];refine qw NP ?_;refine cB Jj ?_;simp(disch:=omega) only[AD,h];refine cB e ?_;simp(disch:=omega) only[AD,h];try rfl
 obtain⟨j,l⟩:=QG (k:=k) (s:=s) (λw a H i=>absurd H h);rw[j,l];refine qw NP ?_;refine cB Jj ?_;simp(disch:=omega) only[AD,h];refine cB e ?_;simp(disch:=omega) only[AD,h];try rfl
def Lo:Nat->List Nat->Int
 |2,s=>AA s 44
 |4,s=>pR (AG (AP 58 s) 0)-2
 |5,s=>(s.length:Int)-AA s 124
 |6,s=>AA s 45
 |7,s=>s.length
 |_,_=>-1
theorem AdY{w:List Nat}(hd:AK w=true):∀i:Nat,(i=2\/i=4\/i=5\/i=6\/i=7)->Lo i (A8 w i)=((w.length/2:Nat):Int):=by
 have H:=(Af hd).l;rintro i (rfl|rfl|rfl|rfl|rfl);have:=(ALX hd).2.2.1;simp only[Lo];omega;obtain⟨_,⟨r,h⟩,_⟩:=AQK hd;have e:AG (AP 58 (A8 w 4)) 0=AQ (((w.length/2:Nat):Int)+2):=by rw[h];rfl
 simp only[Lo,e,Q6 (n:=((w.length/2:Nat):Int)+2) (by omega)];omega;have:=(AP6 hd).2.2.1;simp only[Lo];omega;have:=(ANC hd).2.2.1;simp only[Lo];omega;have:=(AD1 hd).2.2;simp only[Lo];omega
theorem szi[HA K]{s:List Nat}(h:s.length<=1048576):∀i:Nat,(i=2\/i=4\/i=5\/i=6\/i=7)->K 563 [.s (AG Ah i),.s s] [.n (Lo i s)]:=by
 have a:=λc=>PD (w:=s) (c:=c);rintro i (rfl|rfl|rfl|rfl|rfl)
 .show K 563 [.s [112,108,97,110,101],.s s] [.n (AA s 44)];refine qb MO ?_;simp(disch:=omega) only[AD,Ak,Ai,Al];refine cB (Tw (by omega)) ?_;simp(disch:=omega) only[AD,Ak,Ai,Al];try rfl
 .have H:=Gj (b:=58) (s:=s) (acc:=[]);have l:(AG (AP 58 s) 0).length<=s.length:=by have:=KB (ws:=AP 58 s) (b:=s.length) (i:=0) (λp f=>by have:=Li f;simp only[A6]at this;omega);exact this
  have k:=NM (K:=K) (s:=AG (AP 58 s) 0) (by omega);have g:=AAV (s:=AG (AP 58 s) 0);have e:0<(AP 58 s).length:=H.1;show K 563 [.s [100,105,97,103,111,110,97,108,115],.s s] [.n (pR (AG (AP 58 s) 0)-2)];refine qb MO ?_;simp(disch:=omega) only[AD,Ak,Ai,Al];refine cB (Nf (by omega)) ?_;simp(disch:=omega) only[AD,Ak,Ai,Al];refine cB k ?_;simp(disch:=omega) only[AD,Ak,Ai,Al];try rfl
 .have:=a 124;show K 563 [.s [112,97,114,116,105,116,105,111,110],.s s] [.n ((s.length:Int)-AA s 124)];refine qb MO ?_;simp(disch:=omega) only[AD,Ak,Ai,Al];refine cB (Tw (by omega)) ?_;simp(disch:=omega) only[AD,Ak,Ai,Al];try rfl
 .show K 563 [.s [109,97,116,99,104,105,110,103],.s s] [.n (AA s 45)];refine qb MO ?_;simp(disch:=omega) only[AD,Ak,Ai,Al];refine cB (Tw (by omega)) ?_;simp(disch:=omega) only[AD,Ak,Ai,Al];try rfl
 show K 563 [.s [112,101,114,109,117,116,97,116,105,111,110],.s s] [.n s.length];refine qb MO ?_;simp(disch:=omega) only[AD,Ak,Ai,Al];try rfl
theorem AhU[HA K]{k s:List Nat}(h:¬BG k<9):K 563 [.s k,.s s] [.n (-1)]:=by have o:=λ(x:List Nat)(H:x∈Ah)=>QH h H;have q:=o [112,108,97,110,101] (by simp[Ah]);have Q:=o [100,105,97,103,111,110,97,108,115] (by simp[Ah]);have a:=o [112,97,114,116,105,116,105,111,110] (by simp[Ah]);have b:=o [109,97,116,99,104,105,110,103] (by simp[Ah]);have c:=o [112,101,114,109,117,116,97,116,105,111,110] (by simp[Ah]);refine qb MO ?_;simp(disch:=omega) only[AD,q,Q,a,b,c,Ak,Ai,Al];try rfl
theorem AAX[HA K]{k s:List Nat}{n:Int}(O:s.length<=1048576)
  (Q:(k==[112,97,116,104])=false) (I:(k==[98,114,97,99,107,101,116,115])=false) (J:(k==[98,105,110,97,114,121])=false) (L:(k==[114,97,110,107])=false)
  (ks:K 563 [.s k,.s s] [.n n]) (q:∀w,AK w=true->BG k<9->A8 w (BG k)=s->n=((w.length/2:Nat):Int)) (C:0<=n->BG k<9):
  K 548 [.s k,.s s] [.s (E5 k s),.b (EA k s)]:=by
 refine qb Mi ?_;simp(disch:=omega) only[AD,Q,I,J,L,Ak,Ai,Al];refine cB ks ?_;simp(disch:=omega) only[AD,Ak,Ai,Al];refine cB Bq ?_
 cases hi:AR 0 8 n
 .have hi:=JB.1 hi;obtain⟨a,c⟩:=QG (k:=k) (s:=s) (λw H g f=>by have:=q w H g f;have:=(Af H).l;omega);rw[a,c];simp(disch:=omega) only[AD,Ak,Ai,Al];try rfl
 .have hi:=A5.1 hi;have o:=C hi.1;obtain⟨m,rfl⟩:=CE hi.1;have R:=AkB (n:=m) (by omega);simp(disch:=omega) only[AD,Ak,Ai,Al];refine cB (Aa8 (by omega)) ?_;simp(disch:=omega) only[AD,Ak,Ai,Al];refine AN (λi=>∀x∈(AI m).take i,A8 x (BG k)≠s) (λi=>[.s k,.s s,.u,.u,.u,.u,.u,.u,.u,.u,.u,.u,.u,.u,.u,LS (AI m),.n (AI m).length,.n i,.u,.u,.u,.u,.u,.u,.u,.u]) (AI m).length (by simp) rfl (λi hi P=>?_) (λP=>?_)
  .obtain⟨hd,F⟩:=(Xy (n:=m) (w:=AG (AI m) i) (by omega)).1 (by simp[AG,hi]);have j:=XS (K:=K) (k:=k) (w:=AG (AI m) i) (by omega);have e:Cs k (AG (AI m) i)=A8 (AG (AI m) i) (BG k):=by simp[Cs,Cz,hd,o]
   rw[e]at j
   cases hq:A8 (AG (AI m) i) (BG k)==s
   .refine wW ?_;refine cB j ?_;simp(disch:=omega) only[AD,hq,Ak,Ai,Al];intro x B;rw[YX hi]at B;rcases Ac.1 B with h|h
    .exact P x h
    .rw[List.mem_singleton.1 h];exact beq_eq_false_iff_ne.1 hq
   .have G:=beq_iff_eq.1 hq;obtain⟨a,c⟩:=AOJ (k:=k) hd o;rw[G]at a c;rw[a,c];simp(disch:=omega) only[AD,Ak,Ai,Al];refine cB j ?_;simp(disch:=omega) only[AD,hq,Ak,Ai,Al];try rfl
  .rw[List.take_length]at P;obtain⟨a,c⟩:=QG (k:=k) (s:=s) (λw H g f=>by have M:=q w H g f;have N:=(Nt H).1.2.1;exact P w ((Xy (by omega)).2 ⟨H,by omega⟩) f);rw[a,c];simp(disch:=omega) only[AD,Ak,Ai,Al];try rfl
noncomputable def F4:Nat->List Nat->List Nat
 |0,s=>s
 |1,s=>F5 s
 |3,s=>HS s
 |8,s=>if(AP 58 s).length=2 then FH (pR (AG (AP 58 s) 0)) (pR (AG (AP 58 s) 1))else []
 |_,_=>[]
theorem AdS{w:List Nat}(hd:AK w=true):∀i:Nat,(i=0\/i=1\/i=3\/i=8)->F4 i (A8 w i)=w:=by rintro i (rfl|rfl|rfl|rfl);rfl;exact(LZ hd 1 (by omega)).2.1;exact(LZ hd 3 (by omega)).2.1;have g:=(Af hd).l;obtain⟨h,f,c,H,e⟩:=AOS hd;have a:AG [AQ ((w.length/2:Nat):Int),AQ (CI w)] 0=AQ ((w.length/2:Nat):Int):=rfl;have b:AG [AQ ((w.length/2:Nat):Int),AQ (CI w)] 1=AQ (CI w):=rfl;simp only[F4,h,a,b];rw[if_pos (show [AQ ((w.length/2:Nat):Int),AQ (CI w)].length=2 from rfl),Q6 (by omega),Q6 (by omega),H]
theorem AbR{s:List Nat}(h:s.length<=1048576):∀i:Nat,(i=0\/i=1\/i=3\/i=8)->(F4 i s).length<=1000000000:=by rintro i (rfl|rfl|rfl|rfl);exact TE h 0;exact TE h 1;exact TE h 3;simp only[F4];split;have:=ADX (a:=pR (AG (AP 58 s) 0)) (b:=pR (AG (AP 58 s) 1));omega;simp
theorem Ad7[HA K]{s:List Nat}(B:s.length<=1048576):∀i:Nat,(i=0\/i=1\/i=3\/i=8)->K 548 [.s (AG Ah i),.s s] [.s (E5 (AG Ah i) s),.b (EA (AG Ah i) s)]:=by
 intro i hi;have f:=ANR i (by omega);have x:=AbR B i hi;obtain⟨g,G,j⟩:=AOM (k:=AG Ah i) (s:=s) (T:=F4 i s) (λw q h l=>by rw[f]at l;rw[<-l];exact AdS q i hi);have a:=XS (K:=K) (k:=AG Ah i) (w:=F4 i s) x;have fin:E5 (AG Ah i) s=if(Cz (AG Ah i) (F4 i s)&&(Cs (AG Ah i) (F4 i s)==s))=true then F4 i s else []:=by cases hO:EA (AG Ah i) s;rw[<-g,hO];exact j hO;rw[<-g,hO];exact G hO
 rw[fin,g];clear g G j fin f;generalize Cz (AG Ah i) (F4 i s)=o at*;generalize Cs (AG Ah i) (F4 i s)=r at*;rcases hi with rfl|rfl|rfl|rfl
 .have a:K 524 [.s [112,97,116,104],.s s] [.s r,.b o]:=a;show K 548 [.s [112,97,116,104],.s s] [.s (if(o&&(r==s))=true then s else []),.b (o&&(r==s))];refine qb Mi ?_;simp(disch:=omega) only[AD,Ak,Ai,Al];refine cB a ?_
  cases o;exact wZ
  cases hq:r==s
  .simp(disch:=omega) only[AD,hq];try rfl
  simp(disch:=omega) only[AD,hq];try rfl
 .have a:K 524 [.s [98,114,97,99,107,101,116,115],.s (F5 s)] [.s r,.b o]:=a;show K 548 [.s [98,114,97,99,107,101,116,115],.s s] [.s (if(o&&(r==s))=true then F5 s else []),.b (o&&(r==s))];refine qb Mi ?_;simp(disch:=omega) only[AD,Ak,Ai,Al];refine cB (AYR (by omega)) ?_;simp(disch:=omega) only[AD,Ak,Ai,Al];refine cB a ?_
  cases o;exact wZ
  cases hq:r==s
  .simp(disch:=omega) only[AD,hq];try rfl
  simp(disch:=omega) only[AD,hq];try rfl
 .have a:K 524 [.s [98,105,110,97,114,121],.s (HS s)] [.s r,.b o]:=a;show K 548 [.s [98,105,110,97,114,121],.s s] [.s (if(o&&(r==s))=true then HS s else []),.b (o&&(r==s))];refine qb Mi ?_;simp(disch:=omega) only[AD,Ak,Ai,Al];refine cB AeT ?_;simp(disch:=omega) only[AD,Ak,Ai,Al];refine cB a ?_
  cases o;exact wZ
  cases hq:r==s
  .simp(disch:=omega) only[AD,hq];try rfl
  simp(disch:=omega) only[AD,hq];try rfl
 have a:K 524 [.s [114,97,110,107],.s (F4 8 s)] [.s r,.b o]:=a;show K 548 [.s [114,97,110,107],.s s] [.s (if(o&&(r==s))=true then F4 8 s else []),.b (o&&(r==s))];have c:=Gj (b:=58) (s:=s) (acc:=[]);have H:∀p∈AP 58 s,p.length<=s.length:=λp F=>by have:=Li F;simp only[A6]at this;omega
 have P:(AG (AP 58 s) 0).length<=s.length:=KB (i:=0) H;have L:(AG (AP 58 s) 1).length<=s.length:=KB (i:=1) H;have I:=NM (K:=K) (s:=AG (AP 58 s) 0) (by omega);have J:=NM (K:=K) (s:=AG (AP 58 s) 1) (by omega);have C:(AP 58 s).length<=s.length+1:=c.2;by_cases h:(AP 58 s).length=2
 .have e:F4 8 s=FH (pR (AG (AP 58 s) 0)) (pR (AG (AP 58 s) 1)):=by simp only[F4,if_pos h]
  rw[e]at a|-;refine qb Mi ?_;simp(disch:=omega) only[AD,Ak,Ai,Al];refine cB (Nf (by omega)) ?_;simp(disch:=omega) only[AD,h,Ak,Ai,Al];refine cB I ?_;simp(disch:=omega) only[AD,h,Ak,Ai,Al];refine cB J ?_;simp(disch:=omega) only[AD,Ak,Ai,Al];refine cB un_i ?_;simp(disch:=omega) only[AD,Ak,Ai,Al];refine cB a ?_
  cases o;exact wZ
  cases hq:r==s
  .simp(disch:=omega) only[AD,hq];try rfl
  simp(disch:=omega) only[AD,hq];try rfl
 have e:F4 8 s=[]:=by simp only[F4,if_neg h]
 rw[e]at a|-;refine qb Mi ?_;simp(disch:=omega) only[AD,Ak,Ai,Al];refine cB (Nf (by omega)) ?_;simp(disch:=omega) only[AD,h,Ak,Ai,Al];refine cB a ?_
 cases o;exact wZ
 cases hq:r==s
 .simp(disch:=omega) only[AD,hq];try rfl
 simp(disch:=omega) only[AD,hq];try rfl
theorem ra_i[HA K]{k s:List Nat}(l:s.length<=1048576):K 548 [.s k,.s s] [.s (E5 k s),.b (EA k s)]:=by
 by_cases H:BG k<9;by_cases hi:BG k=0\/BG k=1\/BG k=3\/BG k=8;have:=Ad7 (K:=K) (s:=s) l (BG k) hi;rwa [<-NV H]at this;have hi:BG k=2\/BG k=4\/BG k=5\/BG k=6\/BG k=7:=by omega
 have ks:=szi (K:=K) (s:=s) l (BG k) hi;rw[<-NV H]at ks;have e:∀j:Nat,j<9->BG k≠j->(k==AG Ah j)=false:=by intro j i a;refine beq_eq_false_iff_ne.2 λq=>a ?_;rw[q,ANR j i]
 exact AAX l (e 0 (by omega) (by omega)) (e 1 (by omega) (by omega)) (e 3 (by omega) (by omega)) (e 8 (by omega) (by omega)) ks (λw c f g=>by rw[<-g];exact AdY c _ hi) (λ_=>H);have o:=λ(x:List Nat)(B:x∈Ah)=>QH H B;exact AAX l (o _ (by simp[Ah])) (o _ (by simp[Ah])) (o _ (by simp[Ah])) (o _ (by simp[Ah])) (AhU H) (λw c f g=>absurd f H) (λh=>by omega)
theorem AHU{k s:List Nat}:(E5 k s).length<=16:=by
 cases h:EA k s;unfold EA at h;unfold E5
 cases e:Hq k s with
 |none=>simp
 |some w=>rw[e]at h;cases h
 exact(Af (AJX h).1).l
noncomputable def QN(a b s:List Nat):Bool:=EA a s&&Cz b (E5 a s)
noncomputable def Jg(a b s:List Nat):List Nat:=if EA a s=true then Cs b (E5 a s)else []
theorem AdO[HA K]{a b s:List Nat}(l:s.length<=1048576)(H:∀c∈s,c<256):K 551 [.s a,.s b,.s s] [.s (Jg a b s),.b (QN a b s)]:=by
 have e:=ra_s (K:=K) (k:=a) (s:=s) (by omega) H;have f:=AHU (k:=a) (s:=s);unfold Jg QN;refine qw I551 ?_;refine cB e ?_
 cases h:EA a s;exact wZ;refine wW ?_;exact cZ (AEX (by omega))
theorem Ag7[HA K]{a b s:List Nat}(l:s.length<=1048576):K 552 [.s a,.s b,.s s] [.s (Jg a b s),.b (QN a b s)]:=by
 have c:=ra_i (K:=K) (k:=a) (s:=s) (by omega);have H:=AHU (k:=a) (s:=s);unfold Jg QN;refine qw I552 ?_;refine cB c ?_
 cases h:EA a s;exact wZ;refine wW ?_;exact cZ (XS (by omega))
end Go.Cat
