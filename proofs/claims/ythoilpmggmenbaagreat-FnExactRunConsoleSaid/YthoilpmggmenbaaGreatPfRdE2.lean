/-
 Plane trees, read back from the text of a path.
-/
import Derived.Test.YthoilpmggmenbaaGreatPfRdE5
set_option linter.unusedSimpArgs false
set_option linter.unusedVariables false
namespace Go.Cat
set_option maxRecDepth 100000
def FG(w:List Nat):Bool:=CB (Cp w)&&(decide (K5 (Cp w)=w)&&decide ((Cp w).length=w.length/2+1))
theorem re2a:BR 7 (λn=>(AI n).all FG)=true:=by kernel_rfl
theorem AbS:(((AI 7).drop (143*0)).take 143).all FG=true:=by kernel_rfl
theorem AcG:(((AI 7).drop (143*1)).take 143).all FG=true:=by kernel_rfl
theorem AX6:(((AI 7).drop (143*2)).take 143).all FG=true:=by kernel_rfl
theorem AWC:(AI 7).all FG=true:=IY (by omega) Pn λj H=>match j,H with
 |0,_=>AbS
 |1,_=>AcG
 |2,_=>AX6
 |j+3,h=>absurd h (by omega)
theorem AkS:(((AI 8).drop (143*0)).take 143).all FG=true:=by kernel_rfl
theorem AhX:(((AI 8).drop (143*1)).take 143).all FG=true:=by kernel_rfl
theorem AgP:(((AI 8).drop (143*2)).take 143).all FG=true:=by kernel_rfl
theorem AYL:(((AI 8).drop (143*3)).take 143).all FG=true:=by kernel_rfl
theorem AT2:(((AI 8).drop (143*4)).take 143).all FG=true:=by kernel_rfl
theorem AWB:(((AI 8).drop (143*5)).take 143).all FG=true:=by kernel_rfl
theorem AX1:(((AI 8).drop (143*6)).take 143).all FG=true:=by kernel_rfl
theorem AkA:(((AI 8).drop (143*7)).take 143).all FG=true:=by kernel_rfl
theorem Ah2:(((AI 8).drop (143*8)).take 143).all FG=true:=by kernel_rfl
theorem AhT:(((AI 8).drop (143*9)).take 143).all FG=true:=by kernel_rfl
theorem AT1:(AI 8).all FG=true:=IY (by omega) P7 λj H=>match j,H with
 |0,_=>AkS
 |1,_=>AhX
 |2,_=>AgP
 |3,_=>AYL
 |4,_=>AT2
 |5,_=>AWB
 |6,_=>AX1
 |7,_=>AkA
 |8,_=>Ah2
 |9,_=>AhT
 |j+10,h=>absurd h (by omega)
theorem ALX{w:List Nat}(hd:AK w=true):(Cl (AP 44 (A8 w 2))=true/\Bp (AP 44 (A8 w 2))=Cp w)/\(CB (Cp w)=true/\K5 (Cp w)=w)/\AA (A8 w 2) 44=w.length/2/\(A8 w 2).length<=100:=by
 have h:=Pj re2a AWC AT1 hd;simp only[FG,AV,Aa]at h;obtain⟨c,s,F⟩:=h;obtain⟨C,G⟩:=Ra c;have a:∀x∈Cp w,-1<=x/\x<=100:=by intro x H;obtain⟨i,hi,rfl⟩:=List.mem_iff_getElem.1 H;have:=G i hi;simpa[AB,hi]using this
 have e:A8 w 2=sep 44 ((Cp w).map AQ):=by rw[A8,IT,if_pos c,Lg,Ev]
 have o:∀p∈(Cp w).map AQ,44∉p:=by intro p j;obtain⟨x,_,rfl⟩:=List.mem_map.1 j;exact N7 rfl (by omega)
 have g:(Cp w).map AQ≠[]:=by intro q;have:=congrArg List.length q;simp only[List.length_map,A6]at this;omega
 have k:=Qy g o;have O:Cl ((Cp w).map AQ)=true:=by simp only[Cl,Ao,List.mem_map];rintro p ⟨x,H,rfl⟩;have:=a x H;exact Lw (by omega)
 have R:Bp ((Cp w).map AQ)=Cp w:=by
  rw[Bp,if_pos O,List.map_map];conv=>rhs;rw[<-List.map_id (Cp w)]
  exact List.map_congr_left λx _=>Of
 have f:∀p∈(Cp w).map AQ,p.length<=3:=by
  intro p j;obtain⟨x,H,rfl⟩:=List.mem_map.1 j;have H:=a x H;by_cases q:x=-1;subst q;have l:C9 0=[]:=by simp[C9]
  simp[AQ,HR,l];exact Mv (by omega) (by omega) (by omega)
 have B:=TG (b:=44) f;rw[List.length_map]at B;refine⟨⟨by rw[e,k];exact O,by rw[e,k];exact R⟩,⟨c,s⟩,?_,by rw[e];omega⟩;rw[e,ALK o,List.length_map];omega
end Go.Cat
namespace Go.Cat
set_option maxRecDepth 100000
def Iq(d:List (List Int)):List Nat:=if d.length=0 then [110,111,110,101]else sep 32 (d.map λr=>[48+(AB r 0).toNat,48+(AB r 1).toNat])
def FT(w:List Nat):Bool:=decide ((C3 w).p=w)&&((BO (C3 w)).all Ee&&(decide ((BO (C3 w)).length<=7)&&(decide (GG (Iq (BO (C3 w)))=BO (C3 w))&&(Ck ((C3 w).n+2) (BO (C3 w))&&decide ((Ij ((C3 w).n+2) (BO (C3 w))).p=w)))))
theorem re4a:BR 7 (λn=>(AI n).all FT)=true:=by kernel_rfl
theorem AaJ:(((AI 7).drop (143*0)).take 143).all FT=true:=by kernel_rfl
theorem Af3:(((AI 7).drop (143*1)).take 143).all FT=true:=by kernel_rfl
theorem AYG:(((AI 7).drop (143*2)).take 143).all FT=true:=by kernel_rfl
theorem AeL:(AI 7).all FT=true:=IY (by omega) Pn λj H=>match j,H with
 |0,_=>AaJ
 |1,_=>Af3
 |2,_=>AYG
 |j+3,h=>absurd h (by omega)
theorem AgT:(((AI 8).drop (143*0)).take 143).all FT=true:=by kernel_rfl
theorem AeR:(((AI 8).drop (143*1)).take 143).all FT=true:=by kernel_rfl
theorem AeH:(((AI 8).drop (143*2)).take 143).all FT=true:=by kernel_rfl
theorem AVX:(((AI 8).drop (143*3)).take 143).all FT=true:=by kernel_rfl
theorem ATD:(((AI 8).drop (143*4)).take 143).all FT=true:=by kernel_rfl
theorem AiP:(((AI 8).drop (143*5)).take 143).all FT=true:=by kernel_rfl
theorem AeJ:(((AI 8).drop (143*6)).take 143).all FT=true:=by kernel_rfl
theorem Ah5:(((AI 8).drop (143*7)).take 143).all FT=true:=by kernel_rfl
theorem AkN:(((AI 8).drop (143*8)).take 143).all FT=true:=by kernel_rfl
theorem AVP:(((AI 8).drop (143*9)).take 143).all FT=true:=by kernel_rfl
theorem AV0:(AI 8).all FT=true:=IY (by omega) P7 λj H=>match j,H with
 |0,_=>AgT
 |1,_=>AeR
 |2,_=>AeH
 |3,_=>AVX
 |4,_=>ATD
 |5,_=>AiP
 |6,_=>AeJ
 |7,_=>Ah5
 |8,_=>AkN
 |9,_=>AVP
 |j+10,h=>absurd h (by omega)
theorem AML:∀{a r:List Nat},58∉a->CA (a++58::r)=a.length
 |[],r,_=>by simp[CA]
 |c::t,r,h=>by
  simp only[A7,not_or]at h;have:=AML (a:=t) (r:=r) h.2;have H:decide (c≠58)=true:=by simpa using λq=>h.1 q.symm
  unfold CA at this|-;rw[List.cons_append,List.takeWhile_cons,if_pos H,AO,this,AO]
theorem AZJ{d:List (List Int)}(h:d.all Ee=true)(l:d.length<=7):Cc d=Iq d:=by unfold Cc Iq;split;rfl;rw[if_neg (by omega),Lg,Ct];congr 1;refine List.map_congr_left λr H=>?_;have:=Ao.1 h r H;simp only[Ee,AV,Aa,A5]at this;rw[KY this.2.1.1 this.2.1.2,KY this.2.2.1 this.2.2.2]<;>rfl
theorem AQK{w:List Nat}(hd:AK w=true):HH (A8 w 4)=some w/\(∃r,AP 58 (A8 w 4)=AQ (((w.length/2:Nat):Int)+2)::r)/\(A8 w 4).length<=100:=by
 have h:=Pj re4a AeL AV0 hd;have J:=(Af hd).l;simp only[FT,AV,Aa]at h;obtain⟨x,G⟩:∃x,x=C3 w:=⟨_,rfl⟩;rw[<-G]at h;obtain⟨h0,i,j,q,s,B⟩:=h;have H:Ie w=x:=by rw[<-h0,IM]
 have C:=BT.pl x;rw[h0]at C;have f:(w.length:Int)/2+2=((w.length/2:Nat):Int)+2:=by omega
 have c:((w.length/2:Nat):Int)+2=(x.n:Int)+2:=by omega
 have e:A8 w 4=AQ ((x.n:Int)+2)++58::(32::Iq (BO x)):=by rw[A8,H,AZJ i j,f,c];simp
 have o:58∉AQ ((x.n:Int)+2):=N7 rfl (by omega);have a:=AML (r:=32::Iq (BO x)) o;have I:=Mv (x:=(x.n:Int)+2) (k:=2) (by omega) (by omega) (by omega);have T:(Iq (BO x)).length<=7*3:=by unfold Iq;split;decide;have:=TG (b:=32) (k:=2) (ps:=(BO x).map λr=>[48+(AB r 0).toNat,48+(AB r 1).toNat]) (by intro p F;obtain⟨r,_,rfl⟩:=List.mem_map.1 F;simp);rw[List.length_map]at this;omega
 refine⟨?_,⟨?_,?_⟩,?_⟩;rw[e,HH,a,List.take_left',Lw (by omega),Q6 (by omega)];have g:(AQ ((x.n:Int)+2)++58::(32::Iq (BO x))).drop ((AQ ((x.n:Int)+2)).length+2)=Iq (BO x):=by rw[List.drop_append];simp
 rw[g,q,s,if_pos ⟨rfl,by simp,rfl⟩,B];exact rfl;exact DN 58 [] (32::Iq (BO x));rw[e,c,AP,T4 o,DN,if_pos rfl];simp;rw[e];simp only[A4,AO];omega
end Go.Cat
namespace Go.Cat
set_option maxRecDepth 100000
def FR(w:List Nat):Bool:=DE (CZ w)&&(decide (DR (CZ w)=w)&&(CZ w).all (λx=>decide (0<=x)&&decide (x<=8)))
theorem re7a:BR 7 (λn=>(AI n).all FR)=true:=by kernel_rfl
theorem Ac7:(((AI 7).drop (143*0)).take 143).all FR=true:=by kernel_rfl
theorem AZP:(((AI 7).drop (143*1)).take 143).all FR=true:=by kernel_rfl
theorem AeE:(((AI 7).drop (143*2)).take 143).all FR=true:=by kernel_rfl
theorem AkF:(AI 7).all FR=true:=IY (by omega) Pn λj H=>match j,H with
 |0,_=>Ac7
 |1,_=>AZP
 |2,_=>AeE
 |j+3,h=>absurd h (by omega)
theorem AiG:(((AI 8).drop (143*0)).take 143).all FR=true:=by kernel_rfl
theorem AWL:(((AI 8).drop (143*1)).take 143).all FR=true:=by kernel_rfl
theorem AYP:(((AI 8).drop (143*2)).take 143).all FR=true:=by kernel_rfl
theorem AZV:(((AI 8).drop (143*3)).take 143).all FR=true:=by kernel_rfl
theorem AbT:(((AI 8).drop (143*4)).take 143).all FR=true:=by kernel_rfl
theorem AjM:(((AI 8).drop (143*5)).take 143).all FR=true:=by kernel_rfl
theorem AVC:(((AI 8).drop (143*6)).take 143).all FR=true:=by kernel_rfl
theorem AV9:(((AI 8).drop (143*7)).take 143).all FR=true:=by kernel_rfl
theorem AYM:(((AI 8).drop (143*8)).take 143).all FR=true:=by kernel_rfl
theorem AYQ:(((AI 8).drop (143*9)).take 143).all FR=true:=by kernel_rfl
theorem AU9:(AI 8).all FR=true:=IY (by omega) P7 λj H=>match j,H with
 |0,_=>AiG
 |1,_=>AWL
 |2,_=>AYP
 |3,_=>AZV
 |4,_=>AbT
 |5,_=>AjM
 |6,_=>AVC
 |7,_=>AV9
 |8,_=>AYM
 |9,_=>AYQ
 |j+10,h=>absurd h (by omega)
theorem AD1{w:List Nat}(hd:AK w=true):(A8 w 7).map (λ(c:Nat)=>(c:Int)-49)=CZ w/\(DE (CZ w)=true/\DR (CZ w)=w)/\(A8 w 7).length=w.length/2:=by
 have h:=Pj re7a AkF AU9 hd;simp only[FR,AV,Aa,Ao]at h;obtain⟨h0,a,H⟩:=h;have e:A8 w 7=LH (CZ w):=by rw[A8,UU H (Nat.le_refl _),List.take_length]
 refine⟨?_,⟨h0,a⟩,by rw[e,LH,List.length_map,RM]⟩;rw[e,LH,List.map_map];conv=>rhs;rw[<-List.map_id (CZ w)]
 refine List.map_congr_left λx b=>?_;have:=H x b;show((49+x.toNat:Nat):Int)-49=x;omega
end Go.Cat
namespace Go.Cat
variable{K:Nat->List D->List D->Prop}
set_option maxRecDepth 100000
theorem AXP{a b:Int}(h:Di a b=true):AK (FH a b)=true/\CI (FH a b)=b/\GI (FH a b)=a/\(FH a b).length<=16:=by
 have H:0<=a/\a<=8/\0<=b/\b<bw a.toNat a.toNat:=by simpa[Di]using h
 obtain⟨n,rfl⟩:=CE H.1;obtain⟨k,rfl⟩:=CE H.2.2.1;simp only[BM]at H;have c:k<bw n n:=by omega
 obtain⟨⟨f,g,G⟩,e⟩:=Wq (n+n) n n k (by omega) rfl c;rw[T8 (by omega) c];have hd:AK (DM (n+n) n n k)=true:=by simp only[AK,AV,Aa];exact⟨by rw[<-G];congr 1;omega,by omega⟩
 refine⟨hd,?_,?_,by omega⟩;simp only[CI,hd,if_true,g];rw[show(n+n)/2=n by omega,e];simp only[GI,hd,if_true,g];omega
theorem ADX{a b:Int}:(FH a b).length<=16:=by cases h:Di a b;rw[Mm h];simp;exact(AXP h).2.2.2
theorem AhD{w:List Nat}(h:AK w=true):∃n r:Nat,w.length=2*n/\n<=8/\CI w=r/\GI w=n/\r<bw n n/\FH n r=w/\Di n r=true:=by obtain⟨g,l⟩:=Nt h;obtain⟨q,Q⟩:=Sy w _ _ g;have G:=g.2.1;refine⟨w.length/2,Dm w (w.length/2) (w.length/2),by omega,by omega,by simp[CI,h],by simp only[GI,h,if_true];omega,q,?_,R1 (by omega) q⟩;rw[T8 (by omega) q,Q]
end Go.Cat
