/-
 Diagonals, read back from the text of a path.
-/
import Derived.Test.YthoilpmggmenbaaGreatPfRdE
set_option linter.unusedSimpArgs false
set_option linter.unusedVariables false
namespace Go.Cat
set_option maxRecDepth 100000
def Iq(d:List (List Int)):List Nat:=if d.length=0 then [110,111,110,101]else sep 32 (d.map λr=>[48+(AB r 0).toNat,48+(AB r 1).toNat])
def FL(w:List Nat):Bool:=decide ((C3 w).p=w)&&((BO (C3 w)).all Eo&&(decide ((BO (C3 w)).length<=7)&&(decide (GL (Iq (BO (C3 w)))=BO (C3 w))&&(Cp ((C3 w).n+2) (BO (C3 w))&&decide ((I2 ((C3 w).n+2) (BO (C3 w))).p=w)))))
theorem re4a:BR 7 (λn=>(AI n).all FL)=true:=by kernel_rfl
theorem AU4:(((AI 7).drop (143*0)).take 143).all FL=true:=by kernel_rfl
theorem Ag9:(((AI 7).drop (143*1)).take 143).all FL=true:=by kernel_rfl
theorem AVD:(((AI 7).drop (143*2)).take 143).all FL=true:=by kernel_rfl
theorem AcS:(AI 7).all FL=true:=JC (by omega) QV λj H=>match j,H with
 |0,_=>AU4
 |1,_=>Ag9
 |2,_=>AVD
 |j+3,h=>absurd h (by omega)
theorem AVQ:(((AI 8).drop (143*0)).take 143).all FL=true:=by kernel_rfl
theorem AmA:(((AI 8).drop (143*1)).take 143).all FL=true:=by kernel_rfl
theorem AcH:(((AI 8).drop (143*2)).take 143).all FL=true:=by kernel_rfl
theorem AlM:(((AI 8).drop (143*3)).take 143).all FL=true:=by kernel_rfl
theorem AjO:(((AI 8).drop (143*4)).take 143).all FL=true:=by kernel_rfl
theorem AaB:(((AI 8).drop (143*5)).take 143).all FL=true:=by kernel_rfl
theorem AcU:(((AI 8).drop (143*6)).take 143).all FL=true:=by kernel_rfl
theorem AfC:(((AI 8).drop (143*7)).take 143).all FL=true:=by kernel_rfl
theorem AlC:(((AI 8).drop (143*8)).take 143).all FL=true:=by kernel_rfl
theorem AdP:(((AI 8).drop (143*9)).take 143).all FL=true:=by kernel_rfl
theorem AaX:(AI 8).all FL=true:=JC (by omega) Of λj H=>match j,H with
 |0,_=>AVQ
 |1,_=>AmA
 |2,_=>AcH
 |3,_=>AlM
 |4,_=>AjO
 |5,_=>AaB
 |6,_=>AcU
 |7,_=>AfC
 |8,_=>AlC
 |9,_=>AdP
 |j+10,h=>absurd h (by omega)
theorem AHX:∀{a r:List Nat},58∉a->CD (a++58::r)=a.length
 |[],r,_=>by simp[CD]
 |c::t,r,h=>by
  simp only[A6,not_or]at h;have:=AHX (a:=t) (r:=r) h.2;have H:decide (c≠58)=true:=by simpa using λq=>h.1 q.symm
  unfold CD at this|-;rw[List.cons_append,List.takeWhile_cons,if_pos H,AP,this,AP]
theorem Ah7{d:List (List Int)}(h:d.all Eo=true)(l:d.length<=7):Cc d=Iq d:=by unfold Cc Iq;split;rfl;rw[if_neg (by omega),Lz,Cw];congr 1;refine List.map_congr_left λr H=>?_;have:=Ao.1 h r H;simp only[Eo,AV,Ac,A7]at this;rw[Kg this.2.1.1 this.2.1.2,Kg this.2.2.1 this.2.2.2]<;>rfl
theorem AKJ{w:List Nat}(hd:AK w=true):HB (A8 w 4)=some w/\(∃r,AO 58 (A8 w 4)=AQ (((w.length/2:Nat):Int)+2)::r)/\(A8 w 4).length<=100:=by
 have h:=P9 re4a AcS AaX hd;have J:=(Af hd).l;simp only[FL,AV,Ac]at h;obtain⟨x,G⟩:∃x,x=C3 w:=⟨_,rfl⟩;rw[<-G]at h;obtain⟨h0,i,j,q,s,B⟩:=h;have H:JA w=x:=by rw[<-h0,Hi]
 have C:=BT.pl x;rw[h0]at C;have f:(w.length:Int)/2+2=((w.length/2:Nat):Int)+2:=by omega
 have c:((w.length/2:Nat):Int)+2=(x.n:Int)+2:=by omega
 have e:A8 w 4=AQ ((x.n:Int)+2)++58::(32::Iq (BO x)):=by rw[A8,H,Ah7 i j,f,c];simp
 have o:58∉AQ ((x.n:Int)+2):=N2 rfl (by omega);have a:=AHX (r:=32::Iq (BO x)) o;have I:=Nl (x:=(x.n:Int)+2) (k:=2) (by omega) (by omega) (by omega);have T:(Iq (BO x)).length<=7*3:=by unfold Iq;split;decide;have:=R6 (b:=32) (k:=2) (ps:=(BO x).map λr=>[48+(AB r 0).toNat,48+(AB r 1).toNat]) (by intro p F;obtain⟨r,_,rfl⟩:=List.mem_map.1 F;simp);rw[List.length_map]at this;omega
 refine⟨?_,⟨?_,?_⟩,?_⟩;rw[e,HB,a,List.take_left',LC (by omega),St (by omega)];have g:(AQ ((x.n:Int)+2)++58::(32::Iq (BO x))).drop ((AQ ((x.n:Int)+2)).length+2)=Iq (BO x):=by rw[List.drop_append];simp
 rw[g,q,s,if_pos ⟨rfl,by simp,rfl⟩,B];exact rfl;exact C5 58 [] (32::Iq (BO x));rw[e,c,AO,Ql o,C5,if_pos rfl];simp;rw[e];simp only[AW,AP];omega
end Go.Cat
