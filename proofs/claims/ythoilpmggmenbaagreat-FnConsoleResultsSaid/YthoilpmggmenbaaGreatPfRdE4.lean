/-
 Diagonals, read back from the text of a path.
-/
import Derived.Test.YthoilpmggmenbaaGreatPfRdE
set_option linter.unusedSimpArgs false
set_option linter.unusedVariables false
namespace Go.Cat
set_option maxRecDepth 100000
def HN(d:List (List Int)):List Nat:=if d.length=0 then [110,111,110,101]else sep 32 (d.map λr=>[48+(AB r 0).toNat,48+(AB r 1).toNat])
def Ey(w:List Nat):Bool:=decide ((CP w).p=w)&&((BG (CP w)).all EX&&(decide ((BG (CP w)).length<=7)&&(decide (P2 (HN (BG (CP w)))=BG (CP w))&&(DU ((CP w).n+2) (BG (CP w))&&decide ((Je ((CP w).n+2) (BG (CP w))).p=w)))))
theorem re4a:BH 7 (λn=>(AG n).all Ey)=true:=by kernel_rfl
theorem ASX:(((AG 7).drop (143*0)).take 143).all Ey=true:=by kernel_rfl
theorem AT0:(((AG 7).drop (143*1)).take 143).all Ey=true:=by kernel_rfl
theorem AUM:(((AG 7).drop (143*2)).take 143).all Ey=true:=by kernel_rfl
theorem APM:(AG 7).all Ey=true:=H5 (by omega) Nd λj H=>match j,H with
 |0,_=>ASX
 |1,_=>AT0
 |2,_=>AUM
 |j+3,h=>absurd h (by omega)
theorem AbS:(((AG 8).drop (143*0)).take 143).all Ey=true:=by kernel_rfl
theorem AYB:(((AG 8).drop (143*1)).take 143).all Ey=true:=by kernel_rfl
theorem AXI:(((AG 8).drop (143*2)).take 143).all Ey=true:=by kernel_rfl
theorem AbZ:(((AG 8).drop (143*3)).take 143).all Ey=true:=by kernel_rfl
theorem AP7:(((AG 8).drop (143*4)).take 143).all Ey=true:=by kernel_rfl
theorem ATM:(((AG 8).drop (143*5)).take 143).all Ey=true:=by kernel_rfl
theorem AaA:(((AG 8).drop (143*6)).take 143).all Ey=true:=by kernel_rfl
theorem AdN:(((AG 8).drop (143*7)).take 143).all Ey=true:=by kernel_rfl
theorem AcC:(((AG 8).drop (143*8)).take 143).all Ey=true:=by kernel_rfl
theorem AcO:(((AG 8).drop (143*9)).take 143).all Ey=true:=by kernel_rfl
theorem ATN:(AG 8).all Ey=true:=H5 (by omega) Mx λj H=>match j,H with
 |0,_=>AbS
 |1,_=>AYB
 |2,_=>AXI
 |3,_=>AbZ
 |4,_=>AP7
 |5,_=>ATM
 |6,_=>AaA
 |7,_=>AdN
 |8,_=>AcC
 |9,_=>AcO
 |j+10,h=>absurd h (by omega)
theorem YH:∀{a r:List Nat},58∉a->Gp (a++58::r)=a.length
 |[],r,_=>by simp[Gp]
 |c::t,r,h=>by
  simp only[AY,not_or]at h;have:=YH (a:=t) (r:=r) h.2;have H:decide (c≠58)=true:=by simpa using λq=>h.1 q.symm
  unfold Gp at this|-;rw[List.cons_append,List.takeWhile_cons,if_pos H,AO,this,AO]
theorem AZF{d:List (List Int)}(h:d.all EX=true)(l:d.length<=7):C0 d=HN d:=by unfold C0 HN;split;rfl;rw[if_neg (by omega),K8,Cf];congr 1;refine List.map_congr_left λr H=>?_;have:=Aj.1 h r H;simp only[EX,AU,Ad,Af]at this;rw[JH this.2.1.1 this.2.1.2,JH this.2.2.1 this.2.2.2]<;>rfl
theorem AHT{w:List Nat}(hd:AK w=true):NN (A9 w 4)=some w/\(∃r,Ag 58 (A9 w 4)=AN (((w.length/2:Nat):Int)+2)::r)/\(A9 w 4).length<=100:=by
 have h:=NP re4a APM ATN hd;have J:=(A8 hd).l;simp only[Ey,AU,Ad]at h;obtain⟨x,G⟩:∃x,x=CP w:=⟨_,rfl⟩;rw[<-G]at h;obtain⟨h0,i,j,q,s,B⟩:=h;have H:Ft w=x:=by rw[<-h0,GO]
 have C:=BT.pl x;rw[h0]at C;have f:(w.length:Int)/2+2=((w.length/2:Nat):Int)+2:=by omega
 have c:((w.length/2:Nat):Int)+2=(x.n:Int)+2:=by omega
 have e:A9 w 4=AN ((x.n:Int)+2)++58::(32::HN (BG x)):=by rw[A9,H,AZF i j,f,c];simp
 have o:58∉AN ((x.n:Int)+2):=L8 rfl (by omega);have a:=YH (r:=32::HN (BG x)) o;have I:=La (x:=(x.n:Int)+2) (k:=2) (by omega) (by omega) (by omega);have T:(HN (BG x)).length<=7*3:=by unfold HN;split;decide;have:=PW (b:=32) (k:=2) (ps:=(BG x).map λr=>[48+(AB r 0).toNat,48+(AB r 1).toNat]) (by intro p F;obtain⟨r,_,rfl⟩:=List.mem_map.1 F;simp);rw[List.length_map]at this;omega
 refine⟨?_,⟨?_,?_⟩,?_⟩;rw[e,NN,a,List.take_left',JU (by omega),N7 (by omega)];have g:(AN ((x.n:Int)+2)++58::(32::HN (BG x))).drop ((AN ((x.n:Int)+2)).length+2)=HN (BG x):=by rw[List.drop_append];simp
 rw[g,q,s,if_pos ⟨rfl,by simp,rfl⟩,B];exact rfl;exact Ct 58 [] (32::HN (BG x));rw[e,c,Ag,Oe o,Ct,if_pos rfl];simp;rw[e];simp only[AZ,AO];omega
end Go.Cat
