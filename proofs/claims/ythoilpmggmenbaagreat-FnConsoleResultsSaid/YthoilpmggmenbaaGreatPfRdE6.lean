/-
 Matchings, read back from the text of a path.
-/
import Derived.Test.YthoilpmggmenbaaGreatPfRdE
set_option linter.unusedSimpArgs false
set_option linter.unusedVariables false
namespace Go.Cat
set_option maxRecDepth 100000
def JM(m:List Int):Nat->List (List Int)
 |0=>[]
 |i+1=>if(i:Int)<AB m i then JM m i++[[(i:Int),AB m i]]else JM m i
def Er(w:List Nat):Bool:=EG (C1 w)&&(decide ((C1 w).length=w.length)&&(decide (2*(JM (C1 w) w.length).length=w.length)&&(decide (Js (w.length:Nat) (JM (C1 w) w.length) (List.replicate w.length 0)=some (C1 w))&&(decide (Hp (C1 w)=w)&&(C1 w).all (λx=>decide (0<=x)&&decide (x<=15))))))
theorem re6a:BH 7 (λn=>(AG n).all Er)=true:=by kernel_rfl
theorem AO3:(((AG 7).drop (143*0)).take 143).all Er=true:=by kernel_rfl
theorem AbD:(((AG 7).drop (143*1)).take 143).all Er=true:=by kernel_rfl
theorem AS1:(((AG 7).drop (143*2)).take 143).all Er=true:=by kernel_rfl
theorem Aa2:(AG 7).all Er=true:=H5 (by omega) Nd λj H=>match j,H with
 |0,_=>AO3
 |1,_=>AbD
 |2,_=>AS1
 |j+3,h=>absurd h (by omega)
theorem AaU:(((AG 8).drop (143*0)).take 143).all Er=true:=by kernel_rfl
theorem Ab7:(((AG 8).drop (143*1)).take 143).all Er=true:=by kernel_rfl
theorem AWT:(((AG 8).drop (143*2)).take 143).all Er=true:=by kernel_rfl
theorem AOA:(((AG 8).drop (143*3)).take 143).all Er=true:=by kernel_rfl
theorem AUP:(((AG 8).drop (143*4)).take 143).all Er=true:=by kernel_rfl
theorem AaI:(((AG 8).drop (143*5)).take 143).all Er=true:=by kernel_rfl
theorem AVQ:(((AG 8).drop (143*6)).take 143).all Er=true:=by kernel_rfl
theorem AU9:(((AG 8).drop (143*7)).take 143).all Er=true:=by kernel_rfl
theorem AcH:(((AG 8).drop (143*8)).take 143).all Er=true:=by kernel_rfl
theorem AbL:(((AG 8).drop (143*9)).take 143).all Er=true:=by kernel_rfl
theorem AZ5:(AG 8).all Er=true:=H5 (by omega) Mx λj H=>match j,H with
 |0,_=>AaU
 |1,_=>Ab7
 |2,_=>AWT
 |3,_=>AOA
 |4,_=>AUP
 |5,_=>AaI
 |6,_=>AVQ
 |7,_=>AU9
 |8,_=>AcH
 |9,_=>AbL
 |j+10,h=>absurd h (by omega)
theorem AEP{m:List Int}(g:∀x∈m,0<=x/\x<=15)(l:m.length<=16):∀{i:Nat},i<=m.length->(BV m i).length=(JM m i).length/\(BV m i).all WR=true/\(BV m i).map Qq=JM m i/\∀p∈BV m i,32∉p/\AA p 45=1/\p.length<=5
 |0,_=>by simp[BV,JM]
 |i+1,hi=>by
  obtain⟨H,a,b,c⟩:=AEP g l (i:=i) (by omega)
  rw[BV,JM]
  split
  have e:0<=AB m i/\AB m i<=15:=by
   have:AB m i=m[i]:=by simp[AB,show i<m.length by omega]
   rw[this];exact g _ (List.getElem_mem _)
  have f:=YA (Ox (x:=(i:Int)) (by omega)) (Ox e.1)
  have h:Gn (Ag 45 (AN (i:Int)++[45]++AN (AB m i)))=true:=by
   rw[f]
   simp[Gn,JU (n:=(i:Int)) (by omega),JU (n:=AB m i) (by omega)]
  have j:EW (Ag 45 (AN (i:Int)++[45]++AN (AB m i)))=[(i:Int),AB m i]:=by
   rw[EW,if_pos h,f]
   simp[NI]
  refine⟨by simp[H],?_,?_,?_⟩
  rw[List.all_append,a]
  simp only[List.all_cons,List.all_nil,WR,h,j];rfl
  rw[List.map_append,b]
  simp only[List.map_cons,List.map_nil,Qq,j]
  intro p o
  rcases Ac.1 o with q|q
  exact c p q
  rw[List.mem_singleton.1 q]
  have s:=La (x:=(i:Int)) (k:=2) (by omega) (by omega) (by omega)
  have B:=La (x:=AB m i) (k:=2) (by omega) (by omega) (by omega)
  refine⟨?_,?_,?_⟩
  simp only[Ac,List.mem_singleton,not_or]
  exact⟨⟨L8 rfl (by omega),by omega⟩,L8 rfl (by omega)⟩
  rw[IM,IM,Pn (Ox (by omega)),Pn (Ox e.1)]<;>rfl
  simp only[AZ,AO,Aa];omega
  exact⟨H,a,b,c⟩
theorem ACX{w:List Nat}(hd:AK w=true):NT (A9 w 6)=some (Ds w)/\(EG (Ds w)=true/\Hp (Ds w)=w)/\AA (A9 w 6) 45=w.length/2/\(A9 w 6).length<=100:=by
 have h:=NP re6a Aa2 AZ5 hd;have O:=(A8 hd).l;rw[Kj hd,A9,Kj hd];simp only[Er,AU,Ad,Aj]at h;generalize C1 w=m at h;obtain⟨h0,j,N,B,k,C⟩:=h;have M:CV m=true:=by simp only[EG,AU]at h0;exact h0.1
 obtain⟨G,f,i,g⟩:=AEP C (by omega) (Nat.le_refl m.length);rw[j]at G f i g;rw[F4,if_pos M];by_cases L:w.length=0;have o:m=[]:=Dd (by omega);have s:w=[]:=Dd L;subst o;subst s;refine⟨rfl,⟨h0,k⟩,rfl,by decide⟩;rw[if_neg (by omega),K8,j];have a:BV m w.length≠[]:=by intro q;rw[q]at G;simp only[Aa]at G;omega
 have F:=Of a (λp H=>(g p H).1);have J:=PW (b:=32) (λp H=>(g p H).2.2);have I:sep 32 (BV m w.length)≠[110,111,110,101]:=by intro q;have:=Tw (b:=32) (c:=45) (by omega) (λp H=>(g p H).2.1);rw[q,G]at this;have e:AA [110,111,110,101] 45=0:=rfl;omega
 refine⟨?_,⟨h0,k⟩,?_,by omega⟩;have x:2*(BV m w.length).length=w.length:=by omega
 rw[NT,if_neg I,F,if_pos f,i,x];exact B;rw[Tw (by omega) (λp H=>(g p H).2.1)];omega
end Go.Cat
