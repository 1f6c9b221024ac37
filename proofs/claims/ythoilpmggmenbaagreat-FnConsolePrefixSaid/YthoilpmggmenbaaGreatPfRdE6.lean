/-
 Matchings, read back from the text of a path.
-/
import Derived.Test.YthoilpmggmenbaaGreatPfRdE
set_option linter.unusedSimpArgs false
set_option linter.unusedVariables false
namespace Go.Cat
set_option maxRecDepth 100000
def K7(m:List Int):Nat->List (List Int)
 |0=>[]
 |i+1=>if(i:Int)<AB m i then K7 m i++[[(i:Int),AB m i]]else K7 m i
def F5(w:List Nat):Bool:=ET (Ce w)&&(decide ((Ce w).length=w.length)&&(decide (2*(K7 (Ce w) w.length).length=w.length)&&(decide (Ha (w.length:Nat) (K7 (Ce w) w.length) (List.replicate w.length 0)=some (Ce w))&&(decide (Iz (Ce w)=w)&&(Ce w).all (λx=>decide (0<=x)&&decide (x<=15))))))
theorem re6a:BR 7 (λn=>(AI n).all F5)=true:=by kernel_rfl
theorem AmD:(((AI 7).drop (143*0)).take 143).all F5=true:=by kernel_rfl
theorem AYB:(((AI 7).drop (143*1)).take 143).all F5=true:=by kernel_rfl
theorem AiG:(((AI 7).drop (143*2)).take 143).all F5=true:=by kernel_rfl
theorem AkE:(AI 7).all F5=true:=JC (by omega) QV λj H=>match j,H with
 |0,_=>AmD
 |1,_=>AYB
 |2,_=>AiG
 |j+3,h=>absurd h (by omega)
theorem Ah5:(((AI 8).drop (143*0)).take 143).all F5=true:=by kernel_rfl
theorem AlB:(((AI 8).drop (143*1)).take 143).all F5=true:=by kernel_rfl
theorem AlY:(((AI 8).drop (143*2)).take 143).all F5=true:=by kernel_rfl
theorem AUL:(((AI 8).drop (143*3)).take 143).all F5=true:=by kernel_rfl
theorem AXV:(((AI 8).drop (143*4)).take 143).all F5=true:=by kernel_rfl
theorem Ad8:(((AI 8).drop (143*5)).take 143).all F5=true:=by kernel_rfl
theorem AVB:(((AI 8).drop (143*6)).take 143).all F5=true:=by kernel_rfl
theorem AhO:(((AI 8).drop (143*7)).take 143).all F5=true:=by kernel_rfl
theorem AU8:(((AI 8).drop (143*8)).take 143).all F5=true:=by kernel_rfl
theorem AcI:(((AI 8).drop (143*9)).take 143).all F5=true:=by kernel_rfl
theorem AYR:(AI 8).all F5=true:=JC (by omega) Of λj H=>match j,H with
 |0,_=>Ah5
 |1,_=>AlB
 |2,_=>AlY
 |3,_=>AUL
 |4,_=>AXV
 |5,_=>Ad8
 |6,_=>AVB
 |7,_=>AhO
 |8,_=>AU8
 |9,_=>AcI
 |j+10,h=>absurd h (by omega)
theorem AAE{m:List Int}(g:∀x∈m,0<=x/\x<=15)(l:m.length<=16):∀{i:Nat},i<=m.length->(BW m i).length=(K7 m i).length/\(BW m i).all Eh=true/\(BW m i).map G9=K7 m i/\∀p∈BW m i,32∉p/\AA p 45=1/\p.length<=5
 |0,_=>by simp[BW,K7]
 |i+1,hi=>by
  obtain⟨H,a,b,c⟩:=AAE g l (i:=i) (by omega)
  rw[BW,K7]
  split
  have e:0<=AB m i/\AB m i<=15:=by
   have:AB m i=m[i]:=by simp[AB,show i<m.length by omega]
   rw[this];exact g _ (List.getElem_mem _)
  have f:=AAM (Qm (x:=(i:Int)) (by omega)) (Qm e.1)
  have h:Cm (AO 45 (AQ (i:Int)++[45]++AQ (AB m i)))=true:=by
   rw[f]
   simp[Cm,LC (n:=(i:Int)) (by omega),LC (n:=AB m i) (by omega)]
  have j:Bp (AO 45 (AQ (i:Int)++[45]++AQ (AB m i)))=[(i:Int),AB m i]:=by
   rw[Bp,if_pos h,f]
   simp[P8]
  refine⟨by simp[H],?_,?_,?_⟩
  rw[List.all_append,a]
  simp only[List.all_cons,List.all_nil,Eh,h,j];rfl
  rw[List.map_append,b]
  simp only[List.map_cons,List.map_nil,G9,j]
  intro p o
  rcases A9.1 o with q|q
  exact c p q
  rw[List.mem_singleton.1 q]
  have s:=Nl (x:=(i:Int)) (k:=2) (by omega) (by omega) (by omega)
  have B:=Nl (x:=AB m i) (k:=2) (by omega) (by omega) (by omega)
  refine⟨?_,?_,?_⟩
  simp only[A9,List.mem_singleton,not_or]
  exact⟨⟨N2 rfl (by omega),by omega⟩,N2 rfl (by omega)⟩
  rw[J0,J0,T3 (Qm (by omega)),T3 (Qm e.1)]<;>rfl
  simp only[AW,AP,A5];omega
  exact⟨H,a,b,c⟩
theorem AK2{w:List Nat}(hd:AK w=true):Fb (A8 w 6)=some (E3 w)/\(ET (E3 w)=true/\Iz (E3 w)=w)/\AA (A8 w 6) 45=w.length/2/\(A8 w 6).length<=100:=by
 have h:=P9 re6a AkE AYR hd;have O:=(Af hd).l;rw[My hd,A8,My hd];simp only[F5,AV,Ac,Ao]at h;generalize Ce w=m at h;obtain⟨h0,j,N,B,k,C⟩:=h;have M:Ca m=true:=by simp only[ET,AV]at h0;exact h0.1
 obtain⟨G,f,i,g⟩:=AAE C (by omega) (Nat.le_refl m.length);rw[j]at G f i g;rw[Fo,if_pos M];by_cases L:w.length=0;have o:m=[]:=Dy (by omega);have s:w=[]:=Dy L;subst o;subst s;refine⟨rfl,⟨h0,k⟩,rfl,by decide⟩;rw[if_neg (by omega),Lz,j];have a:BW m w.length≠[]:=by intro q;rw[q]at G;simp only[A5]at G;omega
 have F:=Ru a (λp H=>(g p H).1);have J:=R6 (b:=32) (λp H=>(g p H).2.2);have I:sep 32 (BW m w.length)≠[110,111,110,101]:=by intro q;have:=Wd (b:=32) (c:=45) (by omega) (λp H=>(g p H).2.1);rw[q,G]at this;have e:AA [110,111,110,101] 45=0:=rfl;omega
 refine⟨?_,⟨h0,k⟩,?_,by omega⟩;have x:2*(BW m w.length).length=w.length:=by omega
 rw[Fb,if_neg I,F,if_pos f,i,x];exact B;rw[Wd (by omega) (λp H=>(g p H).2.1)];omega
end Go.Cat
