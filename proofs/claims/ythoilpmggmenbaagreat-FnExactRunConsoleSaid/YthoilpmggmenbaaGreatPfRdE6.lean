/-
 Matchings, read back from the text of a path.
-/
import Derived.Test.YthoilpmggmenbaaGreatPfRdM
set_option linter.unusedSimpArgs false
set_option linter.unusedVariables false
namespace Go.Cat
set_option maxRecDepth 100000
def Jq(m:List Int):Nat->List (List Int)
 |0=>[]
 |i+1=>if(i:Int)<AB m i then Jq m i++[[(i:Int),AB m i]]else Jq m i
def FU(w:List Nat):Bool:=EG (Ca w)&&(decide ((Ca w).length=w.length)&&(decide (2*(Jq (Ca w) w.length).length=w.length)&&(decide (H9 (w.length:Nat) (Jq (Ca w) w.length) (List.replicate w.length 0)=some (Ca w))&&(decide (Is (Ca w)=w)&&(Ca w).all (λx=>decide (0<=x)&&decide (x<=15))))))
theorem re6a:BR 7 (λn=>(AI n).all FU)=true:=by kernel_rfl
theorem AbU:(((AI 7).drop (143*0)).take 143).all FU=true:=by kernel_rfl
theorem AbO:(((AI 7).drop (143*1)).take 143).all FU=true:=by kernel_rfl
theorem ATO:(((AI 7).drop (143*2)).take 143).all FU=true:=by kernel_rfl
theorem AdF:(AI 7).all FU=true:=IY (by omega) Pn λj H=>match j,H with
 |0,_=>AbU
 |1,_=>AbO
 |2,_=>ATO
 |j+3,h=>absurd h (by omega)
theorem Ah4:(((AI 8).drop (143*0)).take 143).all FU=true:=by kernel_rfl
theorem AfU:(((AI 8).drop (143*1)).take 143).all FU=true:=by kernel_rfl
theorem AYW:(((AI 8).drop (143*2)).take 143).all FU=true:=by kernel_rfl
theorem AeD:(((AI 8).drop (143*3)).take 143).all FU=true:=by kernel_rfl
theorem AXA:(((AI 8).drop (143*4)).take 143).all FU=true:=by kernel_rfl
theorem AS9:(((AI 8).drop (143*5)).take 143).all FU=true:=by kernel_rfl
theorem AbG:(((AI 8).drop (143*6)).take 143).all FU=true:=by kernel_rfl
theorem AbC:(((AI 8).drop (143*7)).take 143).all FU=true:=by kernel_rfl
theorem AbL:(((AI 8).drop (143*8)).take 143).all FU=true:=by kernel_rfl
theorem Ai4:(((AI 8).drop (143*9)).take 143).all FU=true:=by kernel_rfl
theorem AcY:(AI 8).all FU=true:=IY (by omega) P7 λj H=>match j,H with
 |0,_=>Ah4
 |1,_=>AfU
 |2,_=>AYW
 |3,_=>AeD
 |4,_=>AXA
 |5,_=>AS9
 |6,_=>AbG
 |7,_=>AbC
 |8,_=>AbL
 |9,_=>Ai4
 |j+10,h=>absurd h (by omega)
theorem AP3{m:List Int}(g:∀x∈m,0<=x/\x<=15)(l:m.length<=16):∀{i:Nat},i<=m.length->(BV m i).length=(Jq m i).length/\(BV m i).all Ei=true/\(BV m i).map G8=Jq m i/\∀p∈BV m i,32∉p/\AA p 45=1/\p.length<=5
 |0,_=>by simp[BV,Jq]
 |i+1,hi=>by
  obtain⟨H,a,b,c⟩:=AP3 g l (i:=i) (by omega)
  rw[BV,Jq]
  split
  have e:0<=AB m i/\AB m i<=15:=by
   have:AB m i=m[i]:=by simp[AB,show i<m.length by omega]
   rw[this];exact g _ (List.getElem_mem _)
  have f:=AMT (T0 (x:=(i:Int)) (by omega)) (T0 e.1)
  have h:Cl (AP 45 (AQ (i:Int)++[45]++AQ (AB m i)))=true:=by
   rw[f]
   simp[Cl,Lw (n:=(i:Int)) (by omega),Lw (n:=AB m i) (by omega)]
  have j:Bp (AP 45 (AQ (i:Int)++[45]++AQ (AB m i)))=[(i:Int),AB m i]:=by
   rw[Bp,if_pos h,f]
   simp[Of]
  refine⟨by simp[H],?_,?_,?_⟩
  rw[List.all_append,a]
  simp only[List.all_cons,List.all_nil,Ei,h,j];rfl
  rw[List.map_append,b]
  simp only[List.map_cons,List.map_nil,G8,j]
  intro p o
  rcases Ac.1 o with q|q
  exact c p q
  rw[List.mem_singleton.1 q]
  have s:=Mv (x:=(i:Int)) (k:=2) (by omega) (by omega) (by omega)
  have B:=Mv (x:=AB m i) (k:=2) (by omega) (by omega) (by omega)
  refine⟨?_,?_,?_⟩
  simp only[Ac,List.mem_singleton,not_or]
  exact⟨⟨N7 rfl (by omega),by omega⟩,N7 rfl (by omega)⟩
  rw[JJ,JJ,Qe (T0 (by omega)),Qe (T0 e.1)]<;>rfl
  simp only[A4,AO,A6];omega
  exact⟨H,a,b,c⟩
theorem ANC{w:List Nat}(hd:AK w=true):F7 (A8 w 6)=some (E1 w)/\(EG (E1 w)=true/\Is (E1 w)=w)/\AA (A8 w 6) 45=w.length/2/\(A8 w 6).length<=100:=by
 have h:=Pj re6a AdF AcY hd;have O:=(Af hd).l;rw[M7 hd,A8,M7 hd];simp only[FU,AV,Aa,Ao]at h;generalize Ca w=m at h;obtain⟨h0,j,N,B,k,C⟩:=h;have M:C1 m=true:=by simp only[EG,AV]at h0;exact h0.1
 obtain⟨G,f,i,g⟩:=AP3 C (by omega) (Nat.le_refl m.length);rw[j]at G f i g;rw[Fg,if_pos M];by_cases L:w.length=0;have o:m=[]:=Dz (by omega);have s:w=[]:=Dz L;subst o;subst s;refine⟨rfl,⟨h0,k⟩,rfl,by decide⟩;rw[if_neg (by omega),Lg,j];have a:BV m w.length≠[]:=by intro q;rw[q]at G;simp only[A6]at G;omega
 have F:=Qy a (λp H=>(g p H).1);have J:=TG (b:=32) (λp H=>(g p H).2.2);have I:sep 32 (BV m w.length)≠[110,111,110,101]:=by intro q;have:=WX (b:=32) (c:=45) (by omega) (λp H=>(g p H).2.1);rw[q,G]at this;have e:AA [110,111,110,101] 45=0:=rfl;omega
 refine⟨?_,⟨h0,k⟩,?_,by omega⟩;have x:2*(BV m w.length).length=w.length:=by omega
 rw[F7,if_neg I,F,if_pos f,i,x];exact B;rw[WX (by omega) (λp H=>(g p H).2.1)];omega
end Go.Cat
