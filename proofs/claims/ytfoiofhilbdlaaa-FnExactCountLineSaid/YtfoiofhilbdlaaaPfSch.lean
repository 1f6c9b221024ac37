/-
 Schroeder numbers, and what is asked of the program's own function.
-/
import Derived.Test.YtfoiofhilbdlaaaPfRotM
set_option linter.unusedSimpArgs false
set_option linter.unusedVariables false
namespace Go.Cat
def schL:List Int:=[1,2,6,22,90,394]
theorem con_int {P:Program} {fid:Nat→Nat} {f:Nat} {n v:Int} (h:∀ w,Calls P f #[.int .i64 n] w fun e w'=>e=.returned (.int .i64 v)∧Gr w w'):Con P fid f ⟨[.v],[.v],[],none⟩ [.n n] [.n v]:=by
 intro w X args B hnd hX hE _
 match args,hE with
 | [],hE=>simp [EachS] at hE
 | _::_::_,hE=>simp [EachS] at hE
 | [v0],hE=>
  simp only [EachS,Own,Rd] at hE
  obtain ⟨B1,B2,rfl,⟨rfl,rfl⟩,rfl⟩:=hE
  refine (h w).mono ?_
  rintro e w' ⟨rfl,g1,g2,g3,g4,g5⟩
  refine ⟨_,[.int .i64 v],[],rfl,rfl,rfl,⟨g1,fun b hb _=>g2 b hb⟩,g3,g4,g5,List.nodup_nil,by simp,?_⟩
  simp only [Sg.outs,List.map_nil,List.append_nil,EachS,Own,Rd]
  exact ⟨[],[],rfl,⟨rfl,trivial⟩,rfl⟩
class HSch (K:Nat→List D→List D→Prop):Prop where
 sch:∀ n:Nat,n≤5→K 494 [.n n] [.n (schL.getD n 0)]
end Go.Cat
