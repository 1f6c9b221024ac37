/-
 What is asked of the library's sorting of rows that are owned.
-/
import Derived.Test.YtgncagjobmbmaaaPfSrt
set_option linter.unusedSimpArgs false
set_option linter.unusedVariables false
namespace Go.Cat
theorem srtV_asc:∀ {n:Nat} {e:List (List Int)},e.length=n→e.Pairwise (fun x y=>ltR y x=false)→srtV e=e.reverse
 | 0,e,h,_=>by rw [List.length_eq_zero_iff.1 h]; rfl
 | n+1,e,h,hp=>by
  obtain ⟨l,x,rfl⟩:∃ l x,e=l++[x]:=⟨e.dropLast,e.getLast (by rintro rfl; simp at h),(List.dropLast_concat_getLast _).symm⟩
  have hp2:=List.pairwise_append.1 hp
  have ih:=srtV_asc (n:=n) (e:=l) (by simpa using h) hp2.1
  have es:srtV (l++[x])=insV x (srtV l):=by simp only [srtV,List.foldl_append,List.foldl_cons,List.foldl_nil]
  rw [es,ih,List.reverse_append]
  cases hr:l.reverse with
  | nil=>rfl
  | cons y t=>
   have hy:y∈l:=by rw [← List.mem_reverse,hr]; simp
   have:=hp2.2.2 y hy x (by simp)
   simp [insV,this]
theorem srfF_asc {e:List (List Int)} (hp:e.Pairwise (fun x y=>ltR y x=false)):srfF e=e:=by
 rw [srfF,srtV_asc rfl hp,List.reverse_reverse]
class HSrt (K:Nat→List D→List D→Prop):Prop where
 srt:∀ d:List (List Int),(∀ r∈d,row2 r)→d.length≤1000→K 363 [LL d,.f 364 []] [LL (srfF d)]
end Go.Cat
