/-
 Trees in memory, each node in a block of its own.
-/
import Derived.Test.YtgncagjobmbmaaaCatThree
import Derived.Test.YtgncagjobmbmaaaPfBT
import Derived.Below
import Derived.Test.YtgncagjobmbmaaaIrHas
set_option linter.unusedSimpArgs false
set_option linter.unusedVariables false
namespace Go.Cat
inductive AT where
 | nil
 | node (b:Nat) (l r:AT)
namespace AT
def ptr:AT→Value
 | nil=>.pointer none
 | node b _ _=>.pointer (some ⟨b,0,none⟩)
def In (h:Array Obj):AT→Prop
 | nil=>True
 | node b l r=>(∃ e,h[b]?=some (.cells #[l.ptr,r.ptr] e (0,0)))∧l.In h∧r.In h
def bl:AT→List Nat
 | nil=>[]
 | node b l r=>b::(l.bl++r.bl)
def size:AT→Nat
 | nil=>0
 | node _ l r=>l.size+r.size+1
def find:AT→Int→AT
 | nil,_=>nil
 | node b l r,v=>if v<0 then nil else if v<l.size then l.find v else if v=l.size then node b l r else r.find (v-l.size-1)
theorem In.mono {h h':Array Obj}:∀ {T:AT},T.In h→(∀ b∈T.bl,h'[b]?=h[b]?)→T.In h'
 | nil,_,_=>trivial
 | node b l r,⟨⟨e,h1⟩,h2,h3⟩,hs=>⟨⟨e,by rw [hs b (by simp [bl]),h1]⟩,h2.mono fun x hx=>hs x (by simp [bl,hx]),h3.mono fun x hx=>hs x (by simp [bl,hx])⟩
theorem In.lt {h:Array Obj}:∀ {T:AT},T.In h→∀ b∈T.bl,b<h.size
 | node b l r,⟨⟨e,h1⟩,h2,h3⟩,x,hx=>by
  simp only [bl,qmn,qma] at hx
  rcases hx with rfl | hx | hx
  ·exact lt_of_some h1
  ·exact h2.lt x hx
  ·exact h3.lt x hx
end AT
theorem BT.t256:∀ (x:BT),∀ c∈x.t,c<256
 | .lf,c,h=>by simp [BT.t] at h; omega
 | .nd l r,c,h=>by
  simp only [BT.t,qmn,qma,qnm,or_false] at h
  rcases h with rfl | h | h | rfl
  ·omega
  ·exact BT.t256 l c h
  ·exact BT.t256 r c h
  ·omega
open Go.RowKit in
section
open Go.RowKit
def Gr (w w':World):Prop:=w.heap.size≤w'.heap.size∧(∀ b,b<w.heap.size→w'.heap[b]?=w.heap[b]?)∧w'.os=w.os∧w'.tape=w.tape∧w'.output=w.output
theorem Gr.refl (w:World):Gr w w:=⟨Nat.le_refl _,fun _ _=>rfl,rfl,rfl,rfl⟩
theorem Gr.trans {a b c:World} (h:Gr a b) (k:Gr b c):Gr a c:=
 ⟨Nat.le_trans h.1 k.1,fun x hx=>(k.2.1 x (Nat.lt_of_lt_of_le hx h.1)).trans (h.2.1 x hx),k.2.2.1.trans h.2.2.1,k.2.2.2.1.trans h.2.2.2.1,k.2.2.2.2.trans h.2.2.2.2⟩
theorem Gr.drew (w:World):Gr w w.drew:=⟨Nat.le_refl _,fun _ _=>rfl,rfl,rfl,rfl⟩
theorem Gr.alloc (w:World) (o:Obj):Gr w (w.alloc o):=by
 have h:=agr_alloc w o (fun _=>False)
 exact ⟨h.size,fun b hb=>h.same b hb id,rfl,rfl,rfl⟩
theorem AT.ptr_p (T:AT):∃ u,T.ptr=.pointer u:=by cases T <;> exact ⟨_,rfl⟩
end
section
open Go.RowKit
end
variable {K:Nat→List D→List D→Prop}
end Go.Cat
