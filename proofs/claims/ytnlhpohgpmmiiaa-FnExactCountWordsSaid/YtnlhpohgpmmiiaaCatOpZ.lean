/-
  All operations together: the translation of one operation, and that it is sound.
-/
import Derived.Test.YtnlhpohgpmmiiaaCatCall
namespace Go.Cat

section
variable (cf : CF) (sg : Nat → Option Sg) (st : List Fact) (cnt : Nat) (o : Oper) (g : Gd)

def trEx (x : Operand) (ix : Nat) : Option (Pr × Sm) :=
  match x, o.dst with
  | .tmp t, some d => if d < cf.nt then match findSl st t with
    | some (.tu ns g') => if g'.isPrefixOf g then (ns[ix]?).map fun n => (.nop, ⟨[.sl t (.tu ns g')], [], [.sl d (.is n g)]⟩) else none
    | _ => none
    else none
  | _, _ => none

def trOp (k : Nat) : Option (Pr × Sm) :=
  match o.op with
  | .extract x ix => trEx cf st o g x ix
  | .call { callee := .value (.func f), args, .. } => match cf.gof f with
    | some m => trCallTo cf sg st cnt o g m args.toList
    | none => none
  | _ => trPure cf st cnt o g k
end

theorem exec_call {o : Oper} {f : FuncId} {args : Array Operand} {ts : Array TypeId} (ho : o.op = .call { callee := .value (.func f), args, argTypes := ts }) (P : Program) (w : World) (a : Act) :
    (execOp a.eval o).run P w = (callFunc f (args.toList.map a.eval).toArray).run P w := by
  simp only [execOp, ho]
  rw [Sem.run_bind]
  show (Result.andThen ((Pure.pure _ : Sem Deferred).run P w) _) = _
  simp only [Sem.run_pure, Result.andThen]
  show (invoke (.fn (.func f) #[]) (#[] ++ args.map a.eval)).run P w = _
  have : (args.toList.map a.eval).toArray = args.map a.eval := by
    apply Array.ext'; simp
  rw [this]
  simp [invoke]

section
variable {cf : CF} {sg : Nat → Option Sg} {c : Cx} {F : Fact → Prop} {E : Nat → D} {a : Act} {w : World} {vs : Nat → Value} {Bs : Nat → List Nat} {cnt : Nat} {g : Gd} {sm : Sm} {st : List Fact} {o : Oper} {p : Pr}
  {K : Nat → List D → List D → Prop}

theorem trEx_sound {x : Operand} {ix : Nat} (ho : o.op = .extract x ix) (ht : trEx cf st o g x ix = some (p, sm)) (h : At cf c F E a w vs Bs cnt g p sm) : StepOK c o sm F E a w := by
  unfold trEx at ht
  split at ht
  · rename_i t d hd
    split at ht
    · rename_i hlt
      split at ht
      · rename_i ns g' hl
        split at ht
        · rename_i hg'
          simp only [Option.map_eq_some_iff, Prod.mk.injEq] at ht
          obtain ⟨n, hn, _, rfl⟩ := ht
          have hf := h.needs (.sl t (.tu ns g')) (by simp)
          have hl1 : a.tmps[t]? = some (.tuple (ns.map vs).toArray) := h.H.loc t _ hf (fun x hx => h.g x ((List.isPrefixOf_iff_prefix.1 hg').subset hx))
          have hev : a.eval (.tmp t) = .tuple (ns.map vs).toArray := by simp [Act.eval, hl1]
          have hr : (execOp a.eval o).run c.P w = .ok (.value (vs n)) w := by
            simp only [execOp, ho]
            refine run_v ?_
            rw [hev]
            simp [Instr.extract, hn]
          refine StepOK.of_value hr ⟨vs, Bs, ?_⟩
          rw [hd]
          refine HoldsG.step (fun _ => False) (fun _ => False) (fun _ => False) (some d) h.H (fun _ _ => rfl) (fun _ _ => rfl) (fun _ _ _ _ _ q => q) (fun _ q => q.elim) (Agr.refl _ _) rfl rfl rfl
            (fun t ht => put_get ht) put_size put_defers ?_ (fun _ _ q => q.elim) (fun _ _ q => q.elim) (fun _ _ q => q.elim) (fun _ _ _ _ q => q.elim) ?_
          · rintro f (⟨h1, h2⟩ | h1)
            · left
              refine ⟨h1, ?_⟩
              cases f with
              | en n s => exact fun q => q
              | sl u l => exact h2
            · simp at h1; subst h1; right; rfl
          · rintro u l hu (⟨_, h2⟩ | h2)
            · exact (h2 hu).elim
            · simp at h2
              obtain ⟨rfl, rfl⟩ := h2
              exact ⟨fun _ => put_self (by rw [h.H.size, h.fits.nt]; exact hlt), fun q => (q h.g).elim⟩
        · simp at ht
      · simp at ht
    · simp at ht
  · simp at ht

theorem trOp_sound (hs : Sound cf sg K) {k : Nat} (ht : trOp cf sg st cnt o g k = some (p, sm)) (h : At cf c F E a w vs Bs cnt g p sm) (hE : EvP K E cnt p) : StepOK c o sm F E a w := by
  unfold trOp at ht
  split at ht
  · rename_i x ix ho
    exact trEx_sound ho ht h
  · rename_i f args ts ho
    split at ht
    · rename_i m hm
      refine trCallTo_sound hs h.fits ht h.H h.fresh h.needs h.g hE ?_
      rw [exec_call ho, h.fits.gof f m hm]
    · simp at ht
  · exact trPure_sound ht h hE
end
end Go.Cat
