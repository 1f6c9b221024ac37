/-
  All operations together: the translation of one operation, and that it is sound.
-/
import Derived.Test.YtddhlibpgnnanaaCatMemL
import Derived.Test.YtddhlibpgnnanaaCatMemM
namespace Go.Cat

section
variable (cf : CF) (sg : Nat → Option Sg) (st : List Fact) (cnt : Nat) (o : Oper) (g : Gd)

def trEx (x : Operand) (ix : Nat) : Option (Pr × Sm) :=
  match x, o.dst with
  | .tmp t, some d => if d < cf.nt then match findSl st t with
    | some (.tu ns g') => if g'.isPrefixOf g then (ns[ix]?).map fun n => (.nop, ⟨[.sl t (.tu ns g')], [], [.sl d (.is n g)]⟩) else none
    | _ => none
    else none
  | _, _ => none

def trOp (k : Nat) : Option (Pr × Sm) :=
  match o.op with
  | .extract x ix => trEx cf st o g x ix
  | .call { callee := .value (.func f), args, .. } => match cf.gof f with
    | some m => trCallTo cf sg st cnt o g m args.toList
    | none => none
  | .move x => match trTu cf st o g x with
    | some r => some r
    | none => trPure cf st cnt o g k
  | .slice t x lo hi mx => trSl cf st cnt o g t x lo hi mx
  | .convert s d x => if isBytes cf.P s = true then match opA cf st g x with
      | some (_, sh, _) => if okBs sh = true then trBs cf st cnt o g s d x else none
      | none => none
    else trPure cf st cnt o g k
  | .indexAddr t x i => trIx cf st cnt o g t x i
  | .load t x => trLd cf st o g t x
  | .store t x v => trSt cf st cnt o g k t x v
  | .makeSlice t l c => trMk cf st cnt o g k t l c
  | .buildSlice t len ps => trLi cf st cnt o g k t len ps
  | .call { callee := .builtin .append, args, argTypes } => match args, argTypes with
    | ⟨[s, x]⟩, ⟨[t, t']⟩ => if t = t' then (match trAp cf st cnt o g t s x with
      | some r => some r
      | none => trAp2 cf st cnt o g t s x) else none
    | _, _ => none
  | _ => trPure cf st cnt o g k
end

theorem exec_call {o : Oper} {f : FuncId} {args : Array Operand} {ts : Array TypeId} (ho : o.op = .call { callee := .value (.func f), args, argTypes := ts }) (P : Program) (w : World) (a : Act) :
    (execOp a.eval o).run P w = (callFunc f (args.toList.map a.eval).toArray).run P w := by
  simp only [execOp, ho]
  rw [Sem.run_bind]
  show (Result.andThen ((Pure.pure _ : Sem Deferred).run P w) _) = _
  simp only [Sem.run_pure, Result.andThen]
  show (invoke (.fn (.func f) #[]) (#[] ++ args.map a.eval)).run P w = _
  have : (args.toList.map a.eval).toArray = args.map a.eval := by
    apply Array.ext'; simp
  rw [this]
  simp [invoke]

section
variable {cf : CF} {sg : Nat → Option Sg} {c : Cx} {F : Fact → Prop} {E : Nat → D} {a : Act} {w : World} {vs : Nat → Value} {Bs : Nat → List Nat} {cnt : Nat} {g : Gd} {sm : Sm} {st : List Fact} {o : Oper} {p : Pr}
  {K : Nat → List D → List D → Prop}

theorem trEx_sound {x : Operand} {ix : Nat} (ho : o.op = .extract x ix) (ht : trEx cf st o g x ix = some (p, sm)) (h : At cf c F E a w vs Bs cnt g p sm) : StepOK c o sm F E a w := by
  unfold trEx at ht
  split at ht
  · rename_i t d hd
    split at ht
    · rename_i hlt
      split at ht
      · rename_i ns g' hl
        split at ht
        · rename_i hg'
          simp only [Option.map_eq_some_iff, Prod.mk.injEq] at ht
          obtain ⟨n, hn, _, rfl⟩ := ht
          have hf := h.needs (.sl t (.tu ns g')) (by simp)
          have hl1 : a.tmps[t]? = some (.tuple (ns.map vs).toArray) := h.H.loc t _ hf (fun x hx => h.g x ((List.isPrefixOf_iff_prefix.1 hg').subset hx))
          have hev : a.eval (.tmp t) = .tuple (ns.map vs).toArray := by simp [Act.eval, hl1]
          have hr : (execOp a.eval o).run c.P w = .ok (.value (vs n)) w := by
            simp only [execOp, ho]
            refine run_v ?_
            rw [hev]
            simp [Instr.extract, hn]
          refine StepOK.of_value hr ⟨vs, Bs, ?_⟩
          rw [hd]
          refine HoldsG.step (fun _ => False) (fun _ => False) (fun _ => False) (some d) h.H (fun _ _ => rfl) (fun _ _ => rfl) (fun _ _ _ _ _ q => q) (fun _ q => q.elim) (Agr.refl _ _) rfl rfl rfl
            (fun t ht => put_get ht) put_size put_defers ?_ (fun _ _ q => q.elim) (fun _ _ q => q.elim) (fun _ _ q => q.elim) (fun _ _ _ _ q => q.elim) ?_
          · rintro f (⟨h1, h2⟩ | h1)
            · left
              refine ⟨h1, ?_⟩
              cases f with
              | en n s => exact fun q => q
              | sl u l => exact h2
            · simp at h1; subst h1; right; rfl
          · rintro u l hu (⟨_, h2⟩ | h2)
            · exact (h2 hu).elim
            · simp at h2
              obtain ⟨rfl, rfl⟩ := h2
              exact ⟨fun _ => put_self (by rw [h.H.size, h.fits.nt]; exact hlt), fun q => (q h.g).elim⟩
        · simp at ht
      · simp at ht
    · simp at ht
  · simp at ht

theorem trOp_sound (hs : Sound cf sg K) {k : Nat} (ht : trOp cf sg st cnt o g k = some (p, sm)) (h : At cf c F E a w vs Bs cnt g p sm) (hE : EvP K E cnt p) : StepOK c o sm F E a w := by
  unfold trOp at ht
  split at ht
  · rename_i x ix ho
    exact trEx_sound ho ht h
  · rename_i f args ts ho
    split at ht
    · rename_i m hm
      refine trCallTo_sound hs h.fits ht h.H h.fresh h.needs h.g hE ?_
      rw [exec_call ho, h.fits.gof f m hm]
    · simp at ht
  · rename_i x ho
    split at ht
    · rename_i r hr
      injection ht with ht
      subst ht
      exact trTu_sound (by simp only [execOp, ho]; rfl) hr h
    · exact trPure_sound ht h hE
  · rename_i t x lo hi mx ho
    exact trSl_sound ho ht h hE
  · rename_i s d x ho
    split at ht
    · split at ht
      · rename_i α sh ns hx
        split at ht
        · rename_i hok
          refine trBs_sound ho ht (fun α' sh' ns' hx' => ?_) h hE
          rw [hx] at hx'
          simp only [Option.some.injEq, Prod.mk.injEq] at hx'
          obtain ⟨_, rfl, _⟩ := hx'
          exact hok
        · cases ht
      · cases ht
    · exact trPure_sound ht h hE
  · rename_i t x i ho
    exact trIx_sound ho ht h hE
  · rename_i t x ho
    exact trLd_sound ho ht h
  · rename_i t x v ho
    exact trSt_sound ho ht h hE
  · rename_i t l c ho
    exact trMk_sound ho ht h hE
  · rename_i t len ps ho
    exact trLi_sound ho ht h hE
  · rename_i args ts ho
    split at ht
    · split at ht
      · rename_i hh
        subst hh
        split at ht
        · rename_i r hr
          injection ht with ht
          subst ht
          exact trAp_sound ho hr h hE
        · exact trAp2_sound ho ht h hE
      · cases ht
    · cases ht
  · exact trPure_sound ht h hE
end
end Go.Cat
