/-
  Bytes to a string; a tuple moved.
-/
import Derived.Test.YtddhlibpgnnanaaCatMemK
namespace Go.Cat
set_option linter.unusedVariables false

theorem bytesOf_spec : ∀ {xs : List D} {ns : List Nat}, bytesOf xs = some ns → xs = ns.map (fun (n : Nat) => D.i .u8 (n : Int)) ∧ ∀ n ∈ ns, n < 256
  | [], ns, h => by simp [bytesOf] at h; subst h; simp
  | d :: xs, ns, h => by
    unfold bytesOf at h
    split at h
    · simp_all
    · rename_i n ds heq
      cases heq
      split at h
      · rename_i hb
        simp only [Option.map_eq_some_iff] at h
        obtain ⟨ms, h1, rfl⟩ := h
        obtain ⟨rfl, h2⟩ := bytesOf_spec h1
        refine ⟨?_, ?_⟩
        · simp [Int.toNat_of_nonneg hb.1]
        · intro m hm
          rcases List.mem_cons.1 hm with rfl | hm
          · omega
          · exact h2 m hm
      · cases h
    · cases h

theorem RdL.bytes {fid : Nat → Nat} {h : Array Obj} {Z : Nat → Prop} : ∀ {ns : List Nat} {vs : List Value}, vs.length = ns.length → RdL fid h Z (ns.map (fun (n : Nat) => D.i .u8 (n : Int))) vs → vs = (ns.map (fun (n : Nat) => (n : Int))).map (Value.int .u8)
  | [], [], _, _ => rfl
  | [], _ :: _, hl, _ => by simp at hl
  | n :: ns, [], hl, _ => by simp at hl
  | n :: ns, v :: vs, hl, r => by
    simp only [List.map_cons, RdL, Rd] at r
    rw [r.1, RdL.bytes (by simpa using hl) r.2]
    simp

theorem push_bytes : ∀ (ns : List Nat) (s : ByteArray), (ns.map (fun (n : Nat) => (n : Int))).foldl (fun r n => r.push (UInt8.ofNat n.toNat)) s = ⟨s.data ++ (ns.map fun c => UInt8.ofNat c).toArray⟩
  | [], s => by simp
  | n :: ns, s => by
    simp only [List.map_cons, List.foldl_cons, Int.toNat_natCast]
    rw [push_bytes ns]
    apply ByteArray.ext
    simp

section
variable {cf : CF} {c : Cx} {F : Fact → Prop} {E : Nat → D} {a : Act} {w : World} {vs : Nat → Value} {Bs : Nat → List Nat} {cnt : Nat} {g : Gd} {sm : Sm} {st : List Fact} {o : Oper} {p : Pr}
  {K : Nat → List D → List D → Prop}

/-- The elements of what is readable or owned, as a row of values. -/
theorem Own.news {fid : Nat → Nat} {h : Array Obj} {O X : Nat → Prop} {s : Sh} {ys : List D} {v : Value} {B : List Nat} (hs : s = .v ∨ s = .y ∨ s = .o .v) (r : Own fid h O X s (.l ys) v B) :
    ∃ (news : List Value) (Z : Nat → Prop), ((v = .slice none 0 0 ∧ news = []) ∨ ∃ b off cap cs e fz, v = .slice (some ⟨b, off, none⟩) news.length cap ∧ h[b]? = some (.cells cs e fz) ∧ ∀ (j : Nat) (u : Value), news[j]? = some u → cs[off + j]? = some u) ∧
      news.length = ys.length ∧ RdL fid h Z ys news := by
  rcases hs with rfl | rfl | rfl
  · simp only [Own] at r
    obtain ⟨news, h1, h2, h3⟩ := r.2.news
    refine ⟨news, _, ?_, h2, h3⟩
    rcases h1 with h1 | ⟨b, off, cap, cs, e, fz, q1, q2, q3, q4⟩
    · exact .inl h1
    · exact .inr ⟨b, off, cap, cs, e, fz, q1, q3, q4⟩
  · simp only [Own] at r
    obtain ⟨news, h1, h2, h3⟩ := r.2.news
    refine ⟨news, _, ?_, h2, h3⟩
    rcases h1 with h1 | ⟨b, off, cap, cs, e, fz, q1, q2, q3, q4⟩
    · exact .inl h1
    · exact .inr ⟨b, off, cap, cs, e, fz, q1, q3, q4⟩
  · obtain ⟨news, h1, h2, h3⟩ := r.olds
    refine ⟨news, _, ?_, h2, h3⟩
    rcases h1 with ⟨q1, q2, _⟩ | ⟨b, off, cap, cs, e, _, q1, q2, _, _, q4⟩
    · exact .inl ⟨q1, q2⟩
    · exact .inr ⟨b, off, cap, cs, e, _, q1, q2, q4⟩

theorem isBytes_spec {P : Program} {t : TypeId} (h : isBytes P t = true) : ∃ e, P.underlying t = some (.slice e) ∧ P.underlying e = some (.int .u8) := by
  unfold isBytes at h
  split at h
  · rename_i e ti hel
    split at h
    · rename_i he
      exact ⟨e, (elem1_spec hel).1, he⟩
    · cases h
  · cases h

def okBs : Sh → Bool
  | .v => true
  | .y => true
  | .o .v => true
  | _ => false

theorem trBs_sound {s d : TypeId} {x : Operand} (ho : o.op = .convert s d x) (ht : trBs cf st cnt o g s d x = some (p, sm)) (hok : ∀ α sh ns, opA cf st g x = some (α, sh, ns) → okBs sh = true) (h : At cf c F E a w vs Bs cnt g p sm) (hE : EvP K E cnt p) : StepOK c o sm F E a w := by
  unfold trBs at ht
  split at ht
  · rename_i hc
    obtain ⟨h1, h2⟩ := hc
    simp only [Option.bind_eq_some_iff] at ht
    obtain ⟨⟨α, sh, ns⟩, hx, ht⟩ := ht
    have hsh := hok _ _ _ hx
    obtain ⟨rfl, hi', rfl⟩ := leafS_eq ht
    obtain ⟨B, hB, _⟩ := h.opA hx (fun f hf => hf)
    have hE' : bsD (ev E α) = some (E cnt) := hE
    unfold bsD at hE'
    split at hE'
    · rename_i xs hxs
      simp only [Option.map_eq_some_iff] at hE'
      obtain ⟨ms, hb, hE'⟩ := hE'
      obtain ⟨hxm, hlt⟩ := bytesOf_spec hb
      rw [hxs] at hB
      have hlen := hB.len
      obtain ⟨news, Z, k1, k2, k3⟩ := hB.news (by cases sh with | v => simp | y => simp | o s => cases s <;> simp_all [okBs])
      subst hxm
      have hnv := RdL.bytes (by simpa using k2) k3
      obtain ⟨e, e1, e2⟩ := isBytes_spec h1
      have hP : c.P = cf.P := h.fits.P
      have hrun : (convert s d (a.eval x)).run c.P w = .ok (strV ms) w := by
        rcases k1 with ⟨q1, q2⟩ | ⟨b, off, cap, cs, e', fz, q1, q2, q3⟩
        · rw [q1, run_convert_bytes_string w s d e none 0 0 (by rw [hP]; exact e1) (by rw [hP]; exact e2) (by rw [hP]; exact isStr_und h2)]
          have : ms = [] := List.eq_nil_of_length_eq_zero (by rw [q2] at k2; simpa using k2.symm)
          subst this
          simp [Conv.bytesToString, strV]
          rfl
        · rw [q1, run_convert_bytes_string w s d e _ _ _ (by rw [hP]; exact e1) (by rw [hP]; exact e2) (by rw [hP]; exact isStr_und h2)]
          have hl := run_loadCells_list (P := c.P) w ⟨b, off, none⟩ news (fun j v hj => by rw [Addr.add_lit]; simp [World.cell?, q2, q3 j v hj])
          rw [hnv] at hl
          rw [run_bytesToString w ⟨b, off, none⟩ news.length cap (ms.map fun (n : Nat) => (n : Int)) (by rw [← hl]; congr 2; rw [hnv])]
          rw [push_bytes]
          unfold strV
          congr 2
          apply ByteArray.ext
          simp
      refine leaf_step h hi' (same_world w) (v := strV ms) ?_ (Own.of_rd fun Z => ?_)
      · simp only [execOp, ho]
        exact run_v hrun
      · rw [← hE']
        simp only [Rd]
        refine ⟨trivial, hlt, ?_⟩
        obtain ⟨_, _, _, hl⟩ := hlen
        simpa using hl
    · cases hE'
  · cases ht

theorem trTu_sound {x : Operand} (hx : (execOp a.eval o).run c.P w = .ok (.value (a.eval x)) w) (ht : trTu cf st o g x = some (p, sm)) (h : At cf c F E a w vs Bs cnt g p sm) : StepOK c o sm F E a w := by
  unfold trTu at ht
  split at ht
  · rename_i t d hd
    split at ht
    · rename_i hlt
      split at ht
      · rename_i ns g' hl
        split at ht
        · rename_i hg'
          simp only [Option.some.injEq, Prod.mk.injEq] at ht
          obtain ⟨rfl, rfl⟩ := ht
          have hl1 : a.tmps[t]? = some (.tuple (ns.map vs).toArray) := h.H.loc t (.tu ns g') (h.needs _ (by simp)) (prefix_gd hg' h.g)
          have hev : a.eval (.tmp t) = .tuple (ns.map vs).toArray := by simp [Act.eval, Array.getD_eq_getD_getElem?, hl1]
          refine StepOK.of_value hx ⟨vs, Bs, ?_⟩
          rw [hd]
          refine h.H.slot (same_world w) ?_
          intro _
          rw [hev]
          exact put_self (by rw [h.H.size, h.fits.nt]; exact hlt)
        · cases ht
      · cases ht
    · cases ht
  · cases ht

end
end Go.Cat
