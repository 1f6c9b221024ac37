/-
  A store into an element of what is owned.
-/
import Derived.Test.YtddhlibpgnnanaaCatMemH
namespace Go.Cat
set_option linter.unusedVariables false

theorem Each.upd {R : D → Value → List Nat → Prop} : ∀ {ds : List D} {vs : List Value} {B : List Nat} {i : Nat} {d : D} {v : Value}, Each R ds vs B → ds[i]? = some d → vs[i]? = some v →
    ∃ Bi B1 B2, B = B1 ++ (Bi ++ B2) ∧ R d v Bi ∧ ∀ (R' : D → Value → List Nat → Prop) (x : D) (u : Value) (Bx : List Nat), (∀ d v B', (∀ k ∈ B', k ∈ B1 ∨ k ∈ B2) → R d v B' → R' d v B') → R' x u Bx →
      Each R' (ds.set i x) (vs.set i u) (B1 ++ (Bx ++ B2))
  | [], _, _, _, _, _, _, h, _ => by simp at h
  | _ :: _, [], _, _, _, _, _, _, h => by simp at h
  | d0 :: ds, v0 :: vs, B, 0, d, v, r, h1, h2 => by
    simp only [Each] at r
    obtain ⟨Bi, B2, rfl, r1, r2⟩ := r
    simp at h1 h2
    subst h1 h2
    refine ⟨Bi, [], B2, rfl, r1, fun R' x u Bx hR hx => ?_⟩
    simp only [List.set_cons_zero, Each, List.nil_append]
    exact ⟨Bx, B2, rfl, hx, Each.imp (fun d v B' hB q => hR d v B' (fun k hk => .inr (hB k hk)) q) r2⟩
  | d0 :: ds, v0 :: vs, B, i + 1, d, v, r, h1, h2 => by
    simp only [Each] at r
    obtain ⟨B0, B3, rfl, r1, r2⟩ := r
    obtain ⟨Bi, B1, B2, rfl, q1, q2⟩ := Each.upd r2 (by simpa using h1) (by simpa using h2)
    refine ⟨Bi, B0 ++ B1, B2, by simp, q1, fun R' x u Bx hR hx => ?_⟩
    simp only [List.set_cons_succ, Each]
    refine ⟨B0, B1 ++ (Bx ++ B2), by simp, hR _ _ _ (fun k hk => .inl (List.mem_append_left _ hk)) r1, ?_⟩
    exact q2 R' x u Bx (fun d v B' hB q => hR d v B' (fun k hk => (hB k hk).imp (fun q => List.mem_append_right _ q) id) q) hx

theorem setP_getP : ∀ (is : List Nat) (d x d' : D), setP is d x = some d' → ∃ y, getP is d = some y
  | [], d, x, d', _ => ⟨d, rfl⟩
  | i :: is, d, x, d', h => by
    cases d with
    | l xs =>
      simp only [setP, Option.map_eq_some_iff, Option.bind_eq_some_iff] at h
      obtain ⟨y, ⟨zz, h1, h2⟩, rfl⟩ := h
      obtain ⟨q, hq⟩ := setP_getP is zz x y h2
      exact ⟨q, by simp [getP, h1, hq]⟩
    | _ => simp [setP] at h

/-- What is owned, one of its elements turned. -/
theorem Own.set {fid : Nat → Nat} {h h' : Array Obj} {O O' X : Nat → Prop} {gb go : Nat} {u : Value} {gcs : Array Value} {ge : TypeId}
    (ha : ∀ b, b ≠ gb → h'[b]? = h[b]?) (hsz : h'.size = h.size) (hg : h[gb]? = some (.cells gcs ge (0, 0))) (hg' : h'[gb]? = some (.cells (gcs.setIfInBounds go u) ge (0, 0)))
    (hgO : O gb) (hO : ∀ b, b < h.size → O' b → O b) {es : Sh} {x : D} {Bx : List Nat} (hx : Own fid h' O' X es x u Bx) :
    ∀ (is : List Nat) (s : Sh) (d d' : D) (v y : Value) (B : List Nat), is ≠ [] → Own fid h O X s d v B → B.Nodup → (∀ k ∈ B, k ∉ Bx) → Bx.Nodup → s.under is.length = some es → setP is d x = some d' → Wk h is v gb go y →
    ∃ B', Own fid h' O' X s d' v B' ∧ (∀ k ∈ B', k ∈ B ∨ k ∈ Bx) ∧ B'.Nodup ∧ gb ∈ B
  | [], _, _, _, _, _, _, hne => (hne rfl).elim
  | i :: is, s, d, d', v, y, B, _ => fun r hnd hdis hbx hs hset hw => by
    cases s with
    | v => simp [Sh.under] at hs
    | y => simp [Sh.under] at hs
    | o s =>
      simp only [List.length_cons, Sh.under] at hs
      cases d with
      | l xs =>
        simp only [setP, Option.map_eq_some_iff, Option.bind_eq_some_iff] at hset
        obtain ⟨d1', ⟨d1, hxi, hset⟩, rfl⟩ := hset
        simp only [Own] at r
        rcases r with ⟨r, _⟩ | ⟨ys, hy, r⟩
        · cases r
        injection hy with hy; subst hy
        rcases r with ⟨_, rfl, _⟩ | ⟨b, off, cap, cs, e, fz, B', rfl, rfl, hb, ht, h1, h2, h3, he⟩
        · simp at hxi
        simp only [Wk] at hw
        obtain ⟨b2, off2, len2, cap2, cs2, e2, fz2, z, hv, hil, hb2, hz, hw⟩ := hw
        injection hv with q1 q2 q3
        injection q1 with q1
        injection q1 with q1 q4
        subst q1 q4
        rw [hb] at hb2
        injection hb2 with hb2
        injection hb2 with q5 q6 q7
        subst q5
        have hfz : fz = (0, 0) := ht
        subst hfz
        have hzl : (cs.toList.drop off)[i]? = some z := by rw [drop_get]; exact hz
        obtain ⟨Bi, B1, B2, rfl, r1, r2⟩ := Each.upd he hxi hzl
        have hnd' := (List.nodup_cons.1 hnd).2
        have hnb := (List.nodup_cons.1 hnd).1
        obtain ⟨n1, n23, n4⟩ := List.nodup_append.1 hnd'
        obtain ⟨n2, n3, n5⟩ := List.nodup_append.1 n23
        have hagr : Agr (fun b => b = gb) h h' := ⟨by rw [hsz]; exact Nat.le_refl _, fun b _ hb => ha b hb⟩
        have htr : (∀ k, k ∈ B1 ∨ k ∈ B2 → k ≠ gb) → ∀ d v B', (∀ k ∈ B', k ∈ B1 ∨ k ∈ B2) → Own fid h O X s d v B' → Own fid h' O' X s d v B' := by
          intro hk d v B' hB q
          exact Own.ext hagr (fun b _ hb => by rw [hb]; exact hgO) hO s d v B' (fun b hb e => hk b (hB b hb) e) q
        by_cases hn : is = []
        · subst hn
          rcases hw with ⟨_, rfl, rfl, rfl⟩ | ⟨hne, _⟩
          · simp only [List.length_nil, Sh.under, Option.some.injEq] at hs
            subst hs
            simp only [setP, Option.some.injEq] at hset
            subst hset
            rw [hb] at hg
            injection hg with hg
            injection hg with g1 g2 _
            subst g1 g2
            have hkb : ∀ k, k ∈ B1 ∨ k ∈ B2 → k ≠ gb := by
              rintro k hk rfl
              exact hnb (by rcases hk with hk | hk <;> simp [hk])
            have hE := r2 (Own fid h' O' X s) x u Bx (htr hkb) hx
            refine ⟨gb :: (B1 ++ (Bx ++ B2)), ?_, ?_, ?_, by simp⟩
            · simp only [Own]
              refine .inr ⟨_, rfl, .inr ⟨gb, off, cap, _, e, (0, 0), _, rfl, by simp, hg', rfl, by simpa using h1, by simpa using h2, by simpa using h3, ?_⟩⟩
              have : (cs.setIfInBounds (off + i) u).toList.drop off = (cs.toList.drop off).set i u := by
                rw [Array.toList_setIfInBounds, List.drop_set, if_neg (by omega), Nat.add_sub_cancel_left]
              rw [this]
              exact hE
            · intro k hk
              simp only [List.mem_cons, List.mem_append] at hk ⊢
              rcases hk with hk | hk | hk | hk
              · exact .inl (.inl hk)
              · exact .inl (.inr (.inl hk))
              · exact .inr hk
              · exact .inl (.inr (.inr (.inr hk)))
            · refine List.nodup_cons.2 ⟨fun q => ?_, List.nodup_append.2 ⟨n1, List.nodup_append.2 ⟨hbx, n3, fun a ha b hb => ?_⟩, fun a ha b hb => ?_⟩⟩
              · simp only [List.mem_append] at q
                rcases q with q | q | q
                · exact hnb (by simp [q])
                · exact hdis gb (by simp) q
                · exact hnb (by simp [q])
              · rintro rfl; exact hdis a (by simp [hb]) ha
              · rintro rfl
                simp only [List.mem_append] at hb
                rcases hb with hb | hb
                · exact hdis a (by simp [ha]) hb
                · exact n4 a ha a (by simp [hb]) rfl
          · exact (hne rfl).elim
        · rcases hw with ⟨q, _⟩ | ⟨_, hw⟩
          · exact (hn q).elim
          obtain ⟨Bn, w1, w2, w3, w4⟩ := Own.set ha hsz hg hg' hgO hO hx is s d1 d1' z y Bi hn r1 n2 (fun k hk => hdis k (by simp [hk])) hbx hs hset hw
          have hbgb : b ≠ gb := by rintro rfl; exact hnb (by simp [w4])
          have hkb : ∀ k, k ∈ B1 ∨ k ∈ B2 → k ≠ gb := by
            rintro k hk rfl
            rcases hk with hk | hk
            · exact n4 k hk k (by simp [w4]) rfl
            · exact n5 k w4 k hk rfl
          have hE := r2 (Own fid h' O' X s) d1' z Bn (htr hkb) w1
          refine ⟨b :: (B1 ++ (Bn ++ B2)), ?_, ?_, ?_, by simp [w4]⟩
          · simp only [Own]
            refine .inr ⟨_, rfl, .inr ⟨b, off, cap, cs, e, (0, 0), _, rfl, by simp, (ha b hbgb).trans hb, rfl, by simpa using h1, h2, by simpa using h3, ?_⟩⟩
            have hself : (cs.toList.drop off).set i z = cs.toList.drop off := List.set_getElem?_self' hzl
            rw [hself] at hE
            exact hE
          · intro k hk
            simp only [List.mem_cons, List.mem_append] at hk ⊢
            rcases hk with hk | hk | hk | hk
            · exact .inl (.inl hk)
            · exact .inl (.inr (.inl hk))
            · exact (w2 k hk).imp (fun q => .inr (.inr (.inl q))) id
            · exact .inl (.inr (.inr (.inr hk)))
          · refine List.nodup_cons.2 ⟨fun q => ?_, List.nodup_append.2 ⟨n1, List.nodup_append.2 ⟨w3, n3, fun a ha' b' hb' => ?_⟩, fun a ha' b' hb' => ?_⟩⟩
            · simp only [List.mem_append] at q
              rcases q with q | q | q
              · exact hnb (by simp [q])
              · rcases w2 _ q with q | q
                · exact hnb (by simp [q])
                · exact hdis b (by simp) q
              · exact hnb (by simp [q])
            · rintro rfl
              rcases w2 _ ha' with q | q
              · exact n5 a q a hb' rfl
              · exact hdis a (by simp [hb']) q
            · rintro rfl
              simp only [List.mem_append] at hb'
              rcases hb' with hb' | hb'
              · rcases w2 _ hb' with q | q
                · exact n4 a ha' a (by simp [q]) rfl
                · exact hdis a (by simp [ha']) q
              · exact n4 a ha' a (by simp [hb']) rfl
      | _ => simp [setP] at hset
where
  List.set_getElem?_self' {l : List Value} {i : Nat} {z : Value} (h : l[i]? = some z) : l.set i z = l := by
    apply List.ext_getElem?
    intro j
    rw [List.getElem?_set]
    split
    · rename_i hij
      subst hij
      split
      · exact h.symm
      · rename_i hlt
        rw [List.getElem?_eq_none (by omega)]
    · rfl

end Go.Cat
