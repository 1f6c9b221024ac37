/-
  Paths counted by numbers: areas, places of valleys.
-/
import Derived.Test.YtdifmcppfcbgdaaPfPolyB
import Derived.Test.YtdifmcppfcbgdaaPfAp2
import Derived.Test.YtdifmcppfcbgdaaPfPLine
import Derived.Test.YtdifmcppfcbgdaaPfOut
namespace Go.Cat
set_option linter.unusedSimpArgs false
set_option maxRecDepth 100000
variable {K : Nat → List D → List D → Prop}

/-- One more of a number. -/
def incF (o : List Int) (k : Nat) : List Int := let p := o ++ List.replicate (k + 1 - o.length) 0; p.set k (p.getD k 0 + 1)
def dsF (g : List Nat → Nat) (ws : List (List Nat)) : List Int := ws.foldl (fun o w => incF o (g w)) []
theorem incF_len {o : List Int} {k : Nat} : (incF o k).length = max o.length (k + 1) := by
  simp only [incF, List.length_set, List.length_append, List.length_replicate]; omega
theorem ds_step {g : List Nat → Nat} {ws : List (List Nat)} {i : Nat} (h : i < ws.length) : dsF g (ws.take (i + 1)) = incF (dsF g (ws.take i)) (g (atS ws i)) := by
  have e : ws.take (i + 1) = ws.take i ++ [atS ws i] := by
    rw [List.take_succ_eq_append_getElem h]; simp [atS, h]
  rw [e, dsF, List.foldl_append]; rfl
theorem dsF_len {g : List Nat → Nat} {b : Nat} : ∀ {ws : List (List Nat)} {o : List Int}, (∀ w ∈ ws, g w ≤ b) → o.length ≤ b + 1 → (ws.foldl (fun o w => incF o (g w)) o).length ≤ b + 1
  | [], o, _, h => h
  | w :: ws, o, h, h2 => by
    rw [List.foldl_cons]
    refine dsF_len (fun w hw => h w (by simp [hw])) ?_
    rw [incF_len]
    have := h w (by simp)
    omega
theorem incF_bd {o : List Int} {k : Nat} {b : Int} (hb : 0 ≤ b) (h : ∀ x ∈ o, 0 ≤ x ∧ x ≤ b) : ∀ x ∈ incF o k, 0 ≤ x ∧ x ≤ b + 1 := by
  intro x hx
  have hp : ∀ x ∈ o ++ List.replicate (k + 1 - o.length) 0, 0 ≤ x ∧ x ≤ b := by
    intro x hx
    rcases List.mem_append.1 hx with q | q
    · exact h x q
    · have := List.eq_of_mem_replicate q; omega
  simp only [incF] at hx
  rcases List.mem_or_eq_of_mem_set hx with q | q
  · have := hp x q; omega
  · rw [List.getD_eq_getElem?_getD] at q
    rcases Nat.lt_or_ge k (o ++ List.replicate (k + 1 - o.length) (0 : Int)).length with c | c
    · rw [List.getElem?_eq_getElem c] at q
      have := hp _ (List.getElem_mem c)
      simp only [Option.getD_some] at q
      omega
    · rw [List.getElem?_eq_none c] at q
      simp only [Option.getD_none] at q
      omega
theorem dsF_bd {g : List Nat → Nat} : ∀ {ws : List (List Nat)} {o : List Int} {b : Int}, 0 ≤ b → (∀ x ∈ o, 0 ≤ x ∧ x ≤ b) → ∀ x ∈ ws.foldl (fun o w => incF o (g w)) o, 0 ≤ x ∧ x ≤ b + ws.length
  | [], o, b, _, h, x, hx => by have := h x hx; simp; omega
  | w :: ws, o, b, h0, h, x, hx => by
    rw [List.foldl_cons] at hx
    have := dsF_bd (g := g) (b := b + 1) (by omega) (incF_bd h0 h) x hx
    simp only [List.length_cons]; omega

theorem memIA {l : List Int} {j : Nat} (h : j < l.length) : atI l j ∈ l := by simp [atI, h]
/-! ### Areas by one walk -/
def arN : List Nat → Nat → Nat
  | [], _ => 0
  | c :: w, h => if c = 117 then h + arN w (h + 1) else arN w (h - 1)
def arH (w : List Nat) (h : Int) : Nat → Int
  | 0 => 0
  | i + 1 => arH w h i + (if atB w i = 117 then h + Hh w i else 0)
theorem arH_0 {w : List Nat} : ∀ i, arH w 0 i = arF w i
  | 0 => rfl
  | i + 1 => by rw [arH, arF, arH_0 i]; simp
theorem atB_c {c : Nat} {w : List Nat} {i : Nat} : atB (c :: w) ((i + 1 : Nat) : Int) = atB w i := by simp [atB]
theorem arH_c {c : Nat} {w : List Nat} {h : Int} : ∀ i, arH (c :: w) h (i + 1) = (if c = 117 then h else 0) + arH w (h + ((if c = 117 then 1 else 0) - (if c = 100 then 1 else 0))) i
  | 0 => by
    have e : atB (c :: w) ((0 : Nat) : Int) = c := by simp [atB]
    simp only [arH, e, Hh_0]
    split <;> omega
  | i + 1 => by
    rw [arH, arH_c i, arH, atB_c, Hh_cons]
    by_cases q : atB w i = 117
    · rw [if_pos q, if_pos q]; omega
    · rw [if_neg q, if_neg q]; omega
theorem arN_H : ∀ {w : List Nat} {h : Nat} {r : Int}, walkH w h = some r → arH w h w.length = arN w h
  | [], h, r, _ => rfl
  | c :: w, h, r, e => by
    simp only [walkH] at e
    rw [List.length_cons, arH_c, arN]
    by_cases hu : c = 117
    · rw [if_pos hu] at e
      have ih := arN_H (w := w) (h := h + 1) (r := r) (by rw [← e]; congr 1)
      rw [if_pos hu, if_pos hu, if_pos hu, if_neg (by omega)]
      have e2 : (h : Int) + (1 - 0) = ((h + 1 : Nat) : Int) := by omega
      rw [e2, ih]; omega
    · rw [if_neg hu] at e
      by_cases hd : c = 100
      · rw [if_pos hd] at e
        split at e
        · cases e
        · have ih := arN_H (w := w) (h := h - 1) (r := r) (by rw [← e]; congr 1; omega)
          rw [if_neg hu, if_neg hu, if_neg hu, if_pos hd]
          have e2 : (h : Int) + (0 - 1) = ((h - 1 : Nat) : Int) := by omega
          rw [e2, ih]; omega
      · rw [if_neg hd] at e; cases e
theorem arF_N {w : List Nat} (hd : dyck w = true) : arF w w.length = arN w 0 := by
  have hw := (dyck_walk hd).1
  have := arN_H (w := w) (h := 0) (r := 0) hw
  rw [← this]; exact (arH_0 _).symm
theorem arN_le {w : List Nat} (hd : dyck w = true) : arN w 0 ≤ 256 := by
  have hl := (DY_of hd).l
  have h1 := arF_bd hl (i := w.length) (Nat.le_refl _)
  rw [arF_N hd] at h1
  omega

/-! ### AreaPolynomial -/
theorem arT0 : allB 8 (fun n => decide (dsF (fun w => arN w 0) (pathsR n) = arT.getD n [])) = true := by kernel_rfl
theorem arT8 : decide (dsF (fun w => arN w 0) (pathsR 8) = arT.getD 8 []) = true := by kernel_rfl
theorem arT_ok {n : Nat} (h : n ≤ 8) : dsF (fun w => arN w 0) (pathsR n) = arT.getD n [] := by
  by_cases q : n = 8
  · subst q; exact of_decide_eq_true arT8
  · exact of_decide_eq_true (allB_spec arT0 n (by omega))
def aoR (n : Int) : List Int := if inR 0 8 n = true then arT.getD n.toNat [] else []
theorem aop_i [Has K 23 ir_impl_within] [Has K 67 ir_impl_IsDyck] [Has K 82 ir_impl_heights] [Has K 314 ir_impl_allPaths] [Has K 326 ir_impl_allPaths_f1] [Has K 409 ir_impl_AreaPolynomial] [Has K 465 ir_impl_AreaOf] [Has K 501 ir_impl_HeightsOf] {n : Int} : K 409 [.n n] [LI (aoR n), .b (inR 0 8 n)] := by
  refine body_by (f := ir_impl_AreaPolynomial) rfl ?_; simp only [ir_impl_AreaPolynomial]
  simp (disch := first | omega | (simp only [vl]; omega)) only [vcd]
  refine call_by (within_ok (K := K)) rfl ?_
  cases h1 : inR 0 8 n
  · simp (disch := first | omega | (simp only [vl]; omega)) only [vcd, LI_nil]
    simp only [aoR, h1, Bool.false_eq_true, if_false]
  · have b1 := inR_iff.1 h1
    obtain ⟨m, rfl⟩ := Int.eq_ofNat_of_zero_le b1.1
    have hp := pathsR_len (n := m) (by omega)
    have er : aoR (m : Int) = dsF (fun w => arN w 0) (pathsR m) := by simp only [aoR, h1, if_true, Int.toNat_natCast]; exact (arT_ok (by omega)).symm
    rw [er]
    simp (disch := first | omega | (simp only [vl]; omega)) only [vcd, LI_nil]
    refine call_by (apf_i (K := K) (n := m) (by omega)) rfl ?_
    simp (disch := first | omega | (simp only [vl]; omega)) only [vcd]
    refine loop_ix (fun _ => True) (fun i => [.u, .u, .u, LI (dsF (fun w => arN w 0) ((pathsR m).take i)), .u, .u, .u, LS (pathsR m), .n (pathsR m).length, .n i, .u, .u]) (pathsR m).length trivial rfl (fun i hi _ => ?_) (fun _ => ?_)
    · have hw := (paths_mem (n := m) (w := atS (pathsR m) i) (by omega)).1 (by simp [atS, hi])
      have ka := area_i (K := K) hw.1
      rw [arF_N hw.1] at ka
      have hg : ∀ w ∈ (pathsR m).take i, arN w 0 ≤ 256 := fun w hw => arN_le ((paths_mem (n := m) (by omega)).1 (List.mem_of_mem_take hw)).1
      have hl := dsF_len (g := fun w => arN w 0) (o := []) hg (by simp)
      have hb := dsF_bd (g := fun w => arN w 0) (ws := (pathsR m).take i) (o := []) (b := 0) (by omega) (by simp)
      have ht : ((pathsR m).take i).length ≤ 131072 := by simp; omega
      have hk := arN_le hw.1
      rw [ds_step hi]
      have el : ((pathsR m).take i).foldl (fun o w => incF o (arN w 0)) [] = dsF (fun w => arN w 0) ((pathsR m).take i) := rfl
      rw [el] at hl hb
      generalize dsF (fun w => arN w 0) ((pathsR m).take i) = o at hl hb ⊢
      generalize arN (atS (pathsR m) i) 0 = k at ka hk ⊢
      simp (disch := first | omega | (simp only [vl]; omega)) only [vcd]
      refine call_by (ka) rfl ?_
      simp (disch := first | omega | (simp only [vl]; omega)) only [vcd]
      refine loop_wh (fun (t : Nat) => t ≤ k + 1 - o.length) (fun t => [.u, .u, .u, LI (o ++ List.replicate t 0), .u, .n k, .u, LS (pathsR m), .n (pathsR m).length, .n i, .u, .u]) (fun t => k + 1 - o.length - t) 0 (by omega) (by simp) (fun t ht => ?_)
      have hlt : (o ++ List.replicate t (0 : Int)).length = o.length + t := by simp
      have hrl : (List.replicate t (0 : Int)).length = t := by simp
      by_cases q : o.length + t ≤ k
      · simp (disch := first | omega | (simp only [vl]; omega)) only [vcd]
        exact ⟨t + 1, by omega, by omega, by rw [List.replicate_succ', ← List.append_assoc]⟩
      · have ht2 : t = k + 1 - o.length := by omega
        have hkb : 0 ≤ atI (o ++ List.replicate t 0) k ∧ atI (o ++ List.replicate t 0) k ≤ 131072 := by
          have hm : atI (o ++ List.replicate t 0) k ∈ o ++ List.replicate t 0 := memIA (by omega)
          rcases List.mem_append.1 hm with q | q
          · have := hb _ q; omega
          · have := List.eq_of_mem_replicate q; omega
        simp (disch := first | omega | (simp only [vl]; omega)) only [vcd]
        subst ht2
        simp only [incF, seI, atI, Int.toNat_natCast]
    · rw [List.take_length]
      simp (disch := first | omega | (simp only [vl]; omega)) only [vcd]
def isAr (o : Option (List D)) (l : List Int) : Bool := match o with
  | some [.l xs, .b true] => go xs l
  | _ => false
where
  go : List D → List Int → Bool
    | [], [] => true
    | .i .i64 x :: xs, y :: l => decide (x = y) && go xs l
    | _, _ => false
theorem isAr_go : ∀ {xs : List D} {l : List Int}, isAr.go xs l = true → xs = l.map D.n
  | [], [], _ => rfl
  | x :: xs, [], h => by simp [isAr.go] at h
  | [], _ :: _, h => by simp [isAr.go] at h
  | x :: xs, y :: l, h => by
    unfold isAr.go at h
    split at h
    · rename_i heq1 heq2; cases heq1
    · rename_i a b c d heq1 heq2
      injection heq1 with q1 q2
      injection heq2 with q3 q4
      subst q1; subst q2; subst q3; subst q4
      rw [Bool.and_eq_true, decide_eq_true_eq] at h
      rw [isAr_go h.2, h.1]; rfl
    · cases h
theorem isAr_spec {o : Option (List D)} {l : List Int} (h : isAr o l = true) : o = some [LI l, .b true] := by
  unfold isAr at h
  split at h
  · rw [isAr_go h]; rfl
  · cases h
abbrev tarea : List (Nat × IF) := [(427, ir_spec_AreaPolynomial), (464, ir_spec_l14Times), (463, ir_spec_l14Trim), (22, ir_spec_l1In)]
theorem aos0 : allB 9 (fun n => isAr (evF (tableOf tarea) 60 20 427 [.n n]) (arT.getD n [])) = true := by kernel_rfl
theorem aop_s [Has K 22 ir_spec_l1In] [Has K 427 ir_spec_AreaPolynomial] [Has K 463 ir_spec_l14Trim] [Has K 464 ir_spec_l14Times] {n : Int} : K 427 [.n n] [LI (aoR n), .b (inR 0 8 n)] := by
  cases h1 : inR 0 8 n
  · refine body_by (f := ir_spec_AreaPolynomial) rfl ?_; simp only [ir_spec_AreaPolynomial]
    simp (disch := first | omega | (simp only [vl]; omega)) only [vcd]
    repeat (first | (refine call_by (l1In_ok (K := K)) rfl ?_; try simp (disch := first | omega | (simp only [vl]; omega)) only [vcd, h1, LI_nil]))
    simp only [aoR, h1, Bool.false_eq_true, if_false]
  · have b1 := inR_iff.1 h1
    obtain ⟨m, rfl⟩ := Int.eq_ofNat_of_zero_le b1.1
    have er : aoR (m : Int) = arT.getD m [] := by simp only [aoR, h1, if_true, Int.toNat_natCast]
    rw [er]
    exact run tarea 60 20 427 (isAr_spec (allB_spec aos0 m (by omega)))
/-! ### Distributions -/
theorem dis_s [Has K 22 ir_spec_l1In] [Has K 64 ir_spec_IsDyck] [Has K 234 ir_spec_PathsOf] [Has K 235 ir_spec_StatisticOf] [Has K 292 ir_spec_l3All] [Has K 293 ir_spec_PeaksOf] [Has K 294 ir_spec_ReturnsOf] [Has K 295 ir_spec_l13Run] [Has K 296 ir_spec_AreaOf] [Has K 297 ir_spec_BracketsOf] [Has K 298 ir_spec_DepthOf] [Has K 299 ir_spec_PlaneOf] [Has K 300 ir_spec_LeavesOf] [Has K 301 ir_spec_PartitionOf] [Has K 302 ir_spec_BlocksOf] [Has K 303 ir_spec_MajorOf] [Has K 319 ir_spec_HeightsOf] [Has K 320 ir_spec_PathOfBrackets] [Has K 321 ir_spec_IsPlane] [Has K 322 ir_spec_ChildrenOf] [Has K 323 ir_spec_l8Renumber] [Has K 324 ir_spec_IsPartition] [Has K 410 ir_spec_DistributionOf] {n j : Nat} {g : List Nat → Nat} (hn : n < 7) (hj : j < 9) (hg : ∀ w, dyck w = true → stF w j = g w ∧ g w ≤ 1000) : K 410 [.s (atS stN j), .n n] [LI (dsF g (pathsR n)), .b true] := by
  have hp := apl (n := n) hn
  have h0 := hg [] rfl
  have kst := stat_s (K := K) (w := []) rfl j hj
  rw [h0.1] at kst
  have hne : 0 < (pathsR n).length := by
    have h := (paths_mem (n := n) (w := (List.replicate n 117 ++ List.replicate n 100)) (by omega)).2 (by
      refine ⟨?_, by simp; omega⟩
      rcases n with _ | _ | _ | _ | _ | _ | _ | n
      all_goals first | rfl | omega)
    exact List.length_pos_of_mem h
  refine body_by (f := ir_spec_DistributionOf) rfl ?_; simp only [ir_spec_DistributionOf]
  simp (disch := first | omega | (simp only [vl]; omega)) only [vcd, LI_nil]
  refine call_by (pl_s (K := K) (n := n) hn) rfl ?_
  simp (disch := first | omega | (simp only [vl]; omega)) only [vcd]
  refine call_by (kst) rfl ?_
  simp (disch := first | omega | (simp only [vl]; omega)) only [vcd]
  refine loop_ix (fun _ => True) (fun i => [.s (atS stN j), .u, .u, .u, LI (dsF g ((pathsR n).take i)), LS (pathsR n), .n i, .u, .u, .u, .u]) (pathsR n).length trivial rfl (fun i hi _ => ?_) (fun _ => ?_)
  · have hw := apd (n := n) hn (w := atS (pathsR n) i) (by simp [atS, hi])
    have ka := stat_s (K := K) hw.1 j hj
    have hgi := hg _ hw.1
    rw [hgi.1] at ka
    have hgb : ∀ w ∈ (pathsR n).take i, g w ≤ 1000 := fun w hw => (hg w (apd (n := n) hn (List.mem_of_mem_take hw)).1).2
    have hl := dsF_len (g := g) (o := []) hgb (by simp)
    have hb := dsF_bd (g := g) (ws := (pathsR n).take i) (o := []) (b := 0) (by omega) (by simp)
    have ht : ((pathsR n).take i).length ≤ 132 := by simp; omega
    rw [ds_step hi]
    have el : ((pathsR n).take i).foldl (fun o w => incF o (g w)) [] = dsF g ((pathsR n).take i) := rfl
    rw [el] at hl hb
    generalize dsF g ((pathsR n).take i) = o at hl hb ⊢
    have hk := hgi.2
    generalize g (atS (pathsR n) i) = k at ka hk ⊢
    simp (disch := first | omega | (simp only [vl]; omega)) only [vcd]
    refine call_by (ka) rfl ?_
    simp (disch := first | omega | (simp only [vl]; omega)) only [vcd]
    refine loop_wh (fun (t : Nat) => t ≤ k + 1 - o.length) (fun t => [.s (atS stN j), .u, .u, .u, LI (o ++ List.replicate t 0), LS (pathsR n), .n i, .n k, .u, .u, .u]) (fun t => k + 1 - o.length - t) 0 (by omega) (by simp) (fun t ht => ?_)
    have hlt : (o ++ List.replicate t (0 : Int)).length = o.length + t := by simp
    have hrl : (List.replicate t (0 : Int)).length = t := by simp
    by_cases q : o.length + t ≤ k
    · simp (disch := first | omega | (simp only [vl]; omega)) only [vcd]
      exact ⟨t + 1, by omega, by omega, by rw [List.replicate_succ', ← List.append_assoc]⟩
    · have ht2 : t = k + 1 - o.length := by omega
      have hkb : 0 ≤ atI (o ++ List.replicate t 0) k ∧ atI (o ++ List.replicate t 0) k ≤ 132 := by
        have hm : atI (o ++ List.replicate t 0) k ∈ o ++ List.replicate t 0 := memIA (by omega)
        rcases List.mem_append.1 hm with q | q
        · have := hb _ q; omega
        · have := List.eq_of_mem_replicate q; omega
      simp (disch := first | omega | (simp only [vl]; omega)) only [vcd]
      subst ht2
      simp only [incF, seI, atI, Int.toNat_natCast]
  · rw [List.take_length]
    simp (disch := first | omega | (simp only [vl]; omega)) only [vcd]
theorem maj0 : allB 7 (fun n => decide (dsF (fun w => pvF 100 117 (fun j => j + 1) w (w.length - 1)) (pathsR n) = cpT.getD n [])) = true := by kernel_rfl
theorem dismaj [Has K 22 ir_spec_l1In] [Has K 64 ir_spec_IsDyck] [Has K 234 ir_spec_PathsOf] [Has K 235 ir_spec_StatisticOf] [Has K 292 ir_spec_l3All] [Has K 293 ir_spec_PeaksOf] [Has K 294 ir_spec_ReturnsOf] [Has K 295 ir_spec_l13Run] [Has K 296 ir_spec_AreaOf] [Has K 297 ir_spec_BracketsOf] [Has K 298 ir_spec_DepthOf] [Has K 299 ir_spec_PlaneOf] [Has K 300 ir_spec_LeavesOf] [Has K 301 ir_spec_PartitionOf] [Has K 302 ir_spec_BlocksOf] [Has K 303 ir_spec_MajorOf] [Has K 319 ir_spec_HeightsOf] [Has K 320 ir_spec_PathOfBrackets] [Has K 321 ir_spec_IsPlane] [Has K 322 ir_spec_ChildrenOf] [Has K 323 ir_spec_l8Renumber] [Has K 324 ir_spec_IsPartition] [Has K 410 ir_spec_DistributionOf] {n : Nat} (hn : n < 7) : K 410 [.s [109, 97, 106, 111, 114], .n n] [LI (cpT.getD n []), .b true] := by
  have k := dis_s (K := K) (n := n) (j := 7) (g := fun w => pvF 100 117 (fun j => j + 1) w (w.length - 1)) hn (by omega) (fun w hd => ⟨rfl, by
    have hl := (DY_of hd).l
    have := pvF_le (a := 100) (b := 117) (g := fun j => j + 1) (w := w) (fun _ _ => by omega) (i := w.length - 1) (by omega)
    omega⟩)
  have e := allB_spec maj0 n hn
  simp only [decide_eq_true_eq] at e
  rw [e] at k
  exact k
theorem disare [Has K 22 ir_spec_l1In] [Has K 64 ir_spec_IsDyck] [Has K 234 ir_spec_PathsOf] [Has K 235 ir_spec_StatisticOf] [Has K 292 ir_spec_l3All] [Has K 293 ir_spec_PeaksOf] [Has K 294 ir_spec_ReturnsOf] [Has K 295 ir_spec_l13Run] [Has K 296 ir_spec_AreaOf] [Has K 297 ir_spec_BracketsOf] [Has K 298 ir_spec_DepthOf] [Has K 299 ir_spec_PlaneOf] [Has K 300 ir_spec_LeavesOf] [Has K 301 ir_spec_PartitionOf] [Has K 302 ir_spec_BlocksOf] [Has K 303 ir_spec_MajorOf] [Has K 319 ir_spec_HeightsOf] [Has K 320 ir_spec_PathOfBrackets] [Has K 321 ir_spec_IsPlane] [Has K 322 ir_spec_ChildrenOf] [Has K 323 ir_spec_l8Renumber] [Has K 324 ir_spec_IsPartition] [Has K 410 ir_spec_DistributionOf] {n : Nat} (hn : n < 7) : K 410 [.s [97, 114, 101, 97], .n n] [LI (arT.getD n []), .b true] := by
  have k := dis_s (K := K) (n := n) (j := 3) (g := fun w => arN w 0) hn (by omega) (fun w hd => ⟨arF_N hd, by have := arN_le hd; omega⟩)
  rw [arT_ok (by omega)] at k
  exact k
end Go.Cat

