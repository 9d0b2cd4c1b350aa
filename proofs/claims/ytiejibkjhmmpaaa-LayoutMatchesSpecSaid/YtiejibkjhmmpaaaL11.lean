/- LayoutMatchesSpec in plain words: the two sides reckon the same. -/
import Derived.Test.YtiejibkjhmmpaaaL2
import Derived.Test.YtiejibkjhmmpaaaS2r
import Derived.Test.YtiejibkjhmmpaaaQF11a
namespace Go.Proofs.Ytiejibkjhmmpaaa.Q
open Go.RowKit Go.Proofs.YtiejibkjhmmpaaaW.PrintWords
set_option linter.unusedVariables false
theorem ev_rlvalid (D R N S L I w : Int) : Ev (fun k => solventref14_valid.f k D R N S L I w) (vB D R N S L I w) := by
  unfold solventref14_valid.f
  refine Ev.bind (ev_rcheck D R N S L I) ?_
  by_cases ok : okB D R N S L I = true
  · refine ev_pos (errOf_zero.mpr ok) ?_
    by_cases hw : w ≥ 1
    · refine ev_pos hw (ev_eq (Ev.now _) ?_)
      unfold vB; rw [ok, Bool.true_and]; exact decide_eq_decide.mpr ⟨fun h => ⟨hw, h⟩, fun h => h.2⟩
    · refine ev_neg hw (ev_eq (Ev.now _) ?_)
      exact (Bool.eq_false_iff.mpr (fun h => by have := vB_iff.mp h; omega)).symm
  · refine ev_neg (fun h => ok (errOf_zero.mp h)) (ev_eq (Ev.now _) ?_)
    exact (Bool.eq_false_iff.mpr (fun h => ok (vB_iff.mp h).1)).symm
theorem ev_rlgroups (D R N S L I w : Int) : Ev (fun k => solventref14_Groups.f k D R N S L I w) (grpOf (vB D R N S L I w) D S w) := by
  unfold solventref14_Groups.f
  refine Ev.bind (ev_rlvalid D R N S L I w) ?_
  by_cases hv : vB D R N S L I w = true
  · obtain ⟨ok, hw1, hw2⟩ := vB_iff.mp hv
    obtain ⟨h1, h2, h3, h4, h5, h6, h7, h8, _⟩ := okB_iff.mp ok
    have hg := grp_range hv
    refine ev_pos hv (ev_neg (by omega) (ev_eq (Ev.now _) ?_))
    rw [w64 (x := D - S) (by omega) (by omega), td (by omega)]
    unfold grpOf; rw [if_pos hv]
    exact w64 (by unfold grp at hg; omega) (by unfold grp at hg; omega)
  · refine ev_neg hv (ev_eq (Ev.now _) ?_)
    unfold grpOf; rw [if_neg hv]
/-- One element more of a part of a list. -/
theorem take_more {l : List Int} {a u : Int} (h0 : 0 ≤ a) (hu : 0 ≤ u) (h : a + u < (l.length : Int)) : (l.drop a.toNat).take u.toNat ++ [rd l (a + u)] = (l.drop a.toNat).take (u + 1).toNat := by
  rw [show (u + 1).toNat = u.toNat + 1 by omega, List.take_add_one, List.getElem?_drop, show a.toNat + u.toNat = (a + u).toNat by omega]
  unfold rd
  rw [List.getD_eq_getElem?_getD, List.getElem?_eq_getElem (by omega)]
  rfl
theorem ev_rlp0 {D R row w g : Int} (h1 : 1 ≤ D) (h2 : D ≤ 64) (hw1 : 1 ≤ w) (hw2 : w ≤ 32) (h0 : 0 ≤ g) (hg0 : 0 ≤ g * w) (hg1 : g * w + w ≤ D) : ∀ (m : Nat) (u : Int), 0 ≤ u → u + m = w →
    Ev (fun k => solventref14_Place.l0 k w g (orderL D R row) (((orderL D R row).drop (g * w).toNat).take u.toNat) u) (((orderL D R row).drop (g * w).toNat).take w.toNat)
  | 0, u, hu, h => by
    refine Ev.step (fun k => by simp only [solventref14_Place.l0]; rfl) ?_
    refine ev_neg (by omega) (ev_eq (Ev.now _) ?_)
    rw [show u = w by omega]
  | m + 1, u, hu, h => by
    have hl := @orderL_len D R row (by omega)
    refine Ev.step (fun k => by simp only [solventref14_Place.l0]; rfl) ?_
    rw [w64 (x := g * w) (by omega) (by omega), w64 (x := g * w + u) (by omega) (by omega), w64 (x := u + 1) (by omega) (by omega)]
    refine ev_pos (by omega) (ev_pos (by omega) (ev_pos (by omega) (ev_pos ?_ ?_)))
    · have := List.length_take_le u.toNat ((orderL D R row).drop (g * w).toNat)
      omega
    · rw [take_more (by omega) hu (by omega)]
      exact ev_rlp0 h1 h2 hw1 hw2 h0 hg0 hg1 m (u + 1) (by omega) (by omega)
theorem ev_rlplace (D R N S L I row w g : Int) : Ev (fun k => solventref14_Place.f k D R N S L I row w g) (placeF D R N S L I row w g) := by
  unfold solventref14_Place.f
  have ht : ∀ b : Bool, b = true → ¬ (rowB D R N S L I row = true ∧ vB D R N S L I w = true ∧ 0 ≤ g ∧ g < grp D S w) → Ev (fun k => solventref14_Place.j0 k row w g b D R N S L I) (placeF D R N S L I row w g) := fun b hb hn => by
    subst hb
    unfold placeF; rw [if_neg hn]
    refine Ev.step (fun k => by simp only [solventref14_Place.j0]; rfl) ?_
    exact ev_pos trivial (Ev.now _)
  by_cases hr0 : row < 0
  · exact ev_pos hr0 (ht _ rfl (fun h => by have := rowB_iff.mp h.1; omega))
  refine ev_neg hr0 ?_
  by_cases hr1 : row ≥ N
  · exact ev_pos hr1 (ht _ rfl (fun h => by have := rowB_iff.mp h.1; omega))
  refine ev_neg hr1 ?_
  by_cases hg0 : g < 0
  · exact ev_pos hg0 (ht _ rfl (fun h => by omega))
  refine ev_neg hg0 (Ev.bind (ev_rlgroups D R N S L I w) ?_)
  by_cases hv : vB D R N S L I w = true
  · obtain ⟨ok, hw1, hw2⟩ := vB_iff.mp hv
    obtain ⟨h1, h2, h3, h4, h5, h6, h7, h8, _⟩ := okB_iff.mp ok
    rw [show grpOf (vB D R N S L I w) D S w = grp D S w by unfold grpOf; rw [if_pos hv]]
    by_cases hg : g ≥ grp D S w
    · exact ht _ (decide_eq_true hg) (fun h => by omega)
    · have hr : rowB D R N S L I row = true := rowB_iff.mpr ⟨ok, by omega, by omega⟩
      have hp := grp_part hv (by omega : 0 ≤ g) (by omega)
      have ho := ev_rorder D R N S L I row
      rw [if_pos hr] at ho
      rw [decide_eq_false hg]
      refine Ev.step (fun k => by simp only [solventref14_Place.j0]; rfl) ?_
      refine ev_neg (by simp) (Ev.bind ho ?_)
      unfold placeF; rw [if_pos ⟨hr, hv, by omega, by omega⟩]
      exact ev_rlp0 h1 h2 hw1 hw2 (by omega) hp.1 (by omega) w.toNat 0 (by omega) (by omega)
  · rw [show grpOf (vB D R N S L I w) D S w = 0 by unfold grpOf; rw [if_neg hv]]
    exact ht _ (decide_eq_true (by omega)) (fun h => hv h.2.1)
theorem ev_rls0 {D R row : Int} (N S L I : Int) {G : Int} (h1 : 1 ≤ D) (h2 : D ≤ 64) (hG : 0 ≤ G) : ∀ (m : Nat) (p : Int), G ≤ p → p + m = D →
    Ev (fun k => solventref14_Spares.l0 k (orderL D R row) (((orderL D R row).drop G.toNat).take (p - G).toNat) p D R N S L I) ((orderL D R row).drop G.toNat)
  | 0, p, hp, h => by
    have hl := @orderL_len D R row (by omega)
    refine Ev.step (fun k => by simp only [solventref14_Spares.l0]; rfl) ?_
    refine ev_neg (by omega) (ev_eq (Ev.now _) ?_)
    exact List.take_of_length_le (by rw [List.length_drop]; omega)
  | m + 1, p, hp, h => by
    have hl := @orderL_len D R row (by omega)
    refine Ev.step (fun k => by simp only [solventref14_Spares.l0]; rfl) ?_
    refine ev_pos (by omega) (ev_pos (by omega) (ev_pos (by omega) (ev_pos ?_ ?_)))
    · have := List.length_take_le (p - G).toNat ((orderL D R row).drop G.toNat)
      omega
    · have e := take_more (l := orderL D R row) (a := G) (u := p - G) hG (by omega) (by omega)
      rw [show G + (p - G) = p by omega, show p - G + 1 = p + 1 - G by omega] at e
      rw [e, w64 (x := p + 1) (by omega) (by omega)]
      exact ev_rls0 N S L I h1 h2 hG m (p + 1) (by omega) (by omega)
theorem ev_rlspares (D R N S L I row w : Int) : Ev (fun k => solventref14_Spares.f k D R N S L I row w) (sparesF D R N S L I row w) := by
  unfold solventref14_Spares.f
  have ht : ∀ b : Bool, b = true → ¬ (rowB D R N S L I row = true ∧ vB D R N S L I w = true) → Ev (fun k => solventref14_Spares.j0 k row w b D R N S L I) (sparesF D R N S L I row w) := fun b hb hn => by
    subst hb
    unfold sparesF; rw [if_neg hn]
    refine Ev.step (fun k => by simp only [solventref14_Spares.j0]; rfl) ?_
    exact ev_pos trivial (Ev.now _)
  refine Ev.bind (ev_rlvalid D R N S L I w) ?_
  by_cases hv : vB D R N S L I w = true
  · obtain ⟨ok, hw1, hw2⟩ := vB_iff.mp hv
    obtain ⟨h1, h2, h3, h4, h5, h6, h7, h8, _⟩ := okB_iff.mp ok
    refine ev_pos hv ?_
    by_cases hr0 : row < 0
    · exact ev_pos hr0 (ht _ rfl (fun h => by have := rowB_iff.mp h.1; omega))
    refine ev_neg hr0 ?_
    by_cases hr1 : row ≥ N
    · exact ht _ (decide_eq_true hr1) (fun h => by have := rowB_iff.mp h.1; omega)
    have hr : rowB D R N S L I row = true := rowB_iff.mpr ⟨ok, by omega, by omega⟩
    have hg := grp_range hv
    have hgw : 0 ≤ grp D S w * w := Int.mul_nonneg hg.1 (by omega)
    have ho := ev_rorder D R N S L I row
    rw [if_pos hr] at ho
    have hG := ev_rlgroups D R N S L I w
    rw [show grpOf (vB D R N S L I w) D S w = grp D S w by unfold grpOf; rw [if_pos hv]] at hG
    rw [decide_eq_false hr1]
    refine Ev.step (fun k => by simp only [solventref14_Spares.j0]; rfl) ?_
    refine ev_neg (by simp) (Ev.bind ho (Ev.bind hG ?_))
    rw [w64 (x := grp D S w * w) (by omega) (by omega)]
    unfold sparesF; rw [if_pos ⟨hr, hv⟩]
    have e := @ev_rls0 D R row N S L I (grp D S w * w) h1 h2 hgw (D - grp D S w * w).toNat (grp D S w * w) (by omega) (by omega)
    rw [Int.sub_self] at e
    exact e
  · exact ev_neg hv (ht _ rfl (fun h => hv h.2))
theorem ev_rlat (D R N S L I w row g u : Int) : Ev (fun k => solventref14_At.f k D R N S L I w row g u) (atF (placeF D R N S L I row w g) row u) := by
  unfold solventref14_At.f
  refine Ev.bind (ev_rlplace D R N S L I row w g) ?_
  by_cases h0 : u < 0
  · refine ev_pos h0 (ev_eq (Ev.now _) ?_)
    unfold atF; rw [if_neg (by omega)]
  · refine ev_neg h0 ?_
    by_cases h1 : u ≥ ((placeF D R N S L I row w g).length : Int)
    · refine ev_pos h1 (ev_eq (Ev.now _) ?_)
      unfold atF; rw [if_neg (by omega)]
    · refine ev_neg h1 (ev_pos (by omega) (ev_pos (by omega) (ev_eq (Ev.now _) ?_)))
      unfold atF; rw [if_pos (by omega)]
theorem ev_rlf1 {D R N S L I w row d g : Int} (hr : rowB D R N S L I row = true) (hv : vB D R N S L I w = true) (hd0 : 0 ≤ d) (hd1 : d < D) (hg0 : 0 ≤ g) (hg1 : g < grp D S w)
    (next : (g + 1) * w ≤ posL (orderL D R row) d 0 → Ev (fun k => solventref14_Find.l0 k row w d (g + 1) D R N S L I) (findF D R N S L I row w d)) : ∀ (m : Nat) (u : Int), 0 ≤ u → u + m = w → g * w + u ≤ posL (orderL D R row) d 0 →
    Ev (fun k => solventref14_Find.l1 k row w d g (placeF D R N S L I row w g) u D R N S L I) (findF D R N S L I row w d)
  | 0, u, h0, h, hp => by
    have hg := grp_range hv
    refine Ev.step (fun k => by simp only [solventref14_Find.l1]; rfl) ?_
    refine ev_neg (by omega) ?_
    rw [w64 (x := g + 1) (by omega) (by omega)]
    exact next (by rw [Int.add_mul, Int.one_mul]; omega)
  | m + 1, u, h0, h, hp => by
    obtain ⟨ok, hw1, hw2⟩ := vB_iff.mp hv
    obtain ⟨h1, h2, h3, h4, h5, h6, h7, h8, _⟩ := okB_iff.mp ok
    have hg := grp_range hv
    have hpt := grp_part hv hg0 hg1
    have hl := placeF_len hr hv hg0 hg1
    have hrd := placeF_rd (u := u) hr hv hg0 hg1 h0 (by omega)
    have hpos := pos_iff (row := row) h1 h2 h3 hd0 hd1 (by omega : 0 ≤ g * w + u) (by omega)
    have hgw : (g + 1) * w ≤ grp D S w * w := Int.mul_le_mul_of_nonneg_right (by omega) (by omega)
    rw [Int.add_mul, Int.one_mul] at hgw
    refine Ev.step (fun k => by simp only [solventref14_Find.l1]; rfl) ?_
    refine ev_pos (by omega) (ev_pos h0 (ev_pos (by omega) ?_))
    rw [hrd]
    by_cases he : orderF D R row (g * w + u).toNat = d
    · refine ev_pos he (ev_eq (Ev.now _) ?_)
      have hq1 : (g * w + u) / w = g := by rw [Int.add_comm, Int.add_mul_ediv_right _ _ (by omega), Int.ediv_eq_zero_of_lt h0 (by omega), Int.zero_add]
      have hq2 : (g * w + u) % w = u := by rw [Int.add_comm, Int.add_mul_emod_self_right, Int.emod_eq_of_lt h0 (by omega)]
      rw [findF_ok hr hv hd0 hd1, hpos.mpr he, if_neg (by omega), hq1, hq2]
    · refine ev_neg he ?_
      have hne : ¬ posL (orderL D R row) d 0 = g * w + u := fun e => he (hpos.mp e)
      rw [w64 (x := u + 1) (by omega) (by omega)]
      exact ev_rlf1 hr hv hd0 hd1 hg0 hg1 next m (u + 1) (by omega) (by omega) (by omega)
theorem ev_rlf0 {D R N S L I w row d : Int} (hr : rowB D R N S L I row = true) (hv : vB D R N S L I w = true) (hd0 : 0 ≤ d) (hd1 : d < D) : ∀ (m : Nat) (g : Int), 0 ≤ g → g + m = grp D S w → g * w ≤ posL (orderL D R row) d 0 →
    Ev (fun k => solventref14_Find.l0 k row w d g D R N S L I) (findF D R N S L I row w d)
  | 0, g, h0, h, hp => by
    have hG := ev_rlgroups D R N S L I w
    rw [show grpOf (vB D R N S L I w) D S w = grp D S w by unfold grpOf; rw [if_pos hv]] at hG
    refine Ev.step (fun k => by simp only [solventref14_Find.l0]; rfl) ?_
    refine Ev.bind hG (ev_neg (by omega) (ev_eq (Ev.now _) ?_))
    rw [show g = grp D S w by omega] at hp
    rw [findF_ok hr hv hd0 hd1, if_pos hp]
  | m + 1, g, h0, h, hp => by
    obtain ⟨ok, hw1, hw2⟩ := vB_iff.mp hv
    have hG := ev_rlgroups D R N S L I w
    rw [show grpOf (vB D R N S L I w) D S w = grp D S w by unfold grpOf; rw [if_pos hv]] at hG
    refine Ev.step (fun k => by simp only [solventref14_Find.l0]; rfl) ?_
    refine Ev.bind hG (ev_pos (by omega) (Ev.bind (ev_rlplace D R N S L I row w g) ?_))
    exact ev_rlf1 hr hv hd0 hd1 h0 (by omega) (fun hn => ev_rlf0 hr hv hd0 hd1 m (g + 1) (by omega) (by omega) hn) w.toNat 0 (by omega) (by omega) (by omega)
theorem ev_rlfind (D R N S L I row w d : Int) : Ev (fun k => solventref14_Find.f k D R N S L I row w d) (findF D R N S L I row w d) := by
  unfold solventref14_Find.f
  have ht : ∀ b : Bool, b = true → ¬ (rowB D R N S L I row = true ∧ vB D R N S L I w = true ∧ 0 ≤ posL (orderL D R row) d 0) → Ev (fun k => solventref14_Find.j0 k row w d b D R N S L I) (findF D R N S L I row w d) := fun b hb hn => by
    subst hb
    unfold findF; rw [if_neg hn]
    refine Ev.step (fun k => by simp only [solventref14_Find.j0]; rfl) ?_
    exact ev_pos trivial (Ev.now _)
  refine Ev.bind (ev_rlvalid D R N S L I w) ?_
  by_cases hv : vB D R N S L I w = true
  · obtain ⟨ok, hw1, hw2⟩ := vB_iff.mp hv
    obtain ⟨h1, h2, h3, h4, h5, h6, h7, h8, _⟩ := okB_iff.mp ok
    refine ev_pos hv ?_
    by_cases hr0 : row < 0
    · exact ev_pos hr0 (ht _ rfl (fun h => by have := rowB_iff.mp h.1; omega))
    refine ev_neg hr0 ?_
    by_cases hr1 : row ≥ N
    · exact ev_pos hr1 (ht _ rfl (fun h => by have := rowB_iff.mp h.1; omega))
    refine ev_neg hr1 ?_
    have hr : rowB D R N S L I row = true := rowB_iff.mpr ⟨ok, by omega, by omega⟩
    by_cases hd0 : d < 0
    · exact ev_pos hd0 (ht _ rfl (fun h => by have := @pos_bad D R row d h1 h2 h3 (by omega); omega))
    refine ev_neg hd0 ?_
    by_cases hd1 : d ≥ D
    · exact ht _ (decide_eq_true hd1) (fun h => by have := @pos_bad D R row d h1 h2 h3 (by omega); omega)
    rw [decide_eq_false hd1]
    refine Ev.step (fun k => by simp only [solventref14_Find.j0]; rfl) ?_
    have hg := grp_range hv
    have hp := (pos_order (row := row) h1 h2 h3 (by omega : 0 ≤ d) (by omega)).1
    exact ev_neg (by simp) (ev_rlf0 hr hv (by omega) (by omega) (grp D S w).toNat 0 (by omega) (by omega) (by omega))
  · exact ev_neg hv (ht _ rfl (fun h => hv h.2.1))
theorem ev_rlunits0 (D R N S L I w disk rows : Int) (hr : rows ≤ 4096) : ∀ (m : Nat) (i c : Int), 0 ≤ i → (rows - i).toNat = m → 0 ≤ c → c + m ≤ 4096 →
    Ev (fun k => solventref14_Units.l0 k w disk rows c i D R N S L I) (c + unitsFrom D R N S L I w disk m i)
  | 0, i, c, h0, h, hc, hcm => by
    refine Ev.step (fun k => by simp only [solventref14_Units.l0]; rfl) ?_
    exact ev_neg (by omega) (ev_eq (Ev.now _) (by simp [unitsFrom]))
  | m + 1, i, c, h0, h, hc, hcm => by
    refine Ev.step (fun k => by simp only [solventref14_Units.l0]; rfl) ?_
    refine ev_pos (by omega) (Ev.bind (ev_rlfind D R N S L I i w disk) ?_)
    rw [w64 (x := c + 1) (by omega) (by omega), w64 (x := i + 1) (by omega) (by omega)]
    simp only [unitsFrom]
    by_cases he : (findF D R N S L I i w disk).2.2.2 = 0
    · refine ev_pos he (ev_eq (ev_rlunits0 D R N S L I w disk rows hr m (i + 1) (c + 1) (by omega) (by omega) (by omega) (by omega)) ?_)
      rw [if_pos he]; omega
    · refine ev_neg he (ev_eq (ev_rlunits0 D R N S L I w disk rows hr m (i + 1) c (by omega) (by omega) (by omega) (by omega)) ?_)
      rw [if_neg he]; omega
theorem ev_rlunits (D R N S L I w disk rows : Int) (hN : N ≤ 4096) : Ev (fun k => solventref14_Units.f k D R N S L I w disk rows) (unitsF D R N S L I w disk rows) := by
  unfold solventref14_Units.f unitsF
  by_cases h : rows > N
  · rw [if_pos h]; exact ev_pos h (Ev.now _)
  · rw [if_neg h]
    refine ev_neg h (ev_eq (ev_rlunits0 D R N S L I w disk rows (by omega) rows.toNat 0 0 (by omega) (by omega) (by omega) (by omega)) (by omega))
theorem ev_rlc0 {D R w : Int} (N S L I : Int) (hR : 1 ≤ R) (hR8 : R ≤ 8) (hw1 : 1 ≤ w) (hw2 : w ≤ 32) : ∀ (m : Nat) (n : Int), 0 ≤ n → n + m = (w + R - 1) / R →
    Ev (fun k => solventref14_Crowd.l0 k w n D R N S L I) ((w + R - 1) / R)
  | 0, n, h0, h => by
    have e := Int.emod_add_mul_ediv (w + R - 1) R
    have m1 := Int.emod_lt_of_pos (w + R - 1) (by omega : 0 < R)
    have hn : n * R = R * ((w + R - 1) / R) := by rw [Int.mul_comm, show n = (w + R - 1) / R by omega]
    have m0 := Int.emod_nonneg (w + R - 1) (by omega : R ≠ 0)
    refine Ev.step (fun k => by simp only [solventref14_Crowd.l0]; rfl) ?_
    rw [w64 (x := n * R) (by omega) (by omega)]
    exact ev_neg (by omega) (ev_eq (Ev.now _) (by omega))
  | m + 1, n, h0, h => by
    have e := Int.emod_add_mul_ediv (w + R - 1) R
    have m0 := Int.emod_nonneg (w + R - 1) (by omega : R ≠ 0)
    have hn : R * (n + 1) ≤ R * ((w + R - 1) / R) := Int.mul_le_mul_of_nonneg_left (by omega) (by omega)
    rw [Int.mul_add, Int.mul_one, Int.mul_comm R n] at hn
    have hn0 : 0 ≤ n * R := Int.mul_nonneg h0 (by omega)
    have hnn : n ≤ n * R := by have := Int.mul_le_mul_of_nonneg_left hR h0; omega
    refine Ev.step (fun k => by simp only [solventref14_Crowd.l0]; rfl) ?_
    rw [w64 (x := n * R) (by omega) (by omega), w64 (x := n + 1) (by omega) (by omega)]
    exact ev_pos (by omega) (ev_rlc0 N S L I hR hR8 hw1 hw2 m (n + 1) (by omega) (by omega))
theorem ev_rlcrowd (D R N S L I w : Int) : Ev (fun k => solventref14_Crowd.f k D R N S L I w) (crowdF (vB D R N S L I w) R w) := by
  unfold solventref14_Crowd.f
  refine Ev.bind (ev_rlvalid D R N S L I w) ?_
  by_cases hv : vB D R N S L I w = true
  · obtain ⟨ok, hw1, hw2⟩ := vB_iff.mp hv
    obtain ⟨h1, h2, h3, h4, _⟩ := okB_iff.mp ok
    have hc := crowd_range hv
    unfold crowdF; rw [if_pos hv]
    exact ev_pos hv (ev_rlc0 N S L I h3 h4 hw1 hw2 ((w + R - 1) / R).toNat 0 (by omega) (by omega))
  · refine ev_neg hv (ev_eq (Ev.now _) ?_)
    unfold crowdF; rw [if_neg hv]
theorem placeF_le (D R N S L I row w g : Int) : (placeF D R N S L I row w g).length ≤ 1000 := by
  unfold placeF
  split
  · rename_i h
    obtain ⟨ok, _⟩ := rowB_iff.mp h.1
    have := okB_iff.mp ok
    have hl := @orderL_len D R row (by omega)
    rw [List.length_take, List.length_drop]; omega
  · simp
theorem sparesF_le (D R N S L I row w : Int) : (sparesF D R N S L I row w).length ≤ 1000 := by
  unfold sparesF
  split
  · rename_i h
    obtain ⟨ok, _⟩ := rowB_iff.mp h.1
    have := okB_iff.mp ok
    have hl := @orderL_len D R row (by omega)
    rw [List.length_drop]; omega
  · simp
theorem pure11 (D R N S L I wd row g u disk rows : Int) (_ : (Lit.int .i64 wd).wf = true) (_ : (Lit.int .i64 row).wf = true) (_ : (Lit.int .i64 g).wf = true) (_ : (Lit.int .i64 u).wf = true) (_ : (Lit.int .i64 disk).wf = true)
    (_ : (Lit.int .i64 rows).wf = true) : ∃ k, solventlaw14_LayoutMatchesSpec.f k D R N S L I wd row g u disk rows = some true := by
  refine Ev.rounds (r := true) ?_
  unfold solventlaw14_LayoutMatchesSpec.f
  refine Ev.bind ev_sanity14 ?_
  rw [small_eq]
  refine ev_some ?_
  by_cases hs : D ≤ 16 ∧ N ≤ 64
  · refine ev_pos (decide_eq_true hs) ?_
    refine Ev.step (fun k => by simp only [solventlaw14_LayoutMatchesSpec.j0]; rfl) ?_
    refine Ev.bind (ev_lat D R N S L I wd row g u) (Ev.bind (ev_rlat D R N S L I wd row g u) ?_)
    refine Ev.bind (ev_lfind D R N S L I row wd disk) (Ev.bind (ev_rlfind D R N S L I row wd disk) ?_)
    refine ev_neg (by simp) (ev_pos rfl (ev_neg (by simp) ?_))
    refine Ev.step (fun k => by simp only [solventlaw14_LayoutMatchesSpec.j1]; rfl) ?_
    refine ev_neg (by simp) ?_
    refine Ev.step (fun k => by simp only [solventlaw14_LayoutMatchesSpec.j2]; rfl) ?_
    refine Ev.bind (ev_lplace D R N S L I row wd g) (Ev.bind (ev_rlplace D R N S L I row wd g) (Ev.bind (ev_refl _ (placeF_le D R N S L I row wd g)) ?_))
    refine Ev.bind (ev_lspares D R N S L I row wd) (Ev.bind (ev_rlspares D R N S L I row wd) (Ev.bind (ev_refl _ (sparesF_le D R N S L I row wd)) ?_))
    refine Ev.bind (ev_lunits D R N S L I wd disk rows (by omega)) (Ev.bind (ev_rlunits D R N S L I wd disk rows (by omega)) ?_)
    refine ev_pos trivial (ev_pos rfl (ev_pos rfl (ev_pos rfl ?_)))
    refine Ev.bind (ev_lgroups D R N S L I wd) (Ev.bind (ev_rlgroups D R N S L I wd) (ev_pos rfl ?_))
    exact Ev.bind (ev_lcrowd D R N S L I wd) (Ev.bind (ev_rlcrowd D R N S L I wd) (ev_eq (Ev.now _) (by simp)))
  · exact ev_neg (by simpa using hs) (Ev.now _)
end Go.Proofs.Ytiejibkjhmmpaaa.Q
