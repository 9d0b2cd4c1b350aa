/- What the functions of chapter 14 reckon, in plain words (the program's side). -/
import Derived.Test.YtiejibkjhmmpaaaS1
import Derived.Test.YtiejibkjhmmpaaaQU
namespace Go.Proofs.Ytiejibkjhmmpaaa.Q
open Go.RowKit Go.Proofs.YtiejibkjhmmpaaaW.PrintWords
set_option linter.unusedVariables false
def vB (D R N S L I w : Int) : Bool := okB D R N S L I && decide (1 ≤ w ∧ w ≤ 32)
theorem vB_iff {D R N S L I w : Int} : vB D R N S L I w = true ↔ okB D R N S L I = true ∧ 1 ≤ w ∧ w ≤ 32 := by unfold vB; simp [Bool.and_eq_true]
theorem ev_lvalid (D R N S L I w : Int) : Ev (fun k => layout_valid.f k D R N S L I w) (vB D R N S L I w) := by
  unfold layout_valid.f
  refine Ev.bind (ev_check D R N S L I) ?_
  by_cases ok : okB D R N S L I = true
  · refine ev_pos (errOf_zero.mpr ok) ?_
    by_cases hw : w ≥ 1
    · refine ev_pos hw (ev_eq (Ev.now _) ?_)
      unfold vB; rw [ok, Bool.true_and]; exact decide_eq_decide.mpr ⟨fun h => ⟨hw, h⟩, fun h => h.2⟩
    · refine ev_neg hw (ev_eq (Ev.now _) ?_)
      exact (Bool.eq_false_iff.mpr (fun h => by have := vB_iff.mp h; omega)).symm
  · refine ev_neg (fun h => ok (errOf_zero.mp h)) (ev_eq (Ev.now _) ?_)
    exact (Bool.eq_false_iff.mpr (fun h => ok (vB_iff.mp h).1)).symm
/-- The number of groups. -/
def grp (D S w : Int) : Int := (D - S) / w
def grpOf (b : Bool) (D S w : Int) : Int := if b then grp D S w else 0
theorem grp_range {D R N S L I w : Int} (h : vB D R N S L I w = true) : 0 ≤ grp D S w ∧ grp D S w ≤ 64 ∧ grp D S w * w ≤ D - S ∧ D - S < grp D S w * w + w := by
  obtain ⟨ok, hw1, hw2⟩ := vB_iff.mp h
  obtain ⟨h1, h2, h3, h4, h5, h6, h7, h8, _⟩ := okB_iff.mp ok
  unfold grp
  have e := Int.emod_add_mul_ediv (D - S) w
  have m0 := Int.emod_nonneg (D - S) (by omega : w ≠ 0)
  have m1 := Int.emod_lt_of_pos (D - S) (by omega : 0 < w)
  have q0 : 0 ≤ (D - S) / w := Int.ediv_nonneg (by omega) (by omega)
  have q1 : (D - S) / w ≤ D - S := Int.ediv_le_self _ (by omega)
  rw [Int.mul_comm w] at e
  omega
theorem ev_lgroups (D R N S L I w : Int) : Ev (fun k => layout_Groups.f k D R N S L I w) (grpOf (vB D R N S L I w) D S w) := by
  unfold layout_Groups.f
  refine Ev.bind (ev_lvalid D R N S L I w) ?_
  by_cases hv : vB D R N S L I w = true
  · obtain ⟨ok, hw1, hw2⟩ := vB_iff.mp hv
    obtain ⟨h1, h2, h3, h4, h5, h6, h7, h8, _⟩ := okB_iff.mp ok
    have hg := grp_range hv
    refine ev_pos hv (ev_neg (by omega) (ev_eq (Ev.now _) ?_))
    rw [w64 (x := D - S) (by omega) (by omega), td (by omega)]
    unfold grpOf; rw [if_pos hv]
    exact w64 (by unfold grp at hg; omega) (by unfold grp at hg; omega)
  · refine ev_neg hv (ev_eq (Ev.now _) ?_)
    unfold grpOf; rw [if_neg hv]
/-- Find. -/
def findF (D R N S L I row w disk : Int) : Int × Int × Int × Int :=
  if rowB D R N S L I row = true ∧ vB D R N S L I w = true ∧ 0 ≤ posL (orderL D R row) disk 0 then
    (if posL (orderL D R row) disk 0 ≥ grp D S w * w then (0, 0, 0, 12) else (row, posL (orderL D R row) disk 0 / w, posL (orderL D R row) disk 0 % w, 0))
  else (0, 0, 0, 1)
theorem posL_range : ∀ (l : List Int) (d i : Int), 0 ≤ i → posL l d i = -1 ∨ (i ≤ posL l d i ∧ posL l d i < i + l.length)
  | [], _, _, _ => .inl rfl
  | x :: xs, d, i, h => by
    simp only [posL]
    by_cases he : d = x
    · rw [if_pos he]; right; simp; omega
    · rw [if_neg he]
      rcases posL_range xs d (i + 1) (by omega) with h1 | h1
      · exact .inl h1
      · right; simp; omega
theorem ev_lfind (D R N S L I row w disk : Int) : Ev (fun k => layout_Find.f k D R N S L I row w disk) (findF D R N S L I row w disk) := by
  unfold layout_Find.f
  have hlen := @ordOf_len D R N S L I row
  unfold ordOf at hlen
  have ht : ∀ (p : Int) (b : Bool), b = true → Ev (fun k => layout_Find.j0 k row w p b D R N S L I) (0, 0, 0, 1) := fun p b hb => by
    subst hb
    refine Ev.step (fun k => by simp only [layout_Find.j0]; rfl) ?_
    exact ev_pos trivial (Ev.now _)
  refine Ev.bind (ev_order D R N S L I row) (Ev.bind (ev_index _ disk (by omega)) ?_)
  by_cases hr : rowB D R N S L I row = true
  · rw [if_pos hr] at hlen ⊢
    have hp := posL_range (orderL D R row) disk 0 (by omega)
    have hpd : ∀ x, posL (orderL D R row) disk 0 = x → Ev (fun n => if x < 0 then layout_Find.j0 n row w x true D R N S L I else (layout_valid.f n D R N S L I w).bind fun t304 => layout_Find.j0 n row w x (!t304) D R N S L I) (findF D R N S L I row w disk) := fun x hx => by
      by_cases h0 : x < 0
      · refine ev_pos h0 (ev_eq (ht _ _ rfl) ?_)
        unfold findF; rw [if_neg (fun h => by have := h.2.2; omega)]
      · refine ev_neg h0 (Ev.bind (ev_lvalid D R N S L I w) ?_)
        by_cases hv : vB D R N S L I w = true
        · obtain ⟨ok, hw1, hw2⟩ := vB_iff.mp hv
          obtain ⟨h1, h2, h3, h4, h5, h6, h7, h8, _⟩ := okB_iff.mp ok
          have hg := grp_range hv
          have hG := ev_lgroups D R N S L I w
          rw [show grpOf (vB D R N S L I w) D S w = grp D S w by unfold grpOf; rw [if_pos hv]] at hG
          rw [hv]
          refine Ev.step (fun k => by simp only [layout_Find.j0]; rfl) (ev_neg (by simp) (Ev.bind hG ?_))
          have hgw : 0 ≤ grp D S w * w := Int.mul_nonneg hg.1 (by omega)
          rw [w64 (x := grp D S w * w) (by omega) (by omega)]
          have e : findF D R N S L I row w disk = if x ≥ grp D S w * w then (0, 0, 0, 12) else (row, x / w, x % w, 0) := by
            unfold findF
            rw [hx, if_pos ⟨hr, hv, by omega⟩]
          rw [e]
          by_cases hs : x ≥ grp D S w * w
          · refine ev_pos hs (ev_eq (Ev.now _) ?_)
            rw [if_pos hs]
          · have hq0 : 0 ≤ x / w := Int.ediv_nonneg (by omega) (by omega)
            have hq1 : x / w ≤ x := Int.ediv_le_self _ (by omega)
            refine ev_neg hs (ev_neg (by omega) (ev_eq (Ev.now _) ?_))
            rw [if_neg hs, td (by omega), tm (by omega), w64 (by omega) (by omega)]
        · rw [Bool.eq_false_iff.mpr hv]
          refine ev_eq (ht _ _ rfl) ?_
          unfold findF; rw [if_neg (fun h => hv h.2.1)]
    exact hpd _ rfl
  · rw [if_neg hr]
    refine ev_pos (by simp [posL]) (ev_eq (ht _ _ rfl) ?_)
    unfold findF; rw [if_neg (fun h => hr h.1)]
/-- Place: the disks of a group. -/
def placeF (D R N S L I row w g : Int) : List Int := if rowB D R N S L I row = true ∧ vB D R N S L I w = true ∧ 0 ≤ g ∧ g < grp D S w then ((orderL D R row).drop (g * w).toNat).take w.toNat else []
theorem grp_part {D R N S L I w g : Int} (h : vB D R N S L I w = true) (h0 : 0 ≤ g) (h1 : g < grp D S w) : 0 ≤ g * w ∧ g * w + w ≤ D - S := by
  obtain ⟨ok, hw1, hw2⟩ := vB_iff.mp h
  have hg := grp_range h
  have e : (g + 1) * w ≤ grp D S w * w := Int.mul_le_mul_of_nonneg_right (by omega) (by omega)
  rw [Int.add_mul, Int.one_mul] at e
  have := Int.mul_nonneg h0 (by omega : 0 ≤ w)
  omega
theorem ev_lplace (D R N S L I row w g : Int) : Ev (fun k => layout_Place.f k D R N S L I row w g) (placeF D R N S L I row w g) := by
  unfold layout_Place.f
  refine Ev.bind (ev_order D R N S L I row) ?_
  by_cases hr : rowB D R N S L I row = true
  · obtain ⟨ok, hr0, hr1⟩ := rowB_iff.mp hr
    obtain ⟨h1, h2, h3, h4, h5, h6, h7, h8, _⟩ := okB_iff.mp ok
    have hl := @orderL_len D R row (by omega)
    rw [if_pos hr]
    refine ev_neg (by omega) ?_
    by_cases h0 : g < 0
    · refine ev_pos h0 (ev_eq (Ev.now _) ?_)
      unfold placeF; rw [if_neg (by omega)]
    · refine ev_neg h0 (Ev.bind (ev_lgroups D R N S L I w) ?_)
      by_cases hv : vB D R N S L I w = true
      · obtain ⟨_, hw1, hw2⟩ := vB_iff.mp hv
        rw [show grpOf (vB D R N S L I w) D S w = grp D S w by unfold grpOf; rw [if_pos hv]]
        by_cases hg : g ≥ grp D S w
        · refine ev_pos hg (ev_eq (Ev.now _) ?_)
          unfold placeF; rw [if_neg (by omega)]
        · have hp := grp_part hv (by omega : 0 ≤ g) (by omega)
          refine ev_neg hg ?_
          rw [w64 (x := g * w) (by omega) (by omega)]
          have hd : (((orderL D R row).drop (g * w).toNat).length : Int) = D - g * w := by rw [List.length_drop]; omega
          refine ev_pos (by omega) (ev_pos (by omega) (ev_some (ev_pos (by omega) (ev_pos (by omega) (ev_eq (Ev.now _) ?_)))))
          unfold placeF; rw [if_pos ⟨hr, hv, by omega, by omega⟩]
      · rw [show grpOf (vB D R N S L I w) D S w = 0 by unfold grpOf; rw [if_neg hv]]
        refine ev_pos (by omega) (ev_eq (Ev.now _) ?_)
        unfold placeF; rw [if_neg (fun h => hv h.2.1)]
  · rw [if_neg hr]
    refine ev_pos rfl (ev_eq (Ev.now _) ?_)
    unfold placeF; rw [if_neg (fun h => hr h.1)]
theorem placeF_len {D R N S L I row w g : Int} (hr : rowB D R N S L I row = true) (hv : vB D R N S L I w = true) (h0 : 0 ≤ g) (h1 : g < grp D S w) : ((placeF D R N S L I row w g).length : Int) = w := by
  obtain ⟨ok, _, _⟩ := rowB_iff.mp hr
  have h2 := okB_iff.mp ok
  have h3 := vB_iff.mp hv
  have hl := @orderL_len D R row (by omega)
  have hp := grp_part hv h0 h1
  unfold placeF
  rw [if_pos ⟨hr, hv, h0, h1⟩, List.length_take, List.length_drop]
  omega
theorem placeF_rd {D R N S L I row w g u : Int} (hr : rowB D R N S L I row = true) (hv : vB D R N S L I w = true) (h0 : 0 ≤ g) (h1 : g < grp D S w) (hu0 : 0 ≤ u) (hu1 : u < w) : rd (placeF D R N S L I row w g) u = orderF D R row (g * w + u).toNat := by
  obtain ⟨ok, _, _⟩ := rowB_iff.mp hr
  have h2 := okB_iff.mp ok
  have hp := grp_part hv h0 h1
  rw [← rd_order (by omega) (by omega)]
  unfold placeF
  rw [if_pos ⟨hr, hv, h0, h1⟩]
  unfold rd
  rw [List.getD_eq_getElem?_getD, List.getElem?_take, if_pos (by omega), List.getElem?_drop, List.getD_eq_getElem?_getD, show (g * w).toNat + u.toNat = (g * w + u).toNat by omega]
/-- Spares. -/
def sparesF (D R N S L I row w : Int) : List Int := if rowB D R N S L I row = true ∧ vB D R N S L I w = true then (orderL D R row).drop (grp D S w * w).toNat else []
theorem ev_lspares (D R N S L I row w : Int) : Ev (fun k => layout_Spares.f k D R N S L I row w) (sparesF D R N S L I row w) := by
  unfold layout_Spares.f
  refine Ev.bind (ev_order D R N S L I row) ?_
  by_cases hr : rowB D R N S L I row = true
  · obtain ⟨ok, hr0, hr1⟩ := rowB_iff.mp hr
    obtain ⟨h1, h2, h3, h4, h5, h6, h7, h8, _⟩ := okB_iff.mp ok
    have hl := @orderL_len D R row (by omega)
    rw [if_pos hr]
    refine ev_neg (by omega) (Ev.bind (ev_lvalid D R N S L I w) ?_)
    by_cases hv : vB D R N S L I w = true
    · obtain ⟨_, hw1, hw2⟩ := vB_iff.mp hv
      have hg := grp_range hv
      have hgw : 0 ≤ grp D S w * w := Int.mul_nonneg hg.1 (by omega)
      have hG := ev_lgroups D R N S L I w
      rw [show grpOf (vB D R N S L I w) D S w = grp D S w by unfold grpOf; rw [if_pos hv]] at hG
      refine ev_pos hv (Ev.bind hG ?_)
      rw [w64 (x := grp D S w * w) (by omega) (by omega)]
      refine ev_pos hgw (ev_pos (by omega) (ev_eq (Ev.now _) ?_))
      unfold sparesF; rw [if_pos ⟨hr, hv⟩]
    · refine ev_neg hv (ev_eq (Ev.now _) ?_)
      unfold sparesF; rw [if_neg (fun h => hv h.2)]
  · rw [if_neg hr]
    refine ev_pos rfl (ev_eq (Ev.now _) ?_)
    unfold sparesF; rw [if_neg (fun h => hr h.1)]
/-- At. -/
def atF (l : List Int) (row u : Int) : Int × Int × Int × Int := if 0 ≤ u ∧ u < l.length then (rd l u, 4, row, 0) else (0, 0, 0, 1)
theorem ev_lat (D R N S L I w row g u : Int) : Ev (fun k => layout_At.f k D R N S L I w row g u) (atF (placeF D R N S L I row w g) row u) := by
  unfold layout_At.f
  refine Ev.bind (ev_lplace D R N S L I row w g) ?_
  by_cases h0 : u < 0
  · refine ev_pos h0 (ev_eq (Ev.now _) ?_)
    unfold atF; rw [if_neg (by omega)]
  · refine ev_neg h0 ?_
    by_cases h1 : u ≥ ((placeF D R N S L I row w g).length : Int)
    · refine ev_pos h1 (ev_eq (Ev.now _) ?_)
      unfold atF; rw [if_neg (by omega)]
    · refine ev_neg h1 (ev_pos (by omega) (ev_pos (by omega) (ev_eq (Ev.now _) ?_)))
      unfold atF; rw [if_pos (by omega)]
/-- Units: in how many of m rows from i on the disk has a unit. -/
def unitsFrom (D R N S L I w disk : Int) : Nat → Int → Int
  | 0, _ => 0
  | m + 1, i => (if (findF D R N S L I i w disk).2.2.2 = 0 then 1 else 0) + unitsFrom D R N S L I w disk m (i + 1)
def unitsF (D R N S L I w disk rows : Int) : Int := if rows > N then 0 else unitsFrom D R N S L I w disk rows.toNat 0
theorem ev_lunits0 (D R N S L I w disk rows : Int) (hr : rows ≤ 4096) : ∀ (m : Nat) (i c : Int), 0 ≤ i → (rows - i).toNat = m → 0 ≤ c → c + m ≤ 4096 →
    Ev (fun k => layout_Units.l0 k w disk c rows i D R N S L I) (c + unitsFrom D R N S L I w disk m i)
  | 0, i, c, h0, h, hc, hcm => by
    refine Ev.step (fun k => by simp only [layout_Units.l0]; rfl) ?_
    exact ev_neg (by omega) (ev_eq (Ev.now _) (by simp [unitsFrom]))
  | m + 1, i, c, h0, h, hc, hcm => by
    refine Ev.step (fun k => by simp only [layout_Units.l0]; rfl) ?_
    refine ev_pos (by omega) (Ev.bind (ev_lfind D R N S L I i w disk) ?_)
    rw [w64 (x := c + 1) (by omega) (by omega), w64 (x := i + 1) (by omega) (by omega)]
    simp only [unitsFrom]
    by_cases he : (findF D R N S L I i w disk).2.2.2 = 0
    · refine ev_pos he (ev_eq (ev_lunits0 D R N S L I w disk rows hr m (i + 1) (c + 1) (by omega) (by omega) (by omega) (by omega)) ?_)
      rw [if_pos he]; omega
    · refine ev_neg he (ev_eq (ev_lunits0 D R N S L I w disk rows hr m (i + 1) c (by omega) (by omega) (by omega) (by omega)) ?_)
      rw [if_neg he]; omega
theorem ev_lunits (D R N S L I w disk rows : Int) (hN : N ≤ 4096) : Ev (fun k => layout_Units.f k D R N S L I w disk rows) (unitsF D R N S L I w disk rows) := by
  unfold layout_Units.f unitsF
  by_cases h : rows > N
  · rw [if_pos h]; exact ev_pos h (Ev.now _)
  · rw [if_neg h]
    refine ev_neg h (ev_eq (ev_lunits0 D R N S L I w disk rows (by omega) rows.toNat 0 0 (by omega) (by omega) (by omega) (by omega)) (by omega))
/-- Crowd. -/
def crowdF (b : Bool) (R w : Int) : Int := if b then (w + R - 1) / R else 0
theorem crowd_range {D R N S L I w : Int} (h : vB D R N S L I w = true) : 1 ≤ (w + R - 1) / R ∧ (w + R - 1) / R ≤ 39 := by
  obtain ⟨ok, hw1, hw2⟩ := vB_iff.mp h
  obtain ⟨h1, h2, h3, h4, _⟩ := okB_iff.mp ok
  have a := Int.ediv_le_self (a := w + R - 1) R (by omega)
  have b : R / R ≤ (w + R - 1) / R := Int.ediv_le_ediv (by omega) (by omega)
  rw [Int.ediv_self (by omega)] at b
  omega
theorem ev_lcrowd (D R N S L I w : Int) : Ev (fun k => layout_Crowd.f k D R N S L I w) (crowdF (vB D R N S L I w) R w) := by
  unfold layout_Crowd.f
  refine Ev.bind (ev_lvalid D R N S L I w) ?_
  by_cases hv : vB D R N S L I w = true
  · obtain ⟨ok, hw1, hw2⟩ := vB_iff.mp hv
    obtain ⟨h1, h2, h3, h4, _⟩ := okB_iff.mp ok
    have hc := crowd_range hv
    refine ev_pos hv (ev_neg (by omega) (ev_eq (Ev.now _) ?_))
    rw [w64 (x := w + R) (by omega) (by omega), w64 (x := w + R - 1) (by omega) (by omega), td (by omega), w64 (by omega) (by omega)]
    unfold crowdF; rw [if_pos hv]
  · refine ev_neg hv (ev_eq (Ev.now _) ?_)
    unfold crowdF; rw [if_neg hv]
theorem sanity14_at : solventlaw14_sanity.f 80 = some true := by decide +kernel
theorem ev_sanity14 : Ev (fun k => solventlaw14_sanity.f k) true := Ev.of solventlaw14_sanity.mono sanity14_at
theorem small_eq (D R N S L I : Int) : solventref14_Small.f D R N S L I = some (decide (D ≤ 16 ∧ N ≤ 64)) := by
  unfold solventref14_Small.f
  by_cases h : D ≤ 16
  · rw [if_pos h]; congr 1; exact decide_eq_decide.mpr ⟨fun h1 => ⟨h, h1⟩, fun h1 => h1.2⟩
  · rw [if_neg h]; congr 1; exact (decide_eq_false (fun h1 => h h1.1)).symm
end Go.Proofs.Ytiejibkjhmmpaaa.Q
