/- LayoutIsPartition in plain words. -/
import Derived.Test.YtiejibkjhmmpaaaL2
import Derived.Test.YtiejibkjhmmpaaaQF12a
namespace Go.Proofs.Ytiejibkjhmmpaaa.Q
open Go.RowKit Go.Proofs.YtiejibkjhmmpaaaW.PrintWords
set_option linter.unusedVariables false
theorem wfu16c {x : Int} (h : (Lit.int .u16 x).wf = true) : 0 ≤ x ∧ x ≤ 65535 := by
  have h' : (decide (IntKind.u16.min ≤ x) && decide (x ≤ IntKind.u16.max)) = true := h
  rw [Bool.and_eq_true, decide_eq_true_iff, decide_eq_true_iff] at h'
  have e1 : IntKind.u16.min = 0 := by decide
  have e2 : IntKind.u16.max = 65535 := by decide
  omega
/-- The disks that have been met when the positions below p have been read. -/
def seenL (D R row p : Int) : List Int := (List.range D.toNat).map fun d : Nat => if posL (orderL D R row) (d : Int) 0 < p then 1 else 0
theorem seenL_length (D R row p : Int) : (seenL D R row p).length = D.toNat := by simp [seenL]
theorem seenL_rd {D R row p d : Int} (h0 : 0 ≤ d) (h : d < D) : rd (seenL D R row p) d = if posL (orderL D R row) d 0 < p then 1 else 0 := by
  unfold rd seenL
  rw [List.getD_eq_getElem?_getD, List.getElem?_map, List.getElem?_range (by omega), Option.map_some, Option.getD_some, Int.toNat_of_nonneg h0]
theorem seenL_zero {D R row : Int} (h1 : 1 ≤ D) (h2 : D ≤ 64) (h3 : 1 ≤ R) : List.replicate D.toNat (0 : Int) = seenL D R row 0 := by
  refine List.ext_getElem (by simp [seenL]) (fun i hi hj => ?_)
  have hi' : i < D.toNat := by simpa using hi
  have := (pos_order (row := row) h1 h2 h3 (by omega : (0 : Int) ≤ (i : Int)) (by omega)).1
  simp only [seenL, List.getElem_replicate, List.getElem_map, List.getElem_range]
  rw [if_neg (by omega)]
theorem seenL_set {D R row p : Int} (h1 : 1 ≤ D) (h2 : D ≤ 64) (h3 : 1 ≤ R) (hp0 : 0 ≤ p) (hp1 : p < D) : (seenL D R row p).set (orderF D R row p.toNat).toNat 1 = seenL D R row (p + 1) := by
  have hb := @orderF_bounds D R row h1 h3 h2 p.toNat
  refine List.ext_getElem (by simp [seenL]) (fun i hi hj => ?_)
  have hi' : i < D.toNat := by rw [List.length_set, seenL_length] at hi; exact hi
  have hp := pos_iff (row := row) h1 h2 h3 (by omega : (0 : Int) ≤ (i : Int)) (by omega) hp0 hp1
  rw [List.getElem_set]
  by_cases he : (orderF D R row p.toNat).toNat = i
  · rw [if_pos he]
    have := hp.mpr (by omega)
    simp only [seenL, List.getElem_map, List.getElem_range]
    rw [if_pos (by omega)]
  · rw [if_neg he]
    have hne : ¬ posL (orderL D R row) (i : Int) 0 = p := fun h => he (by have := hp.mp h; omega)
    simp only [seenL, List.getElem_map, List.getElem_range]
    by_cases hlt : posL (orderL D R row) (i : Int) 0 < p
    · rw [if_pos hlt, if_pos (by omega)]
    · rw [if_neg hlt, if_neg (by omega)]
/-- One disk more is met. -/
theorem seenL_next {D R row p : Int} (h1 : 1 ≤ D) (h2 : D ≤ 64) (h3 : 1 ≤ R) (hp0 : 0 ≤ p) (hp1 : p < D) :
    (seenL D R row p).set (orderF D R row p.toNat).toNat (wrap64 (rd (seenL D R row p) (orderF D R row p.toNat) + 1)) = seenL D R row (p + 1) := by
  have hb := @orderF_bounds D R row h1 h3 h2 p.toNat
  have hp := (pos_iff (row := row) h1 h2 h3 hb.1 hb.2 hp0 hp1).mpr rfl
  rw [seenL_rd hb.1 hb.2, if_neg (by omega), show wrap64 (0 + 1) = 1 by rw [w64 (by omega) (by omega)]; rfl]
  exact seenL_set h1 h2 h3 hp0 hp1
theorem ev_part3 {D R N S L I w row : Int} {s : List Int} (hv : vB D R N S L I w = true) (hs0 : S ≤ (s.length : Int)) (hs1 : (s.length : Int) < S + w) : ∀ (m : Nat) (d : Int), 0 ≤ d → d + m = D →
    Ev (fun k => solventlaw14_LayoutIsPartition.l3 k w (seenL D R row D) s d D R N S L I) true
  | 0, d, h0, h => by
    obtain ⟨ok, hw1, hw2⟩ := vB_iff.mp hv
    obtain ⟨h1, h2, h3, h4, h5, h6, h7, h8, _⟩ := okB_iff.mp ok
    refine Ev.step (fun k => by simp only [solventlaw14_LayoutIsPartition.l3]; rfl) ?_
    refine ev_neg (by omega) (ev_pos (by omega) (ev_eq (Ev.now _) ?_))
    rw [w64 (x := S + w) (by omega) (by omega)]
    exact decide_eq_true hs1
  | m + 1, d, h0, h => by
    obtain ⟨ok, hw1, hw2⟩ := vB_iff.mp hv
    obtain ⟨h1, h2, h3, h4, h5, h6, h7, h8, _⟩ := okB_iff.mp ok
    have hp := (pos_order (row := row) h1 h2 h3 h0 (by omega)).2.1
    have hl := seenL_length D R row D
    refine Ev.step (fun k => by simp only [solventlaw14_LayoutIsPartition.l3]; rfl) ?_
    refine ev_pos (by omega) (ev_pos h0 (ev_pos (by omega) (ev_pos ?_ ?_)))
    · rw [seenL_rd h0 (by omega), if_pos hp]
    · rw [w64 (x := d + 1) (by omega) (by omega)]
      exact ev_part3 hv hs0 hs1 m (d + 1) (by omega) (by omega)
theorem sparesF_eq {D R N S L I w row : Int} (hr : rowB D R N S L I row = true) (hv : vB D R N S L I w = true) : sparesF D R N S L I row w = (orderL D R row).drop (grp D S w * w).toNat := by
  unfold sparesF; rw [if_pos ⟨hr, hv⟩]
theorem sparesF_len {D R N S L I w row : Int} (hr : rowB D R N S L I row = true) (hv : vB D R N S L I w = true) : ((sparesF D R N S L I row w).length : Int) = D - grp D S w * w := by
  obtain ⟨ok, hw1, hw2⟩ := vB_iff.mp hv
  obtain ⟨h1, h2, h3, h4, h5, h6, h7, h8, _⟩ := okB_iff.mp ok
  have hg := grp_range hv
  have hgw : 0 ≤ grp D S w * w := Int.mul_nonneg hg.1 (by omega)
  have hl := @orderL_len D R row (by omega)
  rw [sparesF_eq hr hv, List.length_drop]; omega
theorem sparesF_rd {D R N S L I w row i : Int} (hr : rowB D R N S L I row = true) (hv : vB D R N S L I w = true) (h0 : 0 ≤ i) (h : i < D - grp D S w * w) : rd (sparesF D R N S L I row w) i = orderF D R row (grp D S w * w + i).toNat := by
  obtain ⟨ok, hw1, hw2⟩ := vB_iff.mp hv
  have hg := grp_range hv
  have hgw : 0 ≤ grp D S w * w := Int.mul_nonneg hg.1 (by omega)
  rw [← rd_order (by omega) (by omega), sparesF_eq hr hv]
  unfold rd
  rw [List.getD_eq_getElem?_getD, List.getElem?_drop, List.getD_eq_getElem?_getD, show (grp D S w * w).toNat + i.toNat = (grp D S w * w + i).toNat by omega]
theorem ev_part2 {D R N S L I w row : Int} (hr : rowB D R N S L I row = true) (hv : vB D R N S L I w = true) : ∀ (m : Nat) (i : Int), 0 ≤ i → grp D S w * w + i + m = D →
    Ev (fun k => solventlaw14_LayoutIsPartition.l2 k w row (seenL D R row (grp D S w * w + i)) (sparesF D R N S L I row w) i D R N S L I) true
  | 0, i, h0, h => by
    obtain ⟨ok, hw1, hw2⟩ := vB_iff.mp hv
    obtain ⟨h1, h2, h3, h4, h5, h6, h7, h8, _⟩ := okB_iff.mp ok
    have hg := grp_range hv
    have hl := sparesF_len hr hv
    refine Ev.step (fun k => by simp only [solventlaw14_LayoutIsPartition.l2]; rfl) ?_
    refine ev_neg (by omega) ?_
    refine Ev.step (fun k => by simp only [solventlaw14_LayoutIsPartition.j11]; rfl) ?_
    rw [show grp D S w * w + i = D by omega]
    exact ev_part3 hv (by omega) (by omega) D.toNat 0 (by omega) (by omega)
  | m + 1, i, h0, h => by
    obtain ⟨ok, hw1, hw2⟩ := vB_iff.mp hv
    obtain ⟨h1, h2, h3, h4, h5, h6, h7, h8, _⟩ := okB_iff.mp ok
    have hg := grp_range hv
    have hgw : 0 ≤ grp D S w * w := Int.mul_nonneg hg.1 (by omega)
    have hl := sparesF_len hr hv
    have hrd := sparesF_rd (i := i) hr hv h0 (by omega)
    have hb := @orderF_bounds D R row h1 h3 h2 (grp D S w * w + i).toNat
    have hf := ev_lfind D R N S L I row w (rd (sparesF D R N S L I row w) i)
    have hpos := (pos_iff (row := row) h1 h2 h3 hb.1 hb.2 (by omega : 0 ≤ grp D S w * w + i) (by omega)).mpr rfl
    have he : (findF D R N S L I row w (rd (sparesF D R N S L I row w) i)).2.2.2 = 12 := by
      rw [findF_ok hr hv (by rw [hrd]; exact hb.1) (by rw [hrd]; exact hb.2), hrd, hpos, if_pos (by omega)]
    have hsl := seenL_length D R row (grp D S w * w + i)
    have hnext := @seenL_next D R row (grp D S w * w + i) h1 h2 h3 (by omega) (by omega)
    refine Ev.step (fun k => by simp only [solventlaw14_LayoutIsPartition.l2]; rfl) ?_
    refine ev_pos (by omega) ?_
    refine Ev.step (fun k => by simp only [solventlaw14_LayoutIsPartition.j9]; rfl) ?_
    refine ev_pos h0 (ev_pos (by omega) (ev_neg (by omega) ?_))
    rw [decide_eq_false (by omega : ¬ rd (sparesF D R N S L I row w) i ≥ D)]
    refine Ev.step (fun k => by simp only [solventlaw14_LayoutIsPartition.j10]; rfl) ?_
    refine ev_neg (by simp) (ev_pos h0 (ev_pos (by omega) (Ev.bind hf (ev_pos he ?_))))
    rw [hrd]
    refine ev_pos hb.1 (ev_pos (by omega) ?_)
    rw [hnext, w64 (x := i + 1) (by omega) (by omega), Int.add_assoc]
    exact ev_part2 hr hv m (i + 1) (by omega) (by omega)
theorem ev_part1 {D R N S L I w row g : Int} (hr : rowB D R N S L I row = true) (hv : vB D R N S L I w = true) (hg0 : 0 ≤ g) (hg1 : g < grp D S w)
    (next : Ev (fun k => solventlaw14_LayoutIsPartition.l0 k w row (seenL D R row ((g + 1) * w)) (wrap64 (g + 1)) D R N S L I) true) : ∀ (m : Nat) (u : Int), 0 ≤ u → u + m = w →
    Ev (fun k => solventlaw14_LayoutIsPartition.l1 k w row (seenL D R row (g * w + u)) g (placeF D R N S L I row w g) u D R N S L I) true
  | 0, u, h0, h => by
    refine Ev.step (fun k => by simp only [solventlaw14_LayoutIsPartition.l1]; rfl) ?_
    refine ev_neg (by omega) ?_
    rw [show g * w + u = (g + 1) * w by rw [Int.add_mul, Int.one_mul]; omega]
    exact next
  | m + 1, u, h0, h => by
    obtain ⟨ok, hw1, hw2⟩ := vB_iff.mp hv
    obtain ⟨h1, h2, h3, h4, h5, h6, h7, h8, _⟩ := okB_iff.mp ok
    have hg := grp_range hv
    have hp := grp_part hv hg0 hg1
    have hl := placeF_len hr hv hg0 hg1
    have hrd := placeF_rd (u := u) hr hv hg0 hg1 h0 (by omega)
    have hb := @orderF_bounds D R row h1 h3 h2 (g * w + u).toNat
    have hpos := (pos_iff (row := row) h1 h2 h3 hb.1 hb.2 (by omega : 0 ≤ g * w + u) (by omega)).mpr rfl
    have hgw : (g + 1) * w ≤ grp D S w * w := Int.mul_le_mul_of_nonneg_right (by omega) (by omega)
    rw [Int.add_mul, Int.one_mul] at hgw
    have hd1 : (g * w + u) / w = g := by rw [Int.add_comm, Int.add_mul_ediv_right _ _ (by omega), Int.ediv_eq_zero_of_lt h0 (by omega), Int.zero_add]
    have hd2 : (g * w + u) % w = u := by rw [Int.add_comm, Int.add_mul_emod_self_right, Int.emod_eq_of_lt h0 (by omega)]
    have hf := ev_lfind D R N S L I row w (rd (placeF D R N S L I row w g) u)
    have he : findF D R N S L I row w (rd (placeF D R N S L I row w g) u) = (row, g, u, 0) := by
      rw [findF_ok hr hv (by rw [hrd]; exact hb.1) (by rw [hrd]; exact hb.2), hrd, hpos, if_neg (by omega), hd1, hd2]
    rw [he] at hf
    have ha := ev_lat D R N S L I w row g u
    rw [show atF (placeF D R N S L I row w g) row u = (rd (placeF D R N S L I row w g) u, 4, row, 0) by unfold atF; rw [if_pos (by omega)]] at ha
    have hsl := seenL_length D R row (g * w + u)
    have hnext := @seenL_next D R row (g * w + u) h1 h2 h3 (by omega) (by omega)
    refine Ev.step (fun k => by simp only [solventlaw14_LayoutIsPartition.l1]; rfl) ?_
    refine ev_pos (by omega) ?_
    refine Ev.step (fun k => by simp only [solventlaw14_LayoutIsPartition.j6]; rfl) ?_
    refine Ev.bind ha (ev_pos h0 (ev_pos (by omega) (Ev.bind hf (ev_pos rfl (ev_pos rfl (ev_neg (by simp) (ev_pos rfl (ev_pos rfl (ev_pos rfl ?_)))))))))
    rw [hrd]
    refine ev_neg (by omega) (ev_neg (by omega) (ev_pos hb.1 (ev_pos (by omega) ?_)))
    rw [hnext, w64 (x := u + 1) (by omega) (by omega), Int.add_assoc]
    exact ev_part1 hr hv hg0 hg1 next m (u + 1) (by omega) (by omega)
theorem ev_part0 {D R N S L I w row : Int} (hr : rowB D R N S L I row = true) (hv : vB D R N S L I w = true) : ∀ (m : Nat) (g : Int), 0 ≤ g → g + m = grp D S w →
    Ev (fun k => solventlaw14_LayoutIsPartition.l0 k w row (seenL D R row (g * w)) g D R N S L I) true
  | 0, g, h0, h => by
    obtain ⟨ok, hw1, hw2⟩ := vB_iff.mp hv
    obtain ⟨h1, h2, h3, h4, h5, h6, h7, h8, _⟩ := okB_iff.mp ok
    have hg := grp_range hv
    have hgw : 0 ≤ grp D S w * w := Int.mul_nonneg hg.1 (by omega)
    have hG := ev_lgroups D R N S L I w
    rw [show grpOf (vB D R N S L I w) D S w = grp D S w by unfold grpOf; rw [if_pos hv]] at hG
    have e := ev_part2 hr hv (D - grp D S w * w).toNat 0 (by omega) (by omega)
    rw [Int.add_zero] at e
    refine Ev.step (fun k => by simp only [solventlaw14_LayoutIsPartition.l0]; rfl) ?_
    refine Ev.bind hG (ev_neg (by omega) ?_)
    refine Ev.step (fun k => by simp only [solventlaw14_LayoutIsPartition.j7]; rfl) ?_
    rw [show g = grp D S w by omega]
    exact Ev.bind (ev_lspares D R N S L I row w) e
  | m + 1, g, h0, h => by
    obtain ⟨ok, hw1, hw2⟩ := vB_iff.mp hv
    have hg := grp_range hv
    have hG := ev_lgroups D R N S L I w
    rw [show grpOf (vB D R N S L I w) D S w = grp D S w by unfold grpOf; rw [if_pos hv]] at hG
    have hl := placeF_len hr hv h0 (by omega)
    have next := ev_part0 hr hv m (g + 1) (by omega) (by omega)
    rw [← w64 (x := g + 1) (by omega) (by omega)] at next
    have e := ev_part1 hr hv h0 (by omega) (by rw [w64 (x := g + 1) (by omega) (by omega)] at next ⊢; exact next) w.toNat 0 (by omega) (by omega)
    rw [Int.add_zero] at e
    refine Ev.step (fun k => by simp only [solventlaw14_LayoutIsPartition.l0]; rfl) ?_
    refine Ev.bind hG (ev_pos (by omega) ?_)
    refine Ev.step (fun k => by simp only [solventlaw14_LayoutIsPartition.j3]; rfl) ?_
    refine Ev.bind (ev_lplace D R N S L I row w g) (ev_pos hl ?_)
    refine Ev.step (fun k => by simp only [solventlaw14_LayoutIsPartition.j4]; rfl) ?_
    exact e
theorem pure12 (D R N S L I w r : Int) (_ : (Lit.int .i64 D).wf = true) (_ : (Lit.int .i64 R).wf = true) (_ : (Lit.int .i64 N).wf = true) (_ : (Lit.int .i64 S).wf = true) (_ : (Lit.int .i64 L).wf = true) (_ : (Lit.int .i64 I).wf = true)
    (_ : (Lit.int .i64 w).wf = true) (hwr : (Lit.int .u16 r).wf = true) : ∃ k, solventlaw14_LayoutIsPartition.f k D R N S L I w r = some true := by
  have hr := wfu16c hwr
  refine Ev.rounds (r := true) ?_
  unfold solventlaw14_LayoutIsPartition.f
  refine Ev.bind ev_sanity14 (ev_pos rfl (Ev.bind (ev_proper D R N S L I w) ?_))
  cases hp : properB D R N S L I w with
  | false =>
    refine Ev.step (fun k => by simp only [solventlaw14_LayoutIsPartition.j0]; rfl) ?_
    refine ev_pos (by simp) (Ev.now _)
  | true =>
    obtain ⟨hs, hv⟩ := properB_iff.mp hp
    obtain ⟨ok, hw1, hw2⟩ := vB_iff.mp hv
    obtain ⟨h1, h2, h3, h4, h5, h6, h7, h8, _⟩ := okB_iff.mp ok
    have hg := grp_range hv
    have hrow : rowB D R N S L I (r % N) = true := rowB_iff.mpr ⟨ok, Int.emod_nonneg _ (by omega), Int.emod_lt_of_pos _ (by omega)⟩
    refine Ev.step (fun k => by simp only [solventlaw14_LayoutIsPartition.j0]; rfl) (ev_neg (by simp) ?_)
    refine Ev.step (fun k => by simp only [solventlaw14_LayoutIsPartition.j1]; rfl) ?_
    refine ev_neg (by omega) (ev_pos (by omega) (ev_pos (by omega) ?_))
    rw [w64 (x := r) (by omega) (by omega), tm hr.1, seenL_zero (row := r % N) h1 h2 h3]
    have e := ev_part0 hrow hv (grp D S w).toNat 0 (by omega) (by omega)
    rw [Int.zero_mul] at e
    exact e
end Go.Proofs.Ytiejibkjhmmpaaa.Q
