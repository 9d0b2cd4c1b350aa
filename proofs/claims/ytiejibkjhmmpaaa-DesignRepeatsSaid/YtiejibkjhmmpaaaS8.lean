/- DesignRepeats in plain words. -/
import Derived.Test.YtiejibkjhmmpaaaS2
import Derived.Test.YtiejibkjhmmpaaaQF8
namespace Go.Proofs.Ytiejibkjhmmpaaa.Q
open Go.RowKit Go.Proofs.YtiejibkjhmmpaaaW.PrintWords
set_option linter.unusedVariables false
theorem order_repeats {D R row : Int} (h1 : 1 ≤ D) : orderL D R (row + D * ((mulL D R).length : Int)) = orderL D R row := by
  unfold orderL
  refine List.map_congr_left (fun p _ => ?_)
  have hm : mulAt D R (row + D * ((mulL D R).length : Int)) = mulAt D R row := by
    unfold mulAt
    rw [Int.add_mul_ediv_left _ _ (by omega), Int.add_emod_right]
  unfold orderF
  rw [hm, ← Int.add_assoc, Int.add_mul_emod_self_left]
theorem order_turn {D R row step : Int} (h1 : 1 ≤ D) (h0 : 0 ≤ row) (hs : 0 ≤ step) (hd : row % D + step < D) (p : Nat) : orderF D R (row + step) p = (orderF D R row p + step) % D := by
  have hq : (row + step) / D = row / D := by
    have e := Int.emod_add_mul_ediv row D
    have hm := Int.emod_nonneg row (by omega : D ≠ 0)
    have : row + step = (row % D + step) + D * (row / D) := by omega
    rw [this, Int.add_mul_ediv_left _ _ (by omega), Int.ediv_eq_zero_of_lt (by omega) hd, Int.zero_add]
  have hm : mulAt D R (row + step) = mulAt D R row := by unfold mulAt; rw [hq]
  unfold orderF
  rw [hm, ← Int.add_assoc, Int.emod_add_emod]
theorem ev_rep0 {D R N S L I row step : Int} (h1 : 1 ≤ D) (h2 : D ≤ 64) (h3 : 1 ≤ R) (h0 : 0 ≤ row) (hs : 0 ≤ step) (hs1 : step < D) (hd : row % D + step < D) : ∀ (m i : Nat), i + m = D.toNat →
    Ev (fun k => solventlaw13_DesignRepeats.l0 k step (orderL D R row) (orderL D R (row + step)) D (i : Int) D R N S L I) true
  | 0, i, h => by
    refine Ev.step (fun k => by simp only [solventlaw13_DesignRepeats.l0]; rfl) ?_
    exact ev_neg (by omega) (Ev.bind ev_sanity13 (Ev.now _))
  | m + 1, i, h => by
    refine Ev.step (fun k => by simp only [solventlaw13_DesignRepeats.l0]; rfl) ?_
    have hl := @orderL_len D R row (by omega)
    have hl' := @orderL_len D R (row + step) (by omega)
    have hb := @orderF_bounds D R row h1 h3 h2 i
    have e : rd (orderL D R (row + step)) (i : Int) = Int.tmod (wrap64 (rd (orderL D R row) (i : Int) + step)) D := by
      rw [rd_order (by omega) (by omega), rd_order (by omega) (by omega), show ((i : Int)).toNat = i from rfl, w64 (by omega) (by omega), tm (by omega)]
      exact order_turn h1 h0 hs hd i
    refine ev_pos (by omega) (ev_pos (by omega) (ev_pos (by omega) (ev_pos (by omega) (ev_neg (by omega) (ev_pos e ?_)))))
    rw [show wrap64 ((i : Int) + 1) = ((i + 1 : Nat) : Int) by rw [w64 (by omega) (by omega)]; rfl]
    exact ev_rep0 h1 h2 h3 h0 hs hs1 hd m (i + 1) (by omega)
theorem wf64 {x : Int} (h : (Lit.int .i64 x).wf = true) : -9223372036854775808 ≤ x ∧ x ≤ 9223372036854775807 := by
  have h' : (decide (IntKind.i64.min ≤ x) && decide (x ≤ IntKind.i64.max)) = true := h
  rw [Bool.and_eq_true, decide_eq_true_iff, decide_eq_true_iff] at h'
  have e1 : IntKind.i64.min = -9223372036854775808 := by decide
  have e2 : IntKind.i64.max = 9223372036854775807 := by decide
  omega
theorem pure8 (D R N S L I row step : Int) (_ : (Lit.int .i64 D).wf = true) (_ : (Lit.int .i64 R).wf = true) (_ : (Lit.int .i64 N).wf = true) (_ : (Lit.int .i64 S).wf = true) (_ : (Lit.int .i64 L).wf = true) (_ : (Lit.int .i64 I).wf = true)
    (_ : (Lit.int .i64 row).wf = true) (_ : (Lit.int .i64 step).wf = true) : ∃ k, solventlaw13_DesignRepeats.f k D R N S L I row step = some true := by
  refine Ev.rounds (r := true) ?_
  unfold solventlaw13_DesignRepeats.f
  have ht : ∀ b : Bool, b = true → Ev (fun k => solventlaw13_DesignRepeats.j0 k row step b D R N S L I) true := fun b hb => by
    subst hb
    refine Ev.step (fun k => by simp only [solventlaw13_DesignRepeats.j0]; rfl) ?_
    exact ev_pos trivial (Ev.bind ev_sanity13 (Ev.now _))
  refine Ev.bind (ev_valid13 D R N S L I) ?_
  by_cases ok : okB D R N S L I = true
  · refine ev_pos ok ?_
    by_cases h0 : row < 0
    · exact ev_pos h0 (ht _ rfl)
    · refine ev_neg h0 ?_
      by_cases h9 : row ≥ N
      · exact ht _ (decide_eq_true h9)
      · rw [decide_eq_false h9]
        have hrow : ∀ x, 0 ≤ x → x < N → Ev (fun k => design_Order.f k D R N S L I x) (orderL D R x) := fun x hx hx' => by
          have ho := ev_order D R N S L I x
          rw [if_pos (rowB_iff.mpr ⟨ok, hx, hx'⟩)] at ho
          exact ho
        obtain ⟨h1, h2, h3, h4, h5, h6, _⟩ := okB_iff.mp ok
        have hll := mulL_len D R
        have hper : D * ((mulL D R).length : Int) ≤ 64 * 65 := Int.mul_le_mul h2 (by omega) (by omega) (by omega)
        have hper1 : 1 * 1 ≤ D * ((mulL D R).length : Int) := Int.mul_le_mul h1 (by omega) (by omega) (by omega)
        have hp := ev_per D R N S L I
        unfold perOf at hp
        rw [if_pos ok] at hp
        have hl := @orderL_len D R row (by omega)
        have hj2 : ∀ b : Bool, b = true → Ev (fun k => solventlaw13_DesignRepeats.j2 k row step (orderL D R row) b D R N S L I) true := fun b hb => by
          subst hb
          refine Ev.step (fun k => by simp only [solventlaw13_DesignRepeats.j2]; rfl) ?_
          exact ev_pos trivial (Ev.bind ev_sanity13 (Ev.now _))
        have hj1 : Ev (fun k => solventlaw13_DesignRepeats.j1 k row step (orderL D R row) false D R N S L I) true := by
          refine Ev.step (fun k => by simp only [solventlaw13_DesignRepeats.j1]; rfl) ?_
          refine ev_neg (by simp) ?_
          by_cases hs : step < 0
          · exact ev_pos hs (hj2 _ rfl)
          · refine ev_neg hs ?_
            by_cases hs1 : step ≥ D
            · exact ev_pos hs1 (hj2 _ rfl)
            · have hm0 : 0 ≤ row % D := Int.emod_nonneg _ (by omega)
              have hm1 : row % D < D := Int.emod_lt_of_pos _ (by omega)
              refine ev_neg hs1 (ev_neg (by omega) ?_)
              rw [tm (by omega), w64 (by omega) (by omega), w64 (x := row + step) (by omega) (by omega)]
              by_cases hd : row % D + step ≥ D
              · exact ev_pos hd (hj2 _ rfl)
              · refine ev_neg hd ?_
                by_cases hr : row + step ≥ N
                · exact hj2 _ (decide_eq_true hr)
                · rw [decide_eq_false hr]
                  have hl' := @orderL_len D R (row + step) (by omega)
                  refine Ev.step (fun k => by simp only [solventlaw13_DesignRepeats.j2]; rfl) ?_
                  rw [w64 (x := row + step) (by omega) (by omega)]
                  refine ev_neg (by simp) (Ev.bind (hrow (row + step) (by omega) (by omega)) (ev_pos hl ?_))
                  rw [hl', bne_self_eq_false]
                  refine Ev.step (fun k => by simp only [solventlaw13_DesignRepeats.j3]; rfl) ?_
                  refine ev_neg (by simp) ?_
                  rw [hl]
                  exact ev_rep0 h1 h2 h3 (by omega) (by omega) (by omega) (by omega) D.toNat 0 (by omega)
        refine Ev.step (fun k => by simp only [solventlaw13_DesignRepeats.j0]; rfl) ?_
        refine ev_neg (by simp) (Ev.bind (hrow row (by omega) (by omega)) (Ev.bind hp (ev_neg (by omega) ?_)))
        rw [w64 (by omega) (by omega)]
        by_cases hn : row + D * ((mulL D R).length : Int) < N
        · refine ev_pos hn (Ev.bind (hrow _ (by omega) hn) ?_)
          rw [order_repeats h1]
          exact Ev.bind (ev_refl _ (by omega)) hj1
        · exact ev_neg hn hj1
  · exact ev_neg ok (ht _ rfl)
end Go.Proofs.Ytiejibkjhmmpaaa.Q
