/- What the reference of chapter 13 reckons, in plain words. -/
import Derived.Test.YtiejibkjhmmpaaaS1
import Derived.Test.YtiejibkjhmmpaaaQ0
import Derived.Test.YtiejibkjhmmpaaaQB
import Derived.Test.YtiejibkjhmmpaaaQA
import Derived.Test.YtiejibkjhmmpaaaQC
import Derived.Test.YtiejibkjhmmpaaaQC2
import Derived.Test.YtiejibkjhmmpaaaQD
namespace Go.Proofs.Ytiejibkjhmmpaaa.Q
open Go.RowKit Go.Proofs.YtiejibkjhmmpaaaW.PrintWords
set_option linter.unusedVariables false
theorem divisor_common : ∀ (n : Nat) (a b : Int), solventref13_divisor.l0 n a b = design_common.l0 n a b
  | 0, _, _ => rfl
  | n + 1, a, b => by
    simp only [solventref13_divisor.l0, design_common.l0]
    rw [divisor_common n]
theorem ev_divisor {a b : Int} (ha : 0 ≤ a) (hb : 0 ≤ b) : Ev (fun k => solventref13_divisor.f k a b) (Int.gcd a b : Int) :=
  ⟨b.toNat + 1, fun k hk => by
    show solventref13_divisor.l0 k a b = _
    rw [divisor_common]; exact common_gcd k a b ha hb (by omega)⟩

theorem ev_rml0 {D R : Int} (N S L I : Int) (hR : 1 ≤ R) (hR8 : R ≤ 8) (hD0 : 1 ≤ D) (hD : D ≤ 64) : ∀ (n : Nat) (l : List Int) (a : Int), D - a ≤ n → 0 ≤ a → l.length + n ≤ 1000 →
    Ev (fun k => solventref13_Multipliers.l0 k l a D R N S L I) (l ++ (steps D R n a).filter fun x => decide (Int.gcd x D = 1))
  | 0, l, a, h, h0, hl => by
    refine Ev.step (fun k => rfl) ?_
    rw [steps_none 0 (by omega)]
    exact ev_neg (by omega) (ev_eq (Ev.now _) (by simp))
  | n + 1, l, a, h, h0, hl => by
    refine Ev.step (fun k => rfl) ?_
    by_cases hlt : a < D
    · refine ev_pos hlt (Ev.bind (ev_divisor h0 (by omega)) ?_)
      rw [w64 (by omega) (by omega)]
      have e : steps D R (n + 1) a = a :: steps D R n (a + R) := by simp [steps, hlt]
      rw [e, List.filter_cons]
      by_cases hg : Int.gcd a D = 1
      · refine ev_pos (by omega) (ev_pos (by omega) ?_)
        rw [if_pos (by simpa using hg)]
        refine ev_eq (ev_rml0 N S L I hR hR8 hD0 hD n (l ++ [a]) (a + R) (by omega) (by omega) (by simp; omega)) (by simp)
      · refine ev_neg (by omega) ?_
        rw [if_neg (by simpa using hg)]
        exact ev_rml0 N S L I hR hR8 hD0 hD n l (a + R) (by omega) (by omega) (by omega)
    · rw [steps_none (n + 1) (by omega)]
      exact ev_neg hlt (ev_eq (Ev.now _) (by simp))
theorem ev_rmul (D R N S L I : Int) : Ev (fun k => solventref13_Multipliers.f k D R N S L I) (if okB D R N S L I then mulL D R else []) := by
  unfold solventref13_Multipliers.f
  refine Ev.bind (ev_rcheck D R N S L I) ?_
  cases ok : okB D R N S L I with
  | true =>
    obtain ⟨h1, h2, h3, h4, _, _, _, _, _, _, _, _, h5⟩ := okB_iff.mp ok
    refine ev_pos (by decide) ?_
    rw [w64 (by omega) (by omega)]
    exact ev_rml0 N S L I h3 h4 h1 h2 64 [1] (1 + R) (by omega) (by omega) (by simp)
  | false => exact ev_neg (by decide) (Ev.now _)
theorem ev_rol0 {D R : Int} (N S L I row : Int) (h1 : 1 ≤ D) (h3 : D ≤ 64) (h2 : 1 ≤ R) (hr : 0 ≤ row) (hr1 : row ≤ 4096) : ∀ (m i : Nat), i + m = D.toNat →
    Ev (fun k => solventref13_Order.l0 k row (mulAt D R row) ((List.range i).map (orderF D R row)) (i : Int) D R N S L I) (orderL D R row)
  | 0, i, h => by
    refine Ev.step (fun k => by simp only [solventref13_Order.l0]; rfl) ?_
    refine ev_neg (by omega) (ev_eq (Ev.now _) ?_)
    have : i = D.toNat := by omega
    simp [orderL, this]
  | m + 1, i, h => by
    refine Ev.step (fun k => by simp only [solventref13_Order.l0]; rfl) ?_
    refine ev_pos (by omega) (ev_neg (by omega) (ev_pos (by simp; omega) ?_))
    have ha := mulAt_range row h1 h2 h3
    have hp0 : 0 ≤ mulAt D R row * (i : Int) := Int.mul_nonneg (by omega) (by omega)
    have hp1 : mulAt D R row * (i : Int) ≤ 64 * 64 := Int.mul_le_mul ha.2 (by omega) (by omega) (by omega)
    have hv : Int.tmod (wrap64 (wrap64 (mulAt D R row * (i : Int)) + row)) D = orderF D R row i := by
      rw [w64 (x := mulAt D R row * (i : Int)) (by omega) (by omega), w64 (by omega) (by omega), tm (by omega)]
      rfl
    rw [hv, show wrap64 ((i : Int) + 1) = ((i + 1 : Nat) : Int) by rw [w64 (by omega) (by omega)]; rfl]
    refine ev_eq (?_ : Ev (fun k => solventref13_Order.l0 k row (mulAt D R row) ((List.range i).map (orderF D R row) ++ [orderF D R row i]) ((i + 1 : Nat) : Int) D R N S L I) _) rfl
    have e : (List.range i).map (orderF D R row) ++ [orderF D R row i] = (List.range (i + 1)).map (orderF D R row) := by simp [List.range_succ]
    rw [e]
    exact ev_rol0 N S L I row h1 h3 h2 hr hr1 m (i + 1) (by omega)
theorem ev_rorder (D R N S L I row : Int) : Ev (fun k => solventref13_Order.f k D R N S L I row) (if rowB D R N S L I row then orderL D R row else []) := by
  unfold solventref13_Order.f
  refine Ev.bind (ev_rmul D R N S L I) ?_
  cases ok : okB D R N S L I with
  | false =>
    have : rowB D R N S L I row = false := by simp [rowB, ok]
    rw [this]
    refine ev_pos (by simp) ?_
    refine Ev.step (fun k => by simp only [solventref13_Order.j0]; rfl) ?_
    exact ev_pos trivial (Ev.now _)
  | true =>
    have hl := mulL_len D R
    have hx := mulIdx D R row
    obtain ⟨h1, h2, h3, h4, h5, h6, _⟩ := okB_iff.mp ok
    rw [if_pos rfl, w64 (by omega) (by omega)]
    refine ev_neg (by omega) ?_
    rw [in_eq]
    refine ev_some (Ev.step (fun k => by simp only [solventref13_Order.j0]; rfl) ?_)
    by_cases hr : 0 ≤ row ∧ row < N
    · have hb : rowB D R N S L I row = true := rowB_iff.mpr ⟨ok, hr⟩
      have hd0 : 0 ≤ row / D := Int.ediv_nonneg (by omega) (by omega)
      have hd1 : row / D ≤ row := Int.ediv_le_self _ (by omega)
      rw [hb, td (by omega), w64 (by omega) (by omega), tm hd0, decide_eq_true (by omega : 0 ≤ row ∧ row ≤ N - 1)]
      exact ev_neg (by decide) (ev_neg (by omega) (ev_neg (by omega) (ev_pos hx.1 (ev_pos hx.2 (ev_rol0 N S L I row h1 h2 h3 hr.1 (by omega) D.toNat 0 (by omega))))))
    · have hb : rowB D R N S L I row = false := Bool.eq_false_iff.mpr (fun h => by have := rowB_iff.mp h; omega)
      rw [hb, decide_eq_false (by omega)]
      exact ev_pos rfl (Ev.now _)
end Go.Proofs.Ytiejibkjhmmpaaa.Q
