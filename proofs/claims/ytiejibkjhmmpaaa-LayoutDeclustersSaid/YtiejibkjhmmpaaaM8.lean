/- The orders repeat, in plain words. -/
import Derived.Test.YtiejibkjhmmpaaaM4
namespace Go.Proofs.Ytiejibkjhmmpaaa.Q
open Go.RowKit Go.Proofs.YtiejibkjhmmpaaaW.PrintWords
set_option linter.unusedVariables false
theorem order_repeats {D R row : Int} (h1 : 1 ≤ D) : orderL D R (row + D * ((mulL D R).length : Int)) = orderL D R row := by
  unfold orderL
  refine List.map_congr_left (fun p _ => ?_)
  have hm : mulAt D R (row + D * ((mulL D R).length : Int)) = mulAt D R row := by
    unfold mulAt
    rw [Int.add_mul_ediv_left _ _ (by omega), Int.add_emod_right]
  unfold orderF
  rw [hm, ← Int.add_assoc, Int.add_mul_emod_self_left]
theorem order_turn {D R row step : Int} (h1 : 1 ≤ D) (h0 : 0 ≤ row) (hs : 0 ≤ step) (hd : row % D + step < D) (p : Nat) : orderF D R (row + step) p = (orderF D R row p + step) % D := by
  have hq : (row + step) / D = row / D := by
    have e := Int.emod_add_mul_ediv row D
    have hm := Int.emod_nonneg row (by omega : D ≠ 0)
    have : row + step = (row % D + step) + D * (row / D) := by omega
    rw [this, Int.add_mul_ediv_left _ _ (by omega), Int.ediv_eq_zero_of_lt (by omega) hd, Int.zero_add]
  have hm : mulAt D R (row + step) = mulAt D R row := by unfold mulAt; rw [hq]
  unfold orderF
  rw [hm, ← Int.add_assoc, Int.emod_add_emod]
theorem wf64 {x : Int} (h : (Lit.int .i64 x).wf = true) : -9223372036854775808 ≤ x ∧ x ≤ 9223372036854775807 := by
  have h' : (decide (IntKind.i64.min ≤ x) && decide (x ≤ IntKind.i64.max)) = true := h
  rw [Bool.and_eq_true, decide_eq_true_iff, decide_eq_true_iff] at h'
  have e1 : IntKind.i64.min = -9223372036854775808 := by decide
  have e2 : IntKind.i64.max = 9223372036854775807 := by decide
  omega
end Go.Proofs.Ytiejibkjhmmpaaa.Q
