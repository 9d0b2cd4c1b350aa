/- Counting, and where a disk is: plain words for chapter 14. -/
import Derived.Test.YtiejibkjhmmpaaaL1
import Derived.Test.YtiejibkjhmmpaaaM4
namespace Go.Proofs.Ytiejibkjhmmpaaa.Q
open Go.RowKit Go.Proofs.YtiejibkjhmmpaaaW.PrintWords
set_option linter.unusedVariables false
/-- The position of a disk, by the order's own formula. -/
theorem pos_iff {D R row d p : Int} (h1 : 1 ≤ D) (h2 : D ≤ 64) (h3 : 1 ≤ R) (h0 : 0 ≤ d) (hd : d < D) (hp0 : 0 ≤ p) (hp1 : p < D) : posL (orderL D R row) d 0 = p ↔ orderF D R row p.toNat = d := by
  obtain ⟨a, b, c⟩ := pos_order (row := row) h1 h2 h3 h0 hd
  rw [rd_order a b] at c
  constructor
  · intro e; rw [← e]; exact c
  · intro e
    have := order_one (row := row) h1 h2 h3 (by omega) (by omega) (c.trans e.symm)
    omega
theorem pos_bad {D R row d : Int} (h1 : 1 ≤ D) (h2 : D ≤ 64) (h3 : 1 ≤ R) (h : ¬ (0 ≤ d ∧ d < D)) : posL (orderL D R row) d 0 = -1 := by
  refine posL_none _ _ _ (fun hm => ?_)
  obtain ⟨p, hp, e⟩ := List.mem_map.mp hm
  have := @orderF_bounds D R row h1 h3 h2 p
  rw [e] at this
  exact h this
/-- Find, for a disk, a row and a width that are valid. -/
theorem findF_ok {D R N S L I row w d : Int} (hr : rowB D R N S L I row = true) (hv : vB D R N S L I w = true) (h0 : 0 ≤ d) (hd : d < D) :
    findF D R N S L I row w d = if posL (orderL D R row) d 0 ≥ grp D S w * w then (0, 0, 0, 12) else (row, posL (orderL D R row) d 0 / w, posL (orderL D R row) d 0 % w, 0) := by
  obtain ⟨ok, _, _⟩ := rowB_iff.mp hr
  obtain ⟨h1, h2, h3, _⟩ := okB_iff.mp ok
  have := (pos_order (row := row) h1 h2 h3 h0 hd).1
  unfold findF
  rw [if_pos ⟨hr, hv, this⟩]
end Go.Proofs.Ytiejibkjhmmpaaa.Q
