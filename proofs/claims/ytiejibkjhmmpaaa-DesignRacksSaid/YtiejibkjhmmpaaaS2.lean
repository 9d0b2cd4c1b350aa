/- Period, Position and Rack in plain words; the examples that every law plays. -/
import Derived.Test.YtiejibkjhmmpaaaS1
import Derived.Test.YtiejibkjhmmpaaaQB2
import Derived.Test.YtiejibkjhmmpaaaQS
import Derived.Test.YtiejibkjhmmpaaaQV
namespace Go.Proofs.Ytiejibkjhmmpaaa.Q
open Go.RowKit Go.Proofs.YtiejibkjhmmpaaaW.PrintWords
set_option linter.unusedVariables false
def perOf (b : Bool) (D R : Int) : Int := if b then D * (mulL D R).length else 0
theorem per_eq {D R N S L I : Int} : wrap64 (D * ((if okB D R N S L I then mulL D R else []).length : Int)) = perOf (okB D R N S L I) D R := by
  unfold perOf
  cases ok : okB D R N S L I with
  | true =>
    obtain ⟨h1, h2, _⟩ := okB_iff.mp ok
    have h6 := mulL_len D R
    rw [if_pos rfl, if_pos rfl, w64]
    · have : 0 ≤ D * ((mulL D R).length : Int) := Int.mul_nonneg (by omega) (by omega)
      omega
    · have : D * ((mulL D R).length : Int) ≤ 64 * 65 := Int.mul_le_mul h2 (by omega) (by omega) (by omega)
      omega
  | false => simp [w64]
theorem ev_per (D R N S L I : Int) : Ev (fun k => design_Period.f k D R N S L I) (perOf (okB D R N S L I) D R) := by
  unfold design_Period.f
  exact Ev.bind (ev_mul D R N S L I) (ev_eq (Ev.now _) per_eq)
theorem ev_pos_design (D R N S L I row d : Int) : Ev (fun k => design_Position.f k D R N S L I row d) (posL (ordOf (rowB D R N S L I row) D R row) d 0) := by
  unfold design_Position.f
  refine Ev.bind (ev_order D R N S L I row) (Ev.bind (ev_index _ d ?_) (Ev.now _))
  have := @ordOf_len D R N S L I row
  unfold ordOf at this
  omega
def rackOf (b : Bool) (D R row p : Int) : Int := if b = true ∧ 0 ≤ p ∧ p < D then (p + row % D) % R else -1
theorem ev_rack (D R N S L I row p : Int) : Ev (fun k => design_Rack.f k D R N S L I row p) (rackOf (rowB D R N S L I row) D R row p) := by
  unfold design_Rack.f
  refine Ev.bind (ev_rule D R N S L I row) ?_
  cases hb : rowB D R N S L I row with
  | false => exact ev_neg (by simp) (ev_eq (Ev.now _) (by simp [rackOf]))
  | true =>
    obtain ⟨ok, h0, h9⟩ := rowB_iff.mp hb
    obtain ⟨h1, h2, h3, h4, h5, h6, _⟩ := okB_iff.mp ok
    refine ev_pos rfl ?_
    by_cases hp : p < 0
    · exact ev_pos hp (ev_eq (Ev.now _) (by unfold rackOf; rw [if_neg (by omega)]))
    · refine ev_neg hp ?_
      by_cases hq : p ≥ D
      · exact ev_pos hq (ev_eq (Ev.now _) (by unfold rackOf; rw [if_neg (by omega)]))
      · have hb0 : 0 ≤ row % D := Int.emod_nonneg _ (by omega)
        have hb1 : row % D < D := Int.emod_lt_of_pos _ (by omega)
        refine ev_neg hq (ev_neg (by omega) (ev_eq (Ev.now _) ?_))
        show Int.tmod (wrap64 (p + row % D)) R = _
        rw [w64 (by omega) (by omega), tm (by omega)]
        unfold rackOf; rw [if_pos ⟨rfl, by omega, by omega⟩]
theorem sanity13_at : solventlaw13_sanity.f 80 = some true := by decide +kernel
theorem ev_sanity13 : Ev (fun k => solventlaw13_sanity.f k) true := Ev.of solventlaw13_sanity.mono sanity13_at
theorem ev_valid13 (D R N S L I : Int) : Ev (fun k => solventlaw13_valid.f k D R N S L I) (okB D R N S L I) := by
  unfold solventlaw13_valid.f
  refine Ev.bind (ev_rcheck D R N S L I) (ev_eq (Ev.now _) ?_)
  cases okB D R N S L I <;> rfl
end Go.Proofs.Ytiejibkjhmmpaaa.Q
