/- QuotaGuaranteeIsGranted in plain words. -/
import Derived.Test.YtdapoclangoobaaU
import Derived.Test.YtdapoclangoobaaQF5
namespace Go.Proofs.Ytdapoclangoobaa.Q
open Go.RowKit Go.Proofs.YtdapoclangoobaaW.PrintWords Go.Proofs.YtdapoclangoobaaW.PrintMore
set_option linter.unusedVariables false
theorem pure5 (g s b r v n x y : Int) (w1 : (Lit.int .i64 x).wf = true) (w2 : (Lit.int .i64 y).wf = true) : ∃ k, solventlaw32_QuotaGuaranteeIsGranted.f k g s b r v n x y = some true := by
  refine Ev.rounds (g := fun k => solventlaw32_QuotaGuaranteeIsGranted.f k g s b r v n x y) ?_
  refine Ev.bind ev_sanity32 (Ev.bind (ev_valid g s b r v n) ?_)
  by_cases h : okQ g s b r v n = true
  · have h' := okQ_iff.mp h
    refine ev_pos h ?_
    rw [w64 (x := g - v) (by omega) (by omega), w64 (x := s - n) (by omega) (by omega)]
    by_cases h1 : x < 0
    · exact ev_pos h1 (Ev.now _)
    refine ev_neg h1 ?_
    by_cases h2 : y < 0
    · exact ev_pos h2 (Ev.now _)
    refine ev_neg h2 ?_
    by_cases h3 : x > mx 0 (g - v)
    · exact ev_pos h3 (Ev.now _)
    refine ev_neg h3 ?_
    by_cases h4 : y > mx 0 (s - n)
    · exact ev_pos h4 (Ev.now _)
    refine ev_neg h4 (Ev.bind (ev_decide g s b r v n x y 0) ?_)
    have hx : 0 ≤ x ∧ x ≤ 1099511627776 := by unfold mx at h3; split at h3 <;> omega
    have hy : 0 ≤ y ∧ y ≤ 1099511627776 := by unfold mx at h4; split at h4 <;> omega
    have e : exc g s (v + x) (n + y) = exc g s v n := by
      unfold exc mx
      unfold mx at h3 h4
      split at h3 <;> split at h4 <;> (repeat' split) <;> omega
    have e2 : decQ g s b r v n x y 0 = (x + y, 0, 0) := by
      unfold decQ
      rw [if_pos ⟨h, fitB_iff.mpr hx, fitB_iff.mpr hy, by decide⟩, e, if_neg (by omega)]
      simp
    rw [e2, w64 (x := x + y) (by omega) (by omega)]
    exact ev_pos rfl (ev_pos rfl (ev_eq (Ev.now _) (by simp)))
  · exact ev_neg h (Ev.now _)
end Go.Proofs.Ytdapoclangoobaa.Q
