/- QuotaNeedGrowsByBurst in plain words. -/
import Derived.Test.YtdapoclangoobaaU
import Derived.Test.YtdapoclangoobaaQF6
namespace Go.Proofs.Ytdapoclangoobaa.Q
open Go.RowKit Go.Proofs.YtdapoclangoobaaW.PrintWords Go.Proofs.YtdapoclangoobaaW.PrintMore
set_option linter.unusedVariables false
theorem decQ_cases (g s b r v n x y a : Int) :
    (decQ g s b r v n x y a = (0, 0, 1)) ∨ (decQ g s b r v n x y a = (0, 0, 16)) ∨
    (okQ g s b r v n = true ∧ fitB x = true ∧ fitB y = true ∧ fitB a = true ∧ ¬ (exc g s (v + x) (n + y) - exc g s v n > 0 ∧ (exc g s (v + x) (n + y) > b ∨ exc g s (v + x) (n + y) - exc g s v n > a)) ∧
      decQ g s b r v n x y a = (x + y - (exc g s (v + x) (n + y) - exc g s v n), exc g s (v + x) (n + y) - exc g s v n, 0)) := by
  by_cases h : okQ g s b r v n = true ∧ fitB x = true ∧ fitB y = true ∧ fitB a = true
  · by_cases h2 : exc g s (v + x) (n + y) - exc g s v n > 0 ∧ (exc g s (v + x) (n + y) > b ∨ exc g s (v + x) (n + y) - exc g s v n > a)
    · exact .inr (.inl (by unfold decQ; rw [if_pos h, if_pos h2]))
    · exact .inr (.inr ⟨h.1, h.2.1, h.2.2.1, h.2.2.2, h2, by unfold decQ; rw [if_pos h, if_neg h2]⟩)
  · exact .inl (by unfold decQ; rw [if_neg h])
theorem pure6 (g s b r v n x y a : Int) : ∃ k, solventlaw32_QuotaNeedGrowsByBurst.f k g s b r v n x y a = some true := by
  refine Ev.rounds (g := fun k => solventlaw32_QuotaNeedGrowsByBurst.f k g s b r v n x y a) ?_
  refine Ev.bind ev_sanity32 (Ev.bind (ev_decide g s b r v n x y a) ?_)
  rcases decQ_cases g s b r v n x y a with h | h | ⟨hv, hx, hy, ha, hb, h⟩
  · rw [h]; exact ev_neg (by decide) (ev_pos rfl (Ev.now _))
  · rw [h]; exact ev_neg (by decide) (ev_pos rfl (Ev.now _))
  · rw [h]
    have h' := okQ_iff.mp hv
    have hx := fitB_iff.mp hx
    have hy := fitB_iff.mp hy
    have ha := fitB_iff.mp ha
    refine ev_pos rfl ?_
    rw [w64 (x := v + x) (by omega) (by omega), w64 (x := n + y) (by omega) (by omega)]
    refine Ev.bind (ev_valid g s b r (v + x) (n + y)) ?_
    by_cases hd : okQ g s b r (v + x) (n + y) = true
    · have hd' := okQ_iff.mp hd
      refine ev_pos hd ?_
      have e1 : exc g s (v + x) (n + y) - exc g s v n ≥ 0 := by unfold exc mx; (repeat' split) <;> omega
      have e2 : x + y - (exc g s (v + x) (n + y) - exc g s v n) ≥ 0 := by unfold exc mx; (repeat' split) <;> omega
      have e3 : mx g (v + x) + mx s (n + y) = mx g v + mx s n + (exc g s (v + x) (n + y) - exc g s v n) := by unfold exc mx; (repeat' split) <;> omega
      have e4 : needF g s b r (v + x) (n + y) = needF g s b r v n + (exc g s (v + x) (n + y) - exc g s v n) := by unfold needF; rw [if_pos hd, if_pos hv]; exact e3
      have e5 : overF g s b r (v + x) (n + y) = exc g s (v + x) (n + y) := if_pos hd
      have e6 : overF g s b r v n = exc g s v n := if_pos hv
      have r0 : 0 ≤ needF g s b r v n ∧ needF g s b r v n ≤ 8796093022208 := by unfold needF; rw [if_pos hv]; unfold mx; (repeat' split) <;> omega
      have r1 := exc_range (g := g) (s := s) (v := v) (n := n) (by omega) (by omega) (by omega) (by omega)
      have r2 := exc_range (g := g) (s := s) (v := v + x) (n := n + y) (by omega) (by omega) (by omega) (by omega)
      generalize exc g s v n = p at *
      generalize exc g s (v + x) (n + y) = q at *
      refine ev_neg (by show ¬ (q - p < 0); omega) (ev_neg (by show ¬ (x + y - (q - p) < 0); omega) (ev_pos ?_ ?_))
      · show wrap64 ((q - p) + (x + y - (q - p))) = wrap64 (x + y)
        congr 1; omega
      · refine Ev.step (fun k => by rw [solventlaw32_QuotaNeedGrowsByBurst.j0]) (ev_neg ?_ (ev_pos rfl (Ev.bind (ev_need g s b r (v + x) (n + y)) (Ev.bind (ev_need g s b r v n) (ev_pos ?_ (Ev.bind (ev_over g s b r (v + x) (n + y)) (Ev.bind (ev_over g s b r v n) (ev_pos ?_ ?_))))))))
        · show ¬ decide (q - p > a) = true
          rw [decide_eq_true_iff]; omega
        · show _ = wrap64 (_ + (q - p))
          rw [w64 (by omega) (by omega)]; exact e4
        · show _ = wrap64 (_ + (q - p))
          rw [e5, e6, w64 (by omega) (by omega)]; omega
        · by_cases h0 : q - p = 0
          · exact ev_pos h0 (Ev.now _)
          · refine ev_neg h0 (Ev.bind (ev_over g s b r (v + x) (n + y)) (ev_eq (Ev.now _) ?_))
            rw [e5]; exact decide_eq_true (by omega)
    · exact ev_neg hd (Ev.now _)
end Go.Proofs.Ytdapoclangoobaa.Q
