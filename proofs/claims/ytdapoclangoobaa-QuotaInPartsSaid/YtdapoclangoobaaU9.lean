/- QuotaInParts in plain words. -/
import Derived.Test.YtdapoclangoobaaU
import Derived.Test.YtdapoclangoobaaQF9
namespace Go.Proofs.Ytdapoclangoobaa.Q
open Go.RowKit Go.Proofs.YtdapoclangoobaaW.PrintWords Go.Proofs.YtdapoclangoobaaW.PrintMore
set_option linter.unusedVariables false
theorem decQ_cases9 (g s b r v n x y a : Int) :
    (decQ g s b r v n x y a = (0, 0, 1)) ∨ (decQ g s b r v n x y a = (0, 0, 16)) ∨
    (okQ g s b r v n = true ∧ fitB x = true ∧ fitB y = true ∧ fitB a = true ∧ ¬ (exc g s (v + x) (n + y) - exc g s v n > 0 ∧ (exc g s (v + x) (n + y) > b ∨ exc g s (v + x) (n + y) - exc g s v n > a)) ∧
      decQ g s b r v n x y a = (x + y - (exc g s (v + x) (n + y) - exc g s v n), exc g s (v + x) (n + y) - exc g s v n, 0)) := by
  by_cases h : okQ g s b r v n = true ∧ fitB x = true ∧ fitB y = true ∧ fitB a = true
  · by_cases h2 : exc g s (v + x) (n + y) - exc g s v n > 0 ∧ (exc g s (v + x) (n + y) > b ∨ exc g s (v + x) (n + y) - exc g s v n > a)
    · exact .inr (.inl (by unfold decQ; rw [if_pos h, if_pos h2]))
    · exact .inr (.inr ⟨h.1, h.2.1, h.2.2.1, h.2.2.2, h2, by unfold decQ; rw [if_pos h, if_neg h2]⟩)
  · exact .inl (by unfold decQ; rw [if_neg h])
theorem decQ_ok {g s b r v n x y a : Int} (hv : okQ g s b r v n = true) (hx : fitB x = true) (hy : fitB y = true) (ha : fitB a = true)
    (hn : ¬ (exc g s (v + x) (n + y) - exc g s v n > 0 ∧ (exc g s (v + x) (n + y) > b ∨ exc g s (v + x) (n + y) - exc g s v n > a))) :
    decQ g s b r v n x y a = (x + y - (exc g s (v + x) (n + y) - exc g s v n), exc g s (v + x) (n + y) - exc g s v n, 0) := by
  unfold decQ; rw [if_pos ⟨hv, hx, hy, ha⟩, if_neg hn]
theorem exc_mono {g s v n x y v' n' : Int} (hx : v ≤ v') (hy : n ≤ n') : exc g s v n ≤ exc g s v' n' := by
  unfold exc mx; (repeat' split) <;> omega
theorem pure9 (g s b r v n x y a p q : Int) (w1 : (Lit.int .i64 p).wf = true) (w2 : (Lit.int .i64 q).wf = true) : ∃ k, solventlaw32_QuotaInParts.f k g s b r v n x y a p q = some true := by
  refine Ev.rounds (g := fun k => solventlaw32_QuotaInParts.f k g s b r v n x y a p q) ?_
  refine Ev.bind ev_sanity32 (Ev.bind (ev_decide g s b r v n x y a) ?_)
  have yes : ∀ u : Int × Int × Int, Ev (fun k => solventlaw32_QuotaInParts.j0 k p q true true g s b r v n x y a g s b r v n u.1 u.2.1) true := fun u => Ev.step (fun k => by rw [solventlaw32_QuotaInParts.j0]) (ev_pos rfl (Ev.now _))
  rcases decQ_cases9 g s b r v n x y a with h | h | ⟨hv, hx, hy, ha, hb, h⟩
  · rw [h]; exact ev_neg (by decide) (yes _)
  · rw [h]; exact ev_neg (by decide) (yes _)
  · rw [h]
    refine ev_pos rfl ?_
    by_cases hp0 : p < 0
    · exact ev_pos hp0 (yes _)
    refine ev_neg hp0 ?_
    by_cases hq0 : q < 0
    · exact ev_pos hq0 (yes _)
    refine ev_neg hq0 ?_
    by_cases hp1 : p > x
    · exact ev_pos hp1 (yes _)
    refine ev_neg hp1 ?_
    by_cases hq1 : q > y
    · rw [decide_eq_true hq1]; exact yes _
    rw [decide_eq_false hq1]
    have h' := okQ_iff.mp hv
    have hx := fitB_iff.mp hx
    have hy := fitB_iff.mp hy
    have ha := fitB_iff.mp ha
    have m1 : exc g s v n ≤ exc g s (v + p) (n + q) := exc_mono (x := 0) (y := 0) (by omega) (by omega)
    have m2 : exc g s (v + p) (n + q) ≤ exc g s (v + x) (n + y) := exc_mono (x := 0) (y := 0) (by omega) (by omega)
    have d1 := decQ_ok (x := p) (y := q) (a := a) hv (fitB_iff.mpr (by omega)) (fitB_iff.mpr (by omega)) (fitB_iff.mpr ha) (by omega)
    refine Ev.step (fun k => by rw [solventlaw32_QuotaInParts.j0]) (ev_neg (by decide) (Ev.bind (ev_decide g s b r v n p q a) ?_))
    rw [d1]
    refine ev_pos rfl ?_
    rw [w64 (x := v + p) (by omega) (by omega), w64 (x := n + q) (by omega) (by omega)]
    refine Ev.bind (ev_valid g s b r (v + p) (n + q)) ?_
    by_cases hd : okQ g s b r (v + p) (n + q) = true
    · refine ev_pos hd ?_
      have r1 := exc_range (g := g) (s := s) (v := v) (n := n) (by omega) (by omega) (by omega) (by omega)
      have r2 := exc_range (g := g) (s := s) (v := v + x) (n := n + y) (by omega) (by omega) (by omega) (by omega)
      have e1 : v + p + (x - p) = v + x := by omega
      have e2 : n + q + (y - q) = n + y := by omega
      show Ev (fun k => (quota_Decide.f k g s b r (v + p) (n + q) (wrap64 (x - p)) (wrap64 (y - q)) (wrap64 (a - (exc g s (v + p) (n + q) - exc g s v n)))).bind _) true
      rw [w64 (x := x - p) (by omega) (by omega), w64 (x := y - q) (by omega) (by omega), w64 (x := a - (exc g s (v + p) (n + q) - exc g s v n)) (by omega) (by omega)]
      have hal : exc g s (v + p) (n + q) - exc g s v n ≤ a := by omega
      have d2 := decQ_ok (x := x - p) (y := y - q) (a := a - (exc g s (v + p) (n + q) - exc g s v n)) hd (fitB_iff.mpr (by omega)) (fitB_iff.mpr (by omega)) (fitB_iff.mpr (by omega)) (by rw [e1, e2]; omega)
      rw [e1, e2] at d2
      refine Ev.bind (ev_decide _ _ _ _ _ _ _ _ _) ?_
      rw [d2]
      generalize exc g s v n = P at *
      generalize exc g s (v + x) (n + y) = Q at *
      generalize exc g s (v + p) (n + q) = M at *
      refine ev_pos rfl (ev_pos rfl (ev_pos ?_ (ev_eq (Ev.now _) ?_)))
      · show wrap64 ((M - P) + (Q - M)) = Q - P
        rw [w64 (by omega) (by omega)]; omega
      · show (wrap64 ((p + q - (M - P)) + (x - p + (y - q) - (Q - M))) == x + y - (Q - P)) = true
        rw [w64 (by omega) (by omega), beq_iff_eq]; omega
    · exact ev_neg hd (Ev.now _)
end Go.Proofs.Ytdapoclangoobaa.Q
