/- QuotaDecideMatchesSpec in plain words. -/
import Derived.Test.YtdapoclangoobaaU
import Derived.Test.YtdapoclangoobaaQF3
namespace Go.Proofs.Ytdapoclangoobaa.Q
open Go.RowKit Go.Proofs.YtdapoclangoobaaW.PrintWords Go.Proofs.YtdapoclangoobaaW.PrintMore
set_option linter.unusedVariables false
theorem fits_eq (a : Int) : solventref32_fits.f a = some (fitB a) := by
  unfold solventref32_fits.f
  by_cases h : a ≥ 0
  · rw [if_pos h]; congr 1; exact decide_eq_decide.mpr ⟨fun h1 => ⟨h, h1⟩, fun h1 => h1.2⟩
  · rw [if_neg h]; congr 1; exact (decide_eq_false (fun h1 => h h1.1)).symm
theorem rvalid_eq (g s b r v n : Int) : solventref32_Valid.f g s b r v n = some (okQ g s b r v n) := by
  unfold solventref32_Valid.f
  simp only [fits_eq, Option.bind_some, fitB_iff]
  by_cases h1 : 0 ≤ g ∧ g ≤ 1099511627776
  · rw [if_pos h1]
    by_cases h2 : 0 ≤ s ∧ s ≤ 1099511627776
    · rw [if_pos h2]
      by_cases h3 : 0 ≤ b ∧ b ≤ 1099511627776
      · rw [if_pos h3]
        by_cases h4 : 0 ≤ v ∧ v ≤ 1099511627776
        · rw [if_pos h4]
          by_cases h5 : 0 ≤ n ∧ n ≤ 1099511627776
          · rw [if_pos h5]
            by_cases h6 : r ≥ 0
            · rw [if_pos h6]; congr 1; exact decide_eq_decide.mpr (by omega)
            · rw [if_neg h6, okQ_not (by omega)]
          · rw [if_neg h5, okQ_not (by omega)]
        · rw [if_neg h4, okQ_not (by omega)]
      · rw [if_neg h3, okQ_not (by omega)]
    · rw [if_neg h2, okQ_not (by omega)]
  · rw [if_neg h1, okQ_not (by omega)]
theorem rexc_eq {g s b r v n : Int} (hg : 0 ≤ g ∧ g ≤ 4398046511104) (hs : 0 ≤ s ∧ s ≤ 4398046511104) (hv : 0 ≤ v ∧ v ≤ 4398046511104) (hn : 0 ≤ n ∧ n ≤ 4398046511104) :
    solventref32_excess.f g s b r v n = some (exc g s v n) := exc_eq (b := b) (r := r) hg hs hv hn
theorem rover_eq (g s b r v n : Int) : solventref32_Over.f g s b r v n = some (overF g s b r v n) := by
  unfold solventref32_Over.f overF
  rw [rvalid_eq, Option.bind_some]
  by_cases h : okQ g s b r v n = true
  · have h' := okQ_iff.mp h
    rw [if_pos h, if_pos h, rexc_eq (by omega) (by omega) (by omega) (by omega)]; rfl
  · rw [if_neg h, if_neg h]
theorem rneed_eq (g s b r v n : Int) : solventref32_Need.f g s b r v n = some (needF g s b r v n) := by
  unfold solventref32_Need.f needF
  rw [rvalid_eq, Option.bind_some]
  by_cases h : okQ g s b r v n = true
  · have h' := okQ_iff.mp h
    rw [if_pos h, if_pos h, need_w (by omega) (by omega) (by omega) (by omega)]
  · rw [if_neg h, if_neg h]
theorem ev_rdecide (g s b r v n x y a : Int) : Ev (fun k => solventref32_Decide.f k g s b r v n x y a) (decQ g s b r v n x y a) := by
  have bad : ¬ (okQ g s b r v n = true ∧ fitB x = true ∧ fitB y = true ∧ fitB a = true) → Ev (fun k => solventref32_Decide.j0 k x y a true g s b r v n) (decQ g s b r v n x y a) := fun h => by
    unfold decQ; rw [if_neg h]
    exact Ev.step (fun k => by rw [solventref32_Decide.j0]) (ev_pos rfl (Ev.now _))
  unfold solventref32_Decide.f
  simp only [rvalid_eq, fits_eq, Option.bind_some]
  by_cases h : okQ g s b r v n = true
  · refine ev_pos h ?_
    by_cases hx : fitB x = true
    · refine ev_pos hx ?_
      by_cases hy : fitB y = true
      · refine ev_pos hy ?_
        by_cases ha : fitB a = true
        · have hok : okQ g s b r v n = true ∧ fitB x = true ∧ fitB y = true ∧ fitB a = true := ⟨h, hx, hy, ha⟩
          have h' := okQ_iff.mp h
          rw [ha]
          have hx := fitB_iff.mp hx
          have hy := fitB_iff.mp hy
          have ha := fitB_iff.mp ha
          unfold decQ; rw [if_pos hok]
          refine Ev.step (fun k => by rw [solventref32_Decide.j0, Bool.not_true]) (ev_neg (by decide) ?_)
          rw [w64 (x := v + x) (by omega) (by omega), w64 (x := n + y) (by omega) (by omega), rexc_eq (by omega) (by omega) (by omega) (by omega), rexc_eq (by omega) (by omega) (by omega) (by omega)]
          refine ev_some (ev_some ?_)
          have r1 := exc_range (g := g) (s := s) (v := v) (n := n) (by omega) (by omega) (by omega) (by omega)
          have r2 := exc_range (g := g) (s := s) (v := v + x) (n := n + y) (by omega) (by omega) (by omega) (by omega)
          generalize exc g s v n = p at r1 ⊢
          generalize exc g s (v + x) (n + y) = q at r2 ⊢
          rw [w64 (x := q - p) (by omega) (by omega), w64 (x := x + y) (by omega) (by omega), w64 (x := x + y - (q - p)) (by omega) (by omega)]
          by_cases c1 : q - p > 0
          · refine ev_pos c1 (ev_some ?_)
            by_cases c2 : q > b
            · exact ev_eq (ev_pos c2 (Ev.now _)) (if_pos ⟨c1, .inl c2⟩).symm
            · refine ev_neg c2 ?_
              by_cases c3 : q - p > a
              · exact ev_eq (ev_pos c3 (Ev.now _)) (if_pos ⟨c1, .inr c3⟩).symm
              · exact ev_eq (ev_neg c3 (Ev.now _)) (if_neg (fun e => by omega)).symm
          · exact ev_eq (ev_neg c1 (Ev.now _)) (if_neg (fun e => by omega)).symm
        · have ha' : fitB a = false := by simpa using ha
          rw [ha']; exact bad (fun e => ha e.2.2.2)
      · exact ev_neg hy (bad (fun e => hy e.2.2.1))
    · exact ev_neg hx (bad (fun e => hx e.2.1))
  · exact ev_neg h (bad (fun e => h e.1))
theorem pure3 (g s b r v n x y a : Int) : ∃ k, solventlaw32_QuotaDecideMatchesSpec.f k g s b r v n x y a = some true := by
  refine Ev.rounds (g := fun k => solventlaw32_QuotaDecideMatchesSpec.f k g s b r v n x y a) ?_
  unfold solventlaw32_QuotaDecideMatchesSpec.f
  simp only [rvalid_eq, rover_eq, rneed_eq, Option.bind_some]
  refine Ev.bind ev_sanity32 (Ev.bind (ev_decide g s b r v n x y a) (Ev.bind (ev_rdecide g s b r v n x y a) (ev_pos rfl (ev_pos (by simp) (ev_pos rfl (Ev.bind (ev_valid g s b r v n) (ev_pos (by simp) (Ev.bind (ev_over g s b r v n) (ev_pos rfl (Ev.bind (ev_need g s b r v n) ?_))))))))))
  exact ev_eq (Ev.now _) (by simp)
end Go.Proofs.Ytdapoclangoobaa.Q
