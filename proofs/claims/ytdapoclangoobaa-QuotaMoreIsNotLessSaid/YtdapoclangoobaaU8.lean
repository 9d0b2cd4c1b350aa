/- QuotaMoreIsNotLess in plain words. -/
import Derived.Test.YtdapoclangoobaaVA
import Derived.Test.YtdapoclangoobaaQF8
namespace Go.Proofs.Ytdapoclangoobaa.Q
open Go.RowKit Go.Proofs.YtdapoclangoobaaW.PrintWords Go.Proofs.YtdapoclangoobaaW.PrintMore
set_option linter.unusedVariables false
theorem sumF_sub (f g : Nat → Int) : ∀ n, sumF (fun i => f i - g i) n = sumF f n - sumF g n
  | 0 => rfl
  | n + 1 => by simp only [sumF]; rw [sumF_sub f g n]; omega
theorem sumF_part {f : Nat → Int} {n : Nat} (h : ∀ i, i < n → 0 ≤ f i) : ∀ m, m ≤ n → sumF f m ≤ sumF f n := by
  induction n with
  | zero => intro m hm; obtain rfl : m = 0 := by omega
            exact Int.le_refl _
  | succ n ih =>
    intro m hm
    by_cases e : m = n + 1
    · subst e; exact Int.le_refl _
    · have := ih (fun i hi => h i (by omega)) m (by omega)
      have := h n (by omega)
      simp only [sumF]; omega
theorem ev_more8 {o o' : List Int} {n : Nat} (ho : o.length = n) (ho' : o'.length = n) (hn : n ≤ 20) (hr : ∀ i, i < n → 0 ≤ o.getD i 0 ∧ o.getD i 0 ≤ 1099511627776)
    (h : ∀ i, i < n → o.getD i 0 ≤ o'.getD i 0) (hs : sumF (fun i => o'.getD i 0 - o.getD i 0) n ≤ 1) : ∀ (m i : Nat), i + m = n →
    Ev (fun k => solventlaw32_QuotaMoreIsNotLess.l0 k true o o' (sumF (fun i => o'.getD i 0 - o.getD i 0) i) (i : Int)) true
  | 0, i, hi => by
    refine Ev.step (fun k => by rw [solventlaw32_QuotaMoreIsNotLess.l0]) (ev_neg (by omega) (ev_pos rfl (ev_eq (Ev.now _) (decide_eq_true ?_))))
    obtain rfl : i = n := by omega
    exact hs
  | m + 1, i, hi => by
    have hd : ∀ j, j < n → 0 ≤ (fun i => o'.getD i 0 - o.getD i 0) j := fun j hj => by have := h j hj; show 0 ≤ o'.getD j 0 - o.getD j 0; omega
    have p1 := sumF_part hd (i + 1) (by omega)
    have p0 := sumF_nonneg (f := fun i => o'.getD i 0 - o.getD i 0) i (fun j hj => hd j (by omega))
    have ih := ev_more8 ho ho' hn hr h hs m (i + 1) (by omega)
    simp only [sumF] at p1 ih
    have h1 := h i (by omega)
    have h2 := hr i (by omega)
    have e1 : rd o (i : Int) = o.getD i 0 := rfl
    have e2 : rd o' (i : Int) = o'.getD i 0 := rfl
    refine Ev.step (fun k => by rw [solventlaw32_QuotaMoreIsNotLess.l0]) (ev_pos (by omega) (ev_pos (by omega) (ev_pos (by omega) ?_)))
    rw [e1, e2]
    generalize o.getD i 0 = a at *
    generalize o'.getD i 0 = b at *
    generalize sumF (fun i => o'.getD i 0 - o.getD i 0) i = c at *
    rw [w64 (x := a + 1) (by omega) (by omega), w64 (x := c + b) (by omega) (by omega), w64 (x := c + b - a) (by omega) (by omega), w64 (x := (i : Int) + 1) (by omega) (by omega)]
    refine ev_neg (by omega) (ev_neg (by omega) ?_)
    rw [show c + b - a = c + (b - a) from by omega]
    exact ih
theorem pure8 (l : List S23) (f : Int) (w1 : (Lit.int .i64 f).wf = true) : ∃ k, solventlaw32_QuotaMoreIsNotLess.f k l f = some true := by
  refine Ev.rounds (g := fun k => solventlaw32_QuotaMoreIsNotLess.f k l f) ?_
  have yes : Ev (fun k => solventlaw32_QuotaMoreIsNotLess.j0 k l f true true) true := Ev.step (fun k => by rw [solventlaw32_QuotaMoreIsNotLess.j0]) (ev_pos rfl (Ev.now _))
  refine Ev.bind ev_sanity32 ?_
  by_cases h1 : (l.length : Int) > 20
  · exact ev_pos h1 yes
  refine ev_neg h1 ?_
  by_cases h2 : f < 0
  · exact ev_pos h2 yes
  refine ev_neg h2 ?_
  by_cases h3 : f > 1125899906842624
  · rw [decide_eq_true h3]; exact yes
  rw [decide_eq_false h3]
  by_cases hall : l.all okc = true
  · have hok : okl l := ⟨by omega, List.all_eq_true.mp hall⟩
    obtain ⟨o, ho, hF, hE⟩ := ev_allowance hok (f := f) (by omega) (by omega)
    obtain ⟨o', ho', hF', hE'⟩ := ev_allowance hok (f := f + 1) (by omega) (by omega)
    refine Ev.step (fun k => by rw [solventlaw32_QuotaMoreIsNotLess.j0, w64 (x := f + 1) (by omega) (by omega)]) (ev_neg (by decide) (Ev.bind hE (Ev.bind hE' (ev_pos (show (o.length : Int) = (o'.length : Int) by rw [ho, ho']) ?_))))
    have hs := hF.sum
    have hs' := hF'.sum
    have hm := hF.mono hF' (by rw [hs, hs']; unfold mn; split <;> split <;> omega)
    refine ev_more8 ho ho' hok.1 (fun i hi => ⟨(hF.rng i hi).1, Int.le_trans (hF.rng i hi).2 (wl_range hok hi).2⟩) hm ?_ l.length 0 (by omega)
    rw [sumF_sub (fun i => o'.getD i 0) (fun i => o.getD i 0), hs, hs']
    unfold mn; split <;> split <;> omega
  · have hall' : l.all okc = false := by simpa using hall
    refine Ev.step (fun k => by rw [solventlaw32_QuotaMoreIsNotLess.j0]) (ev_neg (by decide) (Ev.bind (ev_allowance_bad (by omega) hall' _) (Ev.bind (ev_allowance_bad (by omega) hall' _) (ev_pos rfl ?_))))
    exact Ev.step (fun k => by rw [solventlaw32_QuotaMoreIsNotLess.l0]) (ev_neg (by decide) (ev_pos rfl (ev_eq (Ev.now _) (by decide))))
end Go.Proofs.Ytdapoclangoobaa.Q
