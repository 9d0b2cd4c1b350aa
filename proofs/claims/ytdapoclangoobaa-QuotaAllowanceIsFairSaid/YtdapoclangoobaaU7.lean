/- QuotaAllowanceIsFair in plain words. -/
import Derived.Test.YtdapoclangoobaaVA
import Derived.Test.YtdapoclangoobaaQF7
namespace Go.Proofs.Ytdapoclangoobaa.Q
open Go.RowKit Go.Proofs.YtdapoclangoobaaW.PrintWords Go.Proofs.YtdapoclangoobaaW.PrintMore
set_option linter.unusedVariables false
theorem wf7 {x : Int} (h : (Lit.int .i64 x).wf = true) : -9223372036854775808 ≤ x ∧ x ≤ 9223372036854775807 := by
  have h' : (decide (IntKind.i64.min ≤ x) && decide (x ≤ IntKind.i64.max)) = true := h
  rw [Bool.and_eq_true, decide_eq_true_iff, decide_eq_true_iff] at h'
  have e1 : IntKind.i64.min = -9223372036854775808 := by decide
  have e2 : IntKind.i64.max = 9223372036854775807 := by decide
  omega
theorem wish7 {l : List S23} {i : Nat} (h : okc (cl l i) = true) : solventref32_Wish.f (rd_T23 l (i : Int)).f0 (rd_T23 l (i : Int)).f1 (rd_T23 l (i : Int)).f2 (rd_T23 l (i : Int)).f3 (rd_T23 l (i : Int)).f4 (rd_T23 l (i : Int)).f5 = some (Wl l i) := by
  show solventref32_Wish.f (cl l i).f0 (cl l i).f1 (cl l i).f2 (cl l i).f3 (cl l i).f4 (cl l i).f5 = some (wishS (cl l i))
  unfold solventref32_Wish.f
  rw [show solventref32_excess.f (cl l i).f0 (cl l i).f1 (cl l i).f2 (cl l i).f3 (cl l i).f4 (cl l i).f5 = some (exc (cl l i).f0 (cl l i).f1 (cl l i).f4 (cl l i).f5) from exc_c h, Option.bind_some, wish_w h]
theorem valid7 (l : List S23) (i : Nat) : Ev (fun k => quota_Valid.f k (rd_T23 l (i : Int)).f0 (rd_T23 l (i : Int)).f1 (rd_T23 l (i : Int)).f2 (rd_T23 l (i : Int)).f3 (rd_T23 l (i : Int)).f4 (rd_T23 l (i : Int)).f5) (okc (cl l i)) := ev_valid _ _ _ _ _ _
theorem ev_inner7 {l : List S23} (h : okl l) {f sm : Int} {o : List Int} (ho : o.length = l.length) (hF : Fair l.length (Wl l) (Rl l) f (fun i => o.getD i 0)) {i : Nat} (hi : i < l.length) {ws : Int}
    (kk : Ev (fun k => solventlaw32_QuotaAllowanceIsFair.l1 k l f true ws o sm ((i + 1 : Nat) : Int)) true) : ∀ (m k : Nat), k + m = l.length →
    Ev (fun q => solventlaw32_QuotaAllowanceIsFair.l2 q l f true ws o sm (i : Int) (Wl l i) (k : Int)) true := by
  have hl := h.1
  have next : ∀ x12 : Int, Ev (fun q => solventlaw32_QuotaAllowanceIsFair.j5 q l f true ws o sm (i : Int) (Wl l i) x12 false) true := fun x12 => by
    refine Ev.step (fun q => by rw [solventlaw32_QuotaAllowanceIsFair.j5]) (ev_neg (by decide) ?_)
    rw [w64 (x := (i : Int) + 1) (by omega) (by omega)]; exact kk
  intro m
  induction m with
  | zero =>
    intro k hk
    exact Ev.step (fun q => by rw [solventlaw32_QuotaAllowanceIsFair.l2]) (ev_neg (by omega) (next _))
  | succ m ih =>
    intro k hk
    have ih := ih (k + 1) (by omega)
    have e1 : rd o (i : Int) = o.getD i 0 := rfl
    have e2 : rd o (k : Int) = o.getD k 0 := rfl
    have e3 : (rd_T23 l (i : Int)).f3 = Rl l i := rfl
    have e4 : (rd_T23 l (k : Int)).f3 = Rl l k := rfl
    refine Ev.step (fun q => by rw [solventlaw32_QuotaAllowanceIsFair.l2]) (ev_pos (by omega) (ev_pos (by omega) (ev_pos (by omega) ?_)))
    rw [e1]
    by_cases c : o.getD i 0 < Wl l i
    · rw [decide_eq_true c]
      have hf := hF.fair i hi c k (by omega)
      have r1 := hF.rng i hi
      have r2 := wl_range h hi
      have b1 : 0 ≤ o.getD i 0 := r1.1
      have b2 : o.getD i 0 ≤ Wl l i := r1.2
      have b3 : o.getD i 0 ≤ 1099511627776 := Int.le_trans b2 r2.2
      have l1 : (k : Int) < (l.length : Int) := by clear hf r1 r2 b1 b2 b3 hF kk next ih; omega
      have l2 : (i : Int) < (l.length : Int) := by clear hf r1 r2 b1 b2 b3 hF kk next ih; omega
      have l3 : (k : Int) < (o.length : Int) := by rw [ho]; exact l1
      have l4 : (i : Int) < (o.length : Int) := by rw [ho]; exact l2
      have l5 : (0 : Int) ≤ (k : Int) := Int.natCast_nonneg k
      have l6 : (0 : Int) ≤ (i : Int) := Int.natCast_nonneg i
      have l7 : (i : Int) < (k : Int) → i < k := fun h => Int.ofNat_lt.mp h
      refine Ev.step (fun q => by rw [solventlaw32_QuotaAllowanceIsFair.j5]) ?_
      refine ev_pos rfl (ev_pos l5 (ev_pos l1 (ev_pos l6 (ev_pos l2 ?_))))
      have w1 : wrap64 (o.getD i 0 + 1) = o.getD i 0 + 1 := by
        clear hf r1 r2 hF kk next ih e1 e2 e3 e4 b2 c
        exact w64 (by omega) (by omega)
      have w2 : wrap64 ((k : Int) + 1) = ((k + 1 : Nat) : Int) := by
        clear hf r1 r2 hF kk next ih e1 e2 e3 e4 b1 b2 b3 c w1
        exact w64 (by omega) (by omega)
      rw [e1, e2, e3, e4, w1, w2]
      clear w1 w2
      by_cases c1 : Rl l k > Rl l i
      · have c1' : ¬ Rl l k = Rl l i := fun e => Int.lt_irrefl _ (e ▸ c1)
        exact ev_pos c1 (ev_pos l3 (ev_neg (Int.not_lt.mpr (hf.1 c1)) (ev_neg c1' ih)))
      · refine ev_neg c1 ?_
        by_cases c2 : Rl l k = Rl l i
        · have hf2 := hf.2 c2
          refine ev_pos c2 (ev_pos l3 (ev_pos l4 (ev_neg (Int.not_lt.mpr hf2.1) ?_)))
          by_cases c3 : (k : Int) > (i : Int)
          · exact ev_pos c3 (ev_neg (Int.not_lt.mpr (hf2.2 (l7 c3))) ih)
          · exact ev_neg c3 ih
        · exact ev_neg c2 ih
    · rw [decide_eq_false c]; exact next _
theorem ev_outer7 {l : List S23} (h : okl l) {f : Int} {o : List Int} (ho : o.length = l.length) (hF : Fair l.length (Wl l) (Rl l) f (fun i => o.getD i 0)) : ∀ (m i : Nat), i + m = l.length →
    Ev (fun k => solventlaw32_QuotaAllowanceIsFair.l1 k l f true (sumF (Wl l) l.length) o (sumF (fun i => o.getD i 0) i) (i : Int)) true
  | 0, i, hi => by
    obtain rfl : i = l.length := by omega
    refine Ev.step (fun q => by rw [solventlaw32_QuotaAllowanceIsFair.l1]) (ev_neg (by omega) (ev_pos rfl (ev_eq (Ev.now _) ?_)))
    rw [hF.sum]; simp
  | m + 1, i, hi => by
    have hl := h.1
    have ih := ev_outer7 h ho hF m (i + 1) (by omega)
    have r1 := hF.rng i (by omega)
    have r2 := wl_range h (i := i) (by omega)
    have s0 := sumF_nonneg (f := fun i => o.getD i 0) i (fun j hj => (hF.rng j (by omega)).1)
    have s1 := sumF_bound (f := fun i => o.getD i 0) (b := 1099511627776) i (fun j hj => Int.le_trans (hF.rng j (by omega)).2 (wl_range h (by omega)).2)
    have e1 : rd o (i : Int) = o.getD i 0 := rfl
    refine Ev.step (fun q => by rw [solventlaw32_QuotaAllowanceIsFair.l1]) (ev_pos (by omega) (ev_pos (by omega) (ev_pos (by omega) ?_)))
    rw [wish7 (h.2 _ (cl_mem (by omega))), e1]
    have w1 : wrap64 (sumF (fun i => o.getD i 0) i + o.getD i 0) = sumF (fun i => o.getD i 0) (i + 1) := by
      simp only [sumF]
      have a1 : 0 ≤ o.getD i 0 := r1.1
      have a2 : o.getD i 0 ≤ Wl l i := r1.2
      exact w64 (by omega) (by omega)
    rw [w1]
    refine ev_some (ev_neg (Int.not_lt.mpr r1.1) ?_)
    rw [decide_eq_false (Int.not_lt.mpr r1.2)]
    refine Ev.step (fun q => by rw [solventlaw32_QuotaAllowanceIsFair.j3]) (ev_neg (by decide) ?_)
    exact ev_inner7 h ho hF (by omega) ih l.length 0 (by omega)
theorem ev_wishes7 {l : List S23} (hl : l.length ≤ 20) {f : Int} (h0 : 0 ≤ f) (hf : f ≤ 9223372036854775807) : ∀ (m i : Nat), i + m = l.length → (∀ j, j < i → okc (cl l j) = true) →
    Ev (fun k => solventlaw32_QuotaAllowanceIsFair.l0 k l f true (sumF (Wl l) i) (i : Int)) true
  | 0, i, hi, hv => by
    obtain rfl : i = l.length := by omega
    have hok : okl l := ⟨hl, fun c hc => by
      obtain ⟨j, hj⟩ := List.mem_iff_getElem?.mp hc
      have h1 := hv j (List.getElem?_eq_some_iff.1 hj).1
      unfold cl at h1
      rw [List.getD_eq_getElem?_getD, hj] at h1; exact h1⟩
    obtain ⟨o, ho, hF, hE⟩ := ev_allowance hok h0 hf
    refine Ev.step (fun q => by rw [solventlaw32_QuotaAllowanceIsFair.l0]) (ev_neg (by omega) (Ev.bind hE (ev_pos (show (o.length : Int) = (l.length : Int) by rw [ho]) ?_)))
    exact ev_outer7 hok ho hF l.length 0 (by omega)
  | m + 1, i, hi, hv => by
    refine Ev.step (fun q => by rw [solventlaw32_QuotaAllowanceIsFair.l0]) (ev_pos (by omega) (ev_pos (by omega) (Ev.bind (valid7 l i) ?_)))
    by_cases c : okc (cl l i) = true
    · rw [wish7 c]
      refine ev_pos c (ev_some ?_)
      have r := wish_range c
      have s0 := sumF_nonneg (f := Wl l) i (fun j hj => (wish_range (hv j hj)).1)
      have s1 := sumF_bound (f := Wl l) (b := 1099511627776) i (fun j hj => (wish_range (hv j hj)).2)
      have e : Wl l i = wishS (cl l i) := rfl
      have w1 : wrap64 (sumF (Wl l) i + Wl l i) = sumF (Wl l) (i + 1) := by
        simp only [sumF]; exact w64 (by omega) (by omega)
      rw [w1, w64 (x := (i : Int) + 1) (by omega) (by omega)]
      exact ev_wishes7 hl h0 hf m (i + 1) (by omega) (fun j hj => by
        by_cases e : j = i
        · subst e; exact c
        · exact hv j (by omega))
    · exact ev_neg c (Ev.now _)
theorem pure7 (l : List S23) (f : Int) (w1 : (Lit.int .i64 f).wf = true) : ∃ k, solventlaw32_QuotaAllowanceIsFair.f k l f = some true := by
  refine Ev.rounds (g := fun k => solventlaw32_QuotaAllowanceIsFair.f k l f) ?_
  have yes : Ev (fun k => solventlaw32_QuotaAllowanceIsFair.j0 k l f true true) true := Ev.step (fun k => by rw [solventlaw32_QuotaAllowanceIsFair.j0]) (ev_pos rfl (Ev.now _))
  refine Ev.bind ev_sanity32 ?_
  by_cases h1 : (l.length : Int) > 20
  · exact ev_pos h1 yes
  refine ev_neg h1 ?_
  by_cases h2 : f < 0
  · rw [decide_eq_true h2]; exact yes
  rw [decide_eq_false h2]
  refine Ev.step (fun k => by rw [solventlaw32_QuotaAllowanceIsFair.j0]) (ev_neg (by decide) ?_)
  have hf : f ≤ 9223372036854775807 := (wf7 w1).2
  exact ev_wishes7 (by omega) (by omega) hf l.length 0 (by omega) (fun j hj => absurd hj (Nat.not_lt_zero _))
end Go.Proofs.Ytdapoclangoobaa.Q
