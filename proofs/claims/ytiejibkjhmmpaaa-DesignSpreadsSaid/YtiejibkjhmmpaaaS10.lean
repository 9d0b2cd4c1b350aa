/- DesignSpreads in plain words. -/
import Derived.Test.YtiejibkjhmmpaaaM10
import Derived.Test.YtiejibkjhmmpaaaQF10
namespace Go.Proofs.Ytiejibkjhmmpaaa.Q
open Go.RowKit Go.Proofs.YtiejibkjhmmpaaaW.PrintWords
set_option linter.unusedVariables false
theorem mn_lt {a b c d : Int} (h : ¬ mn (mn (mn a b) c) d < 0) : 0 ≤ a ∧ 0 ≤ b ∧ 0 ≤ c ∧ 0 ≤ d := by
  unfold mn at h; omega
theorem mx_lt {a b c d n : Int} (h : ¬ mx (mx (mx a b) c) d ≥ n) : a < n ∧ b < n ∧ c < n ∧ d < n := by
  unfold mx at h; omega
theorem ev_spread0 {D N S L I t p q d e k0 : Int} (ok : okB D 1 N S L I = true) (hp : primeI D = true) (h31 : D ≤ 31) (ht0 : 0 ≤ t) (ht : t ≤ 4096) (htn : (t + 1) * (D * (D - 1)) ≤ N)
    (hp0 : 0 ≤ p) (hp1 : p < D) (hq0 : 0 ≤ q) (hq1 : q < D) (hk : k0 < D * (D - 1))
    (hone : ∀ k, 0 ≤ k → k < D * (D - 1) → ((orderF D 1 k p.toNat = d ∧ orderF D 1 k q.toNat = e) ↔ k = k0)) : ∀ (m : Nat) (i cnt : Int), 0 ≤ i → i + m = D * (D - 1) → cnt = (if i ≤ k0 then 0 else 1) →
    Ev (fun k => solventlaw13_DesignSpreads.l0 k t p q d e cnt (D * (D - 1)) i D 1 N S L I) true
  | 0, i, cnt, h0, h, hc => by
    refine Ev.step (fun k => by simp only [solventlaw13_DesignSpreads.l0]; rfl) ?_
    rw [if_neg (by omega)] at hc
    subst hc
    exact ev_neg (by omega) (Ev.bind ev_sanity13 (ev_pos rfl (Ev.now _)))
  | m + 1, i, cnt, h0, h, hc => by
    obtain ⟨h1, h2, h3, h4, h5, h6, _⟩ := okB_iff.mp ok
    have hi : i < D * (D - 1) := by omega
    have hP0 : D * (D - 1) ≤ 31 * 30 := Int.mul_le_mul h31 (by omega) (by omega) (by omega)
    have hP1 : 0 ≤ D * (D - 1) := Int.mul_nonneg (by omega) (by omega)
    have htP0 : 0 ≤ t * (D * (D - 1)) := Int.mul_nonneg ht0 hP1
    have e1 : (t + 1) * (D * (D - 1)) = t * (D * (D - 1)) + D * (D - 1) := by rw [Int.add_mul, Int.one_mul]
    have hrow : t * (D * (D - 1)) + i < N := by omega
    have hper := ev_rper D 1 N S L I
    unfold perOf at hper
    rw [if_pos ok, len_prime hp h31] at hper
    have ho := ev_order D 1 N S L I (t * (D * (D - 1)) + i)
    rw [if_pos (rowB_iff.mpr ⟨ok, by omega, hrow⟩)] at ho
    have hrep : orderL D 1 (t * (D * (D - 1)) + i) = orderL D 1 i := by
      have := order_periods (D := D) (R := 1) h1 t.toNat i
      rw [len_prime hp h31, Int.toNat_of_nonneg ht0] at this
      exact this
    rw [hrep] at ho
    have hl := @orderL_len D 1 i (by omega)
    refine Ev.step (fun k => by simp only [solventlaw13_DesignSpreads.l0]; rfl) ?_
    refine ev_pos hi (Ev.bind hper ?_)
    rw [w64 (x := t * (D * (D - 1))) (by omega) (by omega), w64 (x := t * (D * (D - 1)) + i) (by omega) (by omega), w64 (x := i + 1) (by omega) (by omega)]
    have hcc : cnt = 0 ∨ cnt = 1 := by
      by_cases hik : i ≤ k0
      · rw [if_pos hik] at hc; exact .inl hc
      · rw [if_neg hik] at hc; exact .inr hc
    rw [w64 (x := cnt + 1) (by omega) (by omega)]
    refine Ev.bind ho (ev_pos hl (ev_pos hp0 (ev_pos (by omega) ?_)))
    rw [rd_order hp0 hp1, rd_order hq0 hq1]
    have hiff := hone i h0 hi
    have next : ∀ c, c = (if i + 1 ≤ k0 then 0 else 1) → Ev (fun k => solventlaw13_DesignSpreads.l0 k t p q d e c (D * (D - 1)) (i + 1) D 1 N S L I) true := fun c hc => ev_spread0 ok hp h31 ht0 ht htn hp0 hp1 hq0 hq1 hk hone m (i + 1) c (by omega) (by omega) hc
    by_cases ha : orderF D 1 i p.toNat = d
    · refine ev_pos ha (ev_pos hq0 (ev_pos (by omega) ?_))
      by_cases hb : orderF D 1 i q.toNat = e
      · have hik := hiff.mp ⟨ha, hb⟩
        exact ev_pos hb (next _ (by rw [if_neg (by omega), hc, if_pos (by omega)]; rfl))
      · have hik : ¬ i = k0 := fun h => hb (hiff.mpr h).2
        refine ev_neg hb (next _ ?_)
        rw [hc]
        by_cases hik2 : i ≤ k0
        · rw [if_pos hik2, if_pos (by omega)]
        · rw [if_neg hik2, if_neg (by omega)]
    · have hik : ¬ i = k0 := fun h => ha (hiff.mpr h).1
      refine ev_neg ha (next _ ?_)
      rw [hc]
      by_cases hik2 : i ≤ k0
      · rw [if_pos hik2, if_pos (by omega)]
      · rw [if_neg hik2, if_neg (by omega)]
theorem pure10 (D R N S L I t p q d e : Int) (_ : (Lit.int .i64 D).wf = true) (_ : (Lit.int .i64 R).wf = true) (_ : (Lit.int .i64 N).wf = true) (_ : (Lit.int .i64 S).wf = true) (_ : (Lit.int .i64 L).wf = true) (_ : (Lit.int .i64 I).wf = true)
    (_ : (Lit.int .i64 t).wf = true) (_ : (Lit.int .i64 p).wf = true) (_ : (Lit.int .i64 q).wf = true) (_ : (Lit.int .i64 d).wf = true) (_ : (Lit.int .i64 e).wf = true) : ∃ k, solventlaw13_DesignSpreads.f k D R N S L I t p q d e = some true := by
  refine Ev.rounds (r := true) ?_
  unfold solventlaw13_DesignSpreads.f
  have ht : ∀ b : Bool, b = true → Ev (fun k => solventlaw13_DesignSpreads.j0 k t p q d e b D R N S L I) true := fun b hb => by
    subst hb
    refine Ev.step (fun k => by simp only [solventlaw13_DesignSpreads.j0]; rfl) ?_
    exact ev_pos trivial (Ev.bind ev_sanity13 (Ev.now _))
  have ht1 : ∀ b : Bool, b = true → Ev (fun k => solventlaw13_DesignSpreads.j1 k t p q d e b D R N S L I) true := fun b hb => by
    subst hb
    refine Ev.step (fun k => by simp only [solventlaw13_DesignSpreads.j1]; rfl) ?_
    exact ev_pos trivial (Ev.bind ev_sanity13 (Ev.now _))
  refine Ev.bind (ev_valid13 D R N S L I) ?_
  by_cases ok : okB D R N S L I = true
  · refine ev_pos ok ?_
    obtain ⟨h1, h2, h3, h4, h5, h6, _⟩ := okB_iff.mp ok
    by_cases hR : R = 1
    · subst hR
      refine ev_pos rfl ?_
      by_cases h31 : D > 31
      · exact ev_pos h31 (ht _ rfl)
      · refine ev_neg h31 (Ev.bind (ev_prime h1 h2) ?_)
        by_cases hp : primeI D = true
        · refine ev_pos hp ?_
          by_cases ht0 : t < 0
          · exact ev_pos ht0 (ht _ rfl)
          · refine ev_neg ht0 ?_
            by_cases ht9 : t > 4096
            · exact ev_pos ht9 (ht _ rfl)
            · have hper := ev_rper D 1 N S L I
              unfold perOf at hper
              rw [if_pos ok, len_prime hp (by omega)] at hper
              have hP0 : D * (D - 1) ≤ 31 * 30 := Int.mul_le_mul (by omega) (by omega) (by omega) (by omega)
              have hP1 : 0 ≤ D * (D - 1) := Int.mul_nonneg (by omega) (by omega)
              have hT0 : 0 ≤ (t + 1) * (D * (D - 1)) := Int.mul_nonneg (by omega) hP1
              have hT1 : (t + 1) * (D * (D - 1)) ≤ 4097 * (31 * 30) := Int.mul_le_mul (by omega) hP0 hP1 (by omega)
              refine ev_neg ht9 (Ev.bind hper ?_)
              rw [w64 (x := t + 1) (by omega) (by omega), w64 (by omega) (by omega)]
              by_cases hn : (t + 1) * (D * (D - 1)) > N
              · exact ht _ (decide_eq_true hn)
              · rw [decide_eq_false hn]
                refine Ev.step (fun k => by simp only [solventlaw13_DesignSpreads.j0]; rfl) ?_
                refine ev_neg (by simp) ?_
                by_cases hmn : mn (mn (mn p q) d) e < 0
                · exact ev_pos hmn (ht1 _ rfl)
                · refine ev_neg hmn ?_
                  by_cases hmx : mx (mx (mx p q) d) e ≥ D
                  · exact ev_pos hmx (ht1 _ rfl)
                  · refine ev_neg hmx ?_
                    by_cases hpq : p = q
                    · exact ev_pos hpq (ht1 _ rfl)
                    · refine ev_neg hpq ?_
                      by_cases hde : d = e
                      · exact ht1 _ (by simp [hde])
                      · have hf : (d == e) = false := beq_eq_false_iff_ne.mpr hde
                        rw [hf]
                        obtain ⟨a0, a1, a2, a3⟩ := mn_lt hmn
                        obtain ⟨b0, b1, b2, b3⟩ := mx_lt hmx
                        obtain ⟨k0, hk0, hk1, hone⟩ := spread_one hp (by omega) a0 b0 a1 b1 a2 b2 a3 b3 hpq hde
                        refine Ev.step (fun k => by simp only [solventlaw13_DesignSpreads.j1]; rfl) ?_
                        refine ev_neg (by simp) (Ev.bind hper ?_)
                        exact ev_spread0 ok hp (by omega) (by omega) (by omega) (by omega) a0 b0 a1 b1 hk1 hone (D * (D - 1)).toNat 0 0 (by omega) (by omega) (by rw [if_pos hk0])
        · exact ev_neg hp (ht _ rfl)
    · exact ev_neg hR (ht _ rfl)
  · exact ev_neg ok (ht _ rfl)
end Go.Proofs.Ytiejibkjhmmpaaa.Q
