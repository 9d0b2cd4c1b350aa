/- QuotaAllowanceMatchesSpec in plain words. -/
import Derived.Test.YtdapoclangoobaaVR
namespace Go.Proofs.Ytdapoclangoobaa.Q
open Go.RowKit Go.Proofs.YtdapoclangoobaaW.PrintWords Go.Proofs.YtdapoclangoobaaW.PrintMore
set_option linter.unusedVariables false
theorem wf4 {x : Int} (h : (Lit.int .i64 x).wf = true) : -9223372036854775808 ≤ x ∧ x ≤ 9223372036854775807 := by
  have h' : (decide (IntKind.i64.min ≤ x) && decide (x ≤ IntKind.i64.max)) = true := h
  rw [Bool.and_eq_true, decide_eq_true_iff, decide_eq_true_iff] at h'
  have e1 : IntKind.i64.min = -9223372036854775808 := by decide
  have e2 : IntKind.i64.max = 9223372036854775807 := by decide
  omega
theorem ev_small_loop (l : List S23) (hl : l.length ≤ 20) (f : Int) : ∀ (m i : Nat) (n : Int), i + m = l.length → 0 ≤ n → n ≤ (i : Int) * 1099511627776 → ∃ b, Ev (fun k => solventref32_Small.l0 k l f n (i : Int)) b
  := by
  intro m
  induction m with
  | zero =>
    intro i n hi h0 h1
    by_cases c : f ≤ 3000
    · exact ⟨true, Ev.step (fun k => by rw [solventref32_Small.l0]) (ev_neg (by omega) (ev_pos c (Ev.now _)))⟩
    · exact ⟨_, Ev.step (fun k => by rw [solventref32_Small.l0]) (ev_neg (by omega) (ev_neg c (Ev.now _)))⟩
  | succ m ih =>
    intro i n hi h0 h1
    by_cases c : okc (cl l i) = true
    · have r := wish_range c
      have e : Wl l i = wishS (cl l i) := rfl
      rw [← e] at r
      clear e
      generalize hW : Wl l i = W at r
      obtain ⟨b, hb⟩ := ih (i + 1) (n + W) (by omega) (by omega) (by omega)
      refine ⟨b, Ev.step (fun k => by rw [solventref32_Small.l0]) (ev_pos (by omega) (ev_pos (by omega) ?_))⟩
      rw [valid4, wish4 c, hW, w64 (x := (i : Int) + 1) (by omega) (by omega)]
      refine ev_some (ev_pos c (ev_some ?_))
      rw [w64 (x := n + W) (by omega) (by omega)]
      exact hb
    · obtain ⟨b, hb⟩ := ih (i + 1) n (by omega) (by omega) (by omega)
      refine ⟨b, Ev.step (fun k => by rw [solventref32_Small.l0]) (ev_pos (by omega) (ev_pos (by omega) ?_))⟩
      rw [valid4, w64 (x := (i : Int) + 1) (by omega) (by omega)]
      exact ev_some (ev_neg c hb)
theorem ev_small (l : List S23) (f : Int) : ∃ b, Ev (fun k => solventref32_Small.f k l f) b ∧ (b = true → l.length ≤ 20) := by
  by_cases c : (l.length : Int) > 20
  · exact ⟨false, ev_pos c (Ev.now _), fun e => by cases e⟩
  · obtain ⟨b, hb⟩ := ev_small_loop l (by omega) f l.length 0 0 (by omega) (by omega) (by omega)
    exact ⟨b, ev_neg c hb, fun _ => by omega⟩
theorem ev_same_loop (o : List Int) (hl : o.length ≤ 20) : ∀ (m i : Nat), i + m = o.length → Ev (fun k => solventref32_Same.l0 k o o (i : Int)) true
  | 0, i, hi => Ev.step (fun k => by rw [solventref32_Same.l0]) (ev_neg (by omega) (Ev.now _))
  | m + 1, i, hi => by
    refine Ev.step (fun k => by rw [solventref32_Same.l0]) (ev_pos (by omega) (ev_pos (by omega) (ev_pos (by omega) (ev_pos rfl ?_))))
    rw [w64 (x := (i : Int) + 1) (by omega) (by omega)]
    exact ev_same_loop o hl m (i + 1) (by omega)
theorem ev_same (o : List Int) (hl : o.length ≤ 20) : Ev (fun k => solventref32_Same.f k o o) true := ev_pos rfl (ev_same_loop o hl o.length 0 (by omega))
theorem ev_both (l : List S23) (hl : l.length ≤ 20) (f : Int) (hf : f ≤ 9223372036854775807) : ∃ o : List Int, o.length ≤ 20 ∧ Ev (fun k => quota_Allowance.f k l f) o ∧ Ev (fun k => solventref32_Allowance.f k l f) o := by
  by_cases h0 : f < 0
  · exact ⟨[], by simp, ev_allowance_neg l h0, ev_pos h0 (Ev.now _)⟩
  by_cases hall : l.all okc = true
  · have hok : okl l := ⟨hl, List.all_eq_true.mp hall⟩
    obtain ⟨o, ho, hF, hE⟩ := ev_allowance hok (f := f) (by omega) hf
    obtain ⟨o', ho', hF', hE'⟩ := ev_rallowance hok (f := f) (by omega) hf
    have hu := hF.unique hF'
    have e : o = o' := by
      refine List.ext_getElem (ho.trans ho'.symm) fun i h1 h2 => ?_
      have := hu i (by omega)
      rw [List.getD_eq_getElem?_getD, List.getD_eq_getElem?_getD, List.getElem?_eq_getElem h1, List.getElem?_eq_getElem h2] at this
      exact this
    subst e
    exact ⟨o, by omega, hE, hE'⟩
  · have hall' : l.all okc = false := by simpa using hall
    exact ⟨[], by simp, ev_allowance_bad (by omega) hall' f, ev_neg h0 (ev_rbad l hl f l.length 0 (by omega) hall')⟩
theorem ev_unchanged (l : List S23) (hl : l.length ≤ 20) (f : Int) (o : List Int) (ho : o.length ≤ 20) (hE : Ev (fun k => solventref32_Allowance.f k l f) o) : ∀ (m i : Nat), i + m = l.length →
    Ev (fun k => solventlaw32_QuotaAllowanceMatchesSpec.l0 k l f true l o (i : Int)) true
  | 0, i, hi => Ev.step (fun k => by rw [solventlaw32_QuotaAllowanceMatchesSpec.l0]) (ev_neg (by omega) (ev_pos rfl (Ev.bind hE (Ev.bind (ev_same o ho) (Ev.now _)))))
  | m + 1, i, hi => by
    refine Ev.step (fun k => by rw [solventlaw32_QuotaAllowanceMatchesSpec.l0]) (ev_pos (by omega) (ev_pos (by omega) (ev_pos (by omega) (ev_neg ?_ ?_))))
    · simp
    · rw [w64 (x := (i : Int) + 1) (by omega) (by omega)]
      exact ev_unchanged l hl f o ho hE m (i + 1) (by omega)
theorem pure4 (l : List S23) (f : Int) (w1 : (Lit.int .i64 f).wf = true) : ∃ k, solventlaw32_QuotaAllowanceMatchesSpec.f k l f = some true := by
  refine Ev.rounds (g := fun k => solventlaw32_QuotaAllowanceMatchesSpec.f k l f) ?_
  obtain ⟨b, hb, hb2⟩ := ev_small l f
  refine Ev.bind ev_sanity32 (Ev.bind hb ?_)
  by_cases c : b = true
  · have hl := hb2 c
    obtain ⟨o, ho, hE, hE'⟩ := ev_both l hl f (wf4 w1).2
    refine ev_pos c (ev_some (ev_pos (by simp; omega) (Ev.bind hE ?_)))
    exact ev_unchanged l hl f o ho hE' l.length 0 (by omega)
  · exact ev_neg c (Ev.now _)
end Go.Proofs.Ytdapoclangoobaa.Q
