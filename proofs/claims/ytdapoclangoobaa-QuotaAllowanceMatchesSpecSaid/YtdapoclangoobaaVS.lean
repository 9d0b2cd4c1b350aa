/- share, in plain words: filled up to a level, and one more each for the first ones. -/
import Derived.Test.YtdapoclangoobaaV
namespace Go.Proofs.Ytdapoclangoobaa.Q
open Go.RowKit Go.Proofs.YtdapoclangoobaaW.PrintWords Go.Proofs.YtdapoclangoobaaW.PrintMore
set_option linter.unusedVariables false
/-- Wishes as share may meet them. -/
def okW (ws : List Int) : Prop := ws.length ≤ 20 ∧ ∀ w ∈ ws, 0 ≤ w ∧ w ≤ 1099511627776
theorem rd_mem {ws : List Int} {i : Int} (h0 : 0 ≤ i) (h : i < ws.length) : rd ws i ∈ ws := by
  unfold rd
  rw [List.getD_eq_getElem?_getD, List.getElem?_eq_getElem (by omega : i.toNat < ws.length)]
  exact List.getElem_mem _
theorem mn_range {w L : Int} (hw : 0 ≤ w ∧ w ≤ 1099511627776) (hL : 0 ≤ L) : 0 ≤ mn w L ∧ mn w L ≤ 1099511627776 := by
  unfold mn; split <;> omega
theorem ev_cost_loop {ws : List Int} (h : okW ws) {L : Int} (hL : 0 ≤ L) : ∀ (n : Nat) (i acc : Int), 0 ≤ i → i + n = ws.length → 0 ≤ acc → acc ≤ i * 1099511627776 →
    Ev (fun k => quota_share_S1.l0 k L acc ws (ws.length : Int) i) (acc + cost L (ws.drop i.toNat))
  | 0, i, acc, h0, hn, _, _ => by
    rw [List.drop_eq_nil_of_le (by omega)]
    refine ev_eq (Ev.step (fun k => by rw [quota_share_S1.l0]) (ev_neg (by omega) (Ev.now _))) ?_
    simp [cost]
  | n + 1, i, acc, h0, hn, ha, hb => by
    have hl := h.1
    have hm := mn_range (h.2 _ (rd_mem h0 (by omega : i < ws.length))) hL
    refine Ev.step (fun k => by rw [quota_share_S1.l0]) (ev_pos (by omega) (ev_pos h0 (ev_pos (by omega) ?_)))
    rw [w64 (x := i + 1) (by omega) (by omega), w64 (x := acc + mn (rd ws i) L) (by omega) (by omega)]
    refine ev_eq (ev_cost_loop h hL n (i + 1) (acc + mn (rd ws i) L) (by omega) (by omega) (by omega) (by omega)) ?_
    rw [drop_rd h0 (by omega : i < ws.length)]
    simp only [cost]; omega
theorem ev_cost {ws : List Int} (h : okW ws) {L : Int} (hL : 0 ≤ L) : Ev (fun k => quota_share_S1.f k L ws) (cost L ws) := by
  refine ev_eq (ev_cost_loop h hL ws.length 0 0 (by omega) (by omega) (by omega) (by omega)) ?_
  simp
theorem cost_range {L : Int} (hL : 0 ≤ L) : ∀ ws : List Int, (∀ w ∈ ws, 0 ≤ w ∧ w ≤ 1099511627776) → 0 ≤ cost L ws ∧ cost L ws ≤ (ws.length : Int) * 1099511627776
  | [], _ => by simp [cost]
  | w :: ws, h => by
    have a := cost_range hL ws (fun x hx => h x (List.mem_cons_of_mem _ hx))
    have b := mn_range (h w (List.mem_cons_self ..)) hL
    simp only [cost, List.length_cons]
    omega
theorem cost_low : ∀ ws : List Int, (∀ w ∈ ws, 0 ≤ w) → cost 0 ws = 0
  | [], _ => rfl
  | w :: ws, h => by
    have a := h w (List.mem_cons_self ..)
    simp only [cost]; rw [cost_low ws (fun x hx => h x (List.mem_cons_of_mem _ hx))]
    unfold mn; split <;> omega
theorem set_mid {pre rest : List Int} {u v : Int} : (pre ++ u :: rest).set pre.length v = pre ++ v :: rest := by
  rw [List.set_append_right _ _ (Nat.le_refl _)]; simp
theorem rd_mid {pre rest : List Int} {u : Int} {i : Int} (h0 : 0 ≤ i) (h : i.toNat = pre.length) : rd (pre ++ u :: rest) i = u := by
  unfold rd
  rw [List.getD_eq_getElem?_getD, h, List.getElem?_append_right (Nat.le_refl _)]; simp
theorem ev_fill {ws : List Int} (h : okW ws) {L : Int} (hL : 0 ≤ L) (hL2 : L ≤ 1099511627776) : ∀ (n : Nat) (i g : Int) (pre : List Int), 0 ≤ i → i + n = ws.length → pre.length = i.toNat → 0 ≤ g → g ≤ 9223372036854775807 →
    Ev (fun k => quota_share.l1 k g (pre ++ List.replicate n 0) L ws (ws.length : Int) i) (pre ++ inc L g (ws.drop i.toNat))
  | 0, i, g, pre, h0, hn, hp, hg, hg2 => by
    rw [List.drop_eq_nil_of_le (by omega)]
    rw [show inc L g [] = [] from rfl, List.replicate_zero, List.append_nil]
    exact Ev.step (fun k => by rw [quota_share.l1]) (ev_neg (by omega) (Ev.now _))
  | n + 1, i, g, pre, h0, hn, hp, hg, hg2 => by
    have hl := h.1
    have hw := h.2 _ (rd_mem h0 (by omega : i < ws.length))
    have hlen : (pre ++ List.replicate (n + 1) (0 : Int)).length = ws.length := by simp; omega
    have e1 : (pre ++ List.replicate (n + 1) (0 : Int)).set i.toNat (mn (rd ws i) L) = pre ++ mn (rd ws i) L :: List.replicate n 0 := by
      rw [List.replicate_succ, ← hp, set_mid]
    have go : ∀ (v g' : Int), 0 ≤ g' → g' ≤ 9223372036854775807 → Ev (fun k => quota_share.l1 k g' (pre ++ v :: List.replicate n 0) L ws (ws.length : Int) (i + 1)) (pre ++ v :: inc L g' (ws.drop (i + 1).toNat)) := fun v g' hg' hg3 => by
      have := ev_fill h hL hL2 n (i + 1) g' (pre ++ [v]) (by omega) (by omega) (by simp; omega) hg' hg3
      simpa [List.append_assoc] using this
    rw [drop_rd h0 (by omega : i < ws.length)]
    refine Ev.step (fun k => by rw [quota_share.l1]) (ev_pos (by omega) (ev_pos h0 (ev_pos (by omega) (ev_pos (by omega) ?_))))
    rw [e1]
    refine ev_some ?_
    rw [rd_mid h0 hp.symm, w64 (x := i + 1) (by omega) (by omega)]
    unfold inc
    by_cases c1 : mn (rd ws i) L < rd ws i
    · have hmn : mn (rd ws i) L = L ∧ L < rd ws i := by unfold mn at c1 ⊢; split at c1 <;> (try split) <;> omega
      refine ev_pos c1 ?_
      by_cases c2 : g > 0
      · rw [if_pos ⟨hmn.2, c2⟩]
        refine ev_pos c2 ?_
        rw [w64 (x := g - 1) (by omega) (by omega), hmn.1, w64 (x := L + 1) (by omega) (by omega), ← hp, set_mid]
        exact go _ _ (by omega) (by omega)
      · rw [if_neg (fun e => c2 e.2)]
        exact ev_neg c2 (go _ _ hg hg2)
    · rw [if_neg (fun e => c1 (by unfold mn; split <;> omega))]
      exact ev_neg c1 (go _ _ hg hg2)
theorem ev_search {ws : List Int} (h : okW ws) {f : Int} (hf2 : f ≤ 9223372036854775807) (y : List Int) : ∀ (m : Nat) (lo hi : Int), hi - lo ≤ m → 0 ≤ lo → lo ≤ hi → hi ≤ 1099511627776 → cost lo ws ≤ f → (1099511627776 ≤ hi ∨ f < cost (hi + 1) ws) → ∀ r : Int → List Int,
    (∀ L, fitsL ws f L → L ≤ 1099511627776 → Ev (fun k => quota_share.l1 k (f - cost L ws) y L ws (ws.length : Int) 0) (r L)) → ∃ L, fitsL ws f L ∧ Ev (fun k => quota_share.l0 k f y lo hi ws) (r L)
  | m, lo, hi, hm, h0, hle, hhi, hc, hd, r, kk => by
    by_cases c : lo < hi
    · have e1 : Int.tdiv (lo + hi + 1) 2 = (lo + hi + 1) / 2 := Int.tdiv_eq_ediv_of_nonneg (by omega)
      have step : ∀ L, (if cost ((lo + hi + 1) / 2) ws ≤ f then Ev (fun k => quota_share.l0 k f y ((lo + hi + 1) / 2) hi ws) (r L) else Ev (fun k => quota_share.l0 k f y lo ((lo + hi + 1) / 2 - 1) ws) (r L)) → Ev (fun k => quota_share.l0 k f y lo hi ws) (r L) := fun L hL => by
        refine Ev.step (fun k => by rw [quota_share.l0]) (ev_pos c ?_)
        rw [w64 (x := lo + hi) (by omega) (by omega), w64 (x := lo + hi + 1) (by omega) (by omega), e1, w64 (x := (lo + hi + 1) / 2) (by omega) (by omega), w64 (x := (lo + hi + 1) / 2 - 1) (by omega) (by omega)]
        refine Ev.bind (ev_cost h (by omega)) ?_
        by_cases c2 : cost ((lo + hi + 1) / 2) ws ≤ f
        · rw [if_pos c2] at hL; exact ev_pos c2 hL
        · rw [if_neg c2] at hL; exact ev_neg c2 hL
      obtain ⟨m, rfl⟩ : ∃ q, m = q + 1 := ⟨m - 1, by omega⟩
      by_cases c2 : cost ((lo + hi + 1) / 2) ws ≤ f
      · obtain ⟨L, hL, hE⟩ := ev_search h hf2 y m ((lo + hi + 1) / 2) hi (by omega) (by omega) (by omega) hhi c2 hd r kk
        exact ⟨L, hL, step L (by rw [if_pos c2]; exact hE)⟩
      · obtain ⟨L, hL, hE⟩ := ev_search h hf2 y m lo ((lo + hi + 1) / 2 - 1) (by omega) h0 (by omega) (by omega) hc (.inr (by rw [Int.sub_add_cancel]; omega)) r kk
        exact ⟨L, hL, step L (by rw [if_neg c2]; exact hE)⟩
    · obtain rfl : lo = hi := by omega
      have hfit : fitsL ws f lo := ⟨h0, hc, hd⟩
      have hr := cost_range h0 ws h.2
      have hl := h.1
      refine ⟨lo, hfit, Ev.step (fun k => by rw [quota_share.l0]) (ev_neg c (Ev.bind (ev_cost h h0) ?_))⟩
      rw [w64 (x := f - cost lo ws) (by omega) (by omega)]
      exact kk lo hfit hhi
termination_by m => m
theorem ev_share {ws : List Int} (h : okW ws) {f : Int} (hf : 0 ≤ f) (hf2 : f ≤ 9223372036854775807) : ∃ L, fitsL ws f L ∧ Ev (fun k => quota_share.f k ws f) (inc L (f - cost L ws) ws) := by
  have hl := h.1
  obtain ⟨L, hL, hE⟩ := ev_search h hf2 (List.replicate ws.length 0) 1099511627776 0 1099511627776 (by omega) (by omega) (by omega) (by omega) (by rw [cost_low ws (fun w hw => (h.2 w hw).1)]; exact hf) (.inl (by omega)) (fun L => inc L (f - cost L ws) ws) (fun L hL hL2 => by
    have hr := cost_range hL.1 ws h.2
    have := ev_fill h hL.1 hL2 ws.length 0 (f - cost L ws) [] (by omega) (by omega) rfl (by have := hL.2.1; omega) (by omega)
    simpa using this)
  refine ⟨L, hL, ev_pos (by omega) (ev_pos (by omega) ?_)⟩
  rw [show ((ws.length : Int)).toNat = ws.length from by omega]
  exact hE
end Go.Proofs.Ytdapoclangoobaa.Q
