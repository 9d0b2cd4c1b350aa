/- LayoutSparesShrink in plain words. -/
import Derived.Test.YtiejibkjhmmpaaaL2
import Derived.Test.YtiejibkjhmmpaaaQF9
namespace Go.Proofs.Ytiejibkjhmmpaaa.Q
open Go.RowKit Go.Proofs.YtiejibkjhmmpaaaW.PrintWords
set_option linter.unusedVariables false
theorem wfu16' {x : Int} (h : (Lit.int .u16 x).wf = true) : 0 ≤ x ∧ x ≤ 65535 := by
  have h' : (decide (IntKind.u16.min ≤ x) && decide (x ≤ IntKind.u16.max)) = true := h
  rw [Bool.and_eq_true, decide_eq_true_iff, decide_eq_true_iff] at h'
  have e1 : IntKind.u16.min = 0 := by decide
  have e2 : IntKind.u16.max = 65535 := by decide
  omega
theorem vB_more {D R N S L I w : Int} (hv : vB D R N S L I w = true) (hs : S + 1 < D) : vB D R N (S + 1) L I w = true := by
  obtain ⟨ok, hw⟩ := vB_iff.mp hv
  have := okB_iff.mp ok
  exact vB_iff.mpr ⟨okB_iff.mpr (by omega), hw⟩
theorem grp_more {D R N S L I w : Int} (hv : vB D R N S L I w = true) : grp D (S + 1) w ≤ grp D S w := by
  obtain ⟨ok, hw1, hw2⟩ := vB_iff.mp hv
  unfold grp
  exact Int.ediv_le_ediv (by omega) (by omega)
theorem rowB_more {D R N S L I row : Int} (hr : rowB D R N S L I row = true) (hs : S + 1 < D) : rowB D R N (S + 1) L I row = true := by
  obtain ⟨ok, h⟩ := rowB_iff.mp hr
  have := okB_iff.mp ok
  exact rowB_iff.mpr ⟨okB_iff.mpr (by omega), h⟩
theorem ev_shrink1 {D R N S L I w row : Int} (hr : rowB D R N S L I row = true) (hv : vB D R N S L I w = true) (hs : S + 1 < D) : ∀ (m : Nat) (g : Int), 0 ≤ g → (grp D (S + 1) w - g).toNat = m →
    Ev (fun k => solventlaw14_LayoutSparesShrink.l1 k w true row g D R N S L I D R N (S + 1) L I) true
  | 0, g, h0, h => by
    have hv' := vB_more hv hs
    have hG := ev_lgroups D R N S L I w
    rw [show grpOf (vB D R N S L I w) D S w = grp D S w by unfold grpOf; rw [if_pos hv]] at hG
    have hG' := ev_lgroups D R N (S + 1) L I w
    rw [show grpOf (vB D R N (S + 1) L I w) D (S + 1) w = grp D (S + 1) w by unfold grpOf; rw [if_pos hv']] at hG'
    refine Ev.step (fun k => by simp only [solventlaw14_LayoutSparesShrink.l1]; rfl) ?_
    refine Ev.bind hG' (ev_neg (by omega) (ev_pos trivial (Ev.bind hG' (Ev.bind hG (ev_eq (Ev.now _) ?_)))))
    exact decide_eq_true (grp_more hv)
  | m + 1, g, h0, h => by
    have hv' := vB_more hv hs
    have hr' := rowB_more hr hs
    have hgm := grp_more hv
    obtain ⟨ok, hr0, hr1⟩ := rowB_iff.mp hr
    have hok := okB_iff.mp ok
    have hG' := ev_lgroups D R N (S + 1) L I w
    rw [show grpOf (vB D R N (S + 1) L I w) D (S + 1) w = grp D (S + 1) w by unfold grpOf; rw [if_pos hv']] at hG'
    have hgr := grp_range hv
    have hp := ev_lplace D R N S L I row w g
    have hp' := ev_lplace D R N (S + 1) L I row w g
    have e : placeF D R N (S + 1) L I row w g = placeF D R N S L I row w g := by
      unfold placeF
      rw [if_pos ⟨hr', hv', h0, by omega⟩, if_pos ⟨hr, hv, h0, by omega⟩]
    rw [e] at hp'
    have hlen := placeF_len hr hv h0 (by omega)
    have hw := vB_iff.mp hv
    refine Ev.step (fun k => by simp only [solventlaw14_LayoutSparesShrink.l1]; rfl) ?_
    refine Ev.bind hG' (ev_pos (by omega) (Ev.bind hp (Ev.bind hp' (Ev.bind (ev_refl _ (by omega)) (ev_pos rfl ?_)))))
    rw [w64 (x := g + 1) (by omega) (by omega)]
    exact ev_shrink1 hr hv hs m (g + 1) (by omega) (by omega)
theorem ev_shrink0 {D R N S L I w row : Int} (hr : rowB D R N S L I row = true) (hv : vB D R N S L I w = true) (hs : S + 1 < D) : ∀ (m : Nat) (i : Int), 0 ≤ i → i + m = ((sparesF D R N S L I row w).length : Int) →
    Ev (fun k => solventlaw14_LayoutSparesShrink.l0 k w true row (sparesF D R N S L I row w) i D R N S L I D R N (S + 1) L I) true
  | 0, i, h0, h => by
    refine Ev.step (fun k => by simp only [solventlaw14_LayoutSparesShrink.l0]; rfl) ?_
    exact ev_neg (by omega) (ev_shrink1 hr hv hs _ 0 (by omega) rfl)
  | m + 1, i, h0, h => by
    have hv' := vB_more hv hs
    have hr' := rowB_more hr hs
    have hgm := grp_more hv
    obtain ⟨ok, hr0, hr1⟩ := rowB_iff.mp hr
    obtain ⟨h1, h2, h3, h4, h5, h6, h7, h8, _⟩ := okB_iff.mp ok
    obtain ⟨_, hw1, hw2⟩ := vB_iff.mp hv
    have hgr := grp_range hv
    have hgr' := grp_range hv'
    have hgw : 0 ≤ grp D S w * w := Int.mul_nonneg hgr.1 (by omega)
    have hgw' : grp D (S + 1) w * w ≤ grp D S w * w := Int.mul_le_mul_of_nonneg_right hgm (by omega)
    have e : sparesF D R N S L I row w = (orderL D R row).drop (grp D S w * w).toNat := by unfold sparesF; rw [if_pos ⟨hr, hv⟩]
    have hl := @orderL_len D R row (by omega)
    have hlen : ((sparesF D R N S L I row w).length : Int) = D - grp D S w * w := by rw [e, List.length_drop]; omega
    have hrd : rd (sparesF D R N S L I row w) i = orderF D R row (grp D S w * w + i).toNat := by
      rw [← rd_order (by omega) (by omega), e]
      unfold rd
      rw [List.getD_eq_getElem?_getD, List.getElem?_drop, List.getD_eq_getElem?_getD, show (grp D S w * w).toNat + i.toNat = (grp D S w * w + i).toNat by omega]
    have hb := orderF_bounds (row := row) h1 h3 h2 (grp D S w * w + i).toNat
    have hpos : posL (orderL D R row) (rd (sparesF D R N S L I row w) i) 0 = grp D S w * w + i := by
      rw [hrd]
      exact (pos_iff h1 h2 h3 hb.1 hb.2 (by omega) (by omega)).mpr rfl
    have hf := ev_lfind D R N (S + 1) L I row w (rd (sparesF D R N S L I row w) i)
    have he : (findF D R N (S + 1) L I row w (rd (sparesF D R N S L I row w) i)).2.2.2 = 12 := by
      rw [findF_ok hr' hv' (by rw [hrd]; exact hb.1) (by rw [hrd]; exact hb.2), hpos, if_pos (by omega)]
    refine Ev.step (fun k => by simp only [solventlaw14_LayoutSparesShrink.l0]; rfl) ?_
    refine ev_pos (by omega) (ev_pos h0 (Ev.bind hf (ev_pos he ?_)))
    rw [w64 (x := i + 1) (by omega) (by omega)]
    exact ev_shrink0 hr hv hs m (i + 1) (by omega) (by omega)
theorem pure9 (D R N S L I w r : Int) (_ : (Lit.int .i64 D).wf = true) (_ : (Lit.int .i64 R).wf = true) (_ : (Lit.int .i64 N).wf = true) (_ : (Lit.int .i64 S).wf = true) (_ : (Lit.int .i64 L).wf = true) (_ : (Lit.int .i64 I).wf = true)
    (_ : (Lit.int .i64 w).wf = true) (hwr : (Lit.int .u16 r).wf = true) : ∃ k, solventlaw14_LayoutSparesShrink.f k D R N S L I w r = some true := by
  have hr := wfu16' hwr
  refine Ev.rounds (r := true) ?_
  unfold solventlaw14_LayoutSparesShrink.f
  have ht : ∀ b : Bool, b = true → Ev (fun k => solventlaw14_LayoutSparesShrink.j0 k w r true b D R N S L I) true := fun b hb => by
    subst hb
    refine Ev.step (fun k => by simp only [solventlaw14_LayoutSparesShrink.j0]; rfl) ?_
    exact ev_pos trivial (Ev.now _)
  refine Ev.bind ev_sanity14 (ev_pos rfl (Ev.bind (ev_proper D R N S L I w) ?_))
  cases hp : properB D R N S L I w with
  | false => exact ev_neg (by simp) (ht _ rfl)
  | true =>
    obtain ⟨hsm, hv⟩ := properB_iff.mp hp
    obtain ⟨ok, hw1, hw2⟩ := vB_iff.mp hv
    obtain ⟨h1, h2, h3, h4, h5, h6, h7, h8, _⟩ := okB_iff.mp ok
    refine ev_pos rfl ?_
    rw [w64 (x := S + 1) (by omega) (by omega)]
    by_cases hs : S + 1 ≥ D
    · exact ht _ (decide_eq_true hs)
    · rw [decide_eq_false hs]
      refine Ev.step (fun k => by simp only [solventlaw14_LayoutSparesShrink.j0]; rfl) ?_
      rw [w64 (x := r) (by omega) (by omega), tm hr.1, w64 (x := S + 1) (by omega) (by omega)]
      have hrow : rowB D R N S L I (r % N) = true := rowB_iff.mpr ⟨ok, Int.emod_nonneg _ (by omega), Int.emod_lt_of_pos _ (by omega)⟩
      refine ev_neg (by simp) (ev_neg (by omega) (Ev.bind (ev_lspares D R N S L I (r % N) w) ?_))
      exact ev_shrink0 hrow hv (by omega) (sparesF D R N S L I (r % N) w).length 0 (by omega) (by omega)
end Go.Proofs.Ytiejibkjhmmpaaa.Q
