/- LayoutSpreadsOverRacks in plain words. -/
import Derived.Test.YtiejibkjhmmpaaaL2
import Derived.Test.YtiejibkjhmmpaaaQF13
namespace Go.Proofs.Ytiejibkjhmmpaaa.Q
open Go.RowKit Go.Proofs.YtiejibkjhmmpaaaW.PrintWords
set_option linter.unusedVariables false
/-- The count of units by racks: what it comes to, m units on, from rack s on. -/
def sim (R s : Int) : Nat → Int → List Int → Int → Int
  | 0, _, _, most => most
  | m + 1, i, cnt, most => sim R s m (i + 1) (cnt.set ((s + i) % R).toNat (wrap64 (rd cnt ((s + i) % R) + 1))) (mx most (rd (cnt.set ((s + i) % R).toNat (wrap64 (rd cnt ((s + i) % R) + 1))) ((s + i) % R)))
theorem sim_all : ((List.range 9).all fun R => R == 0 || (List.range R).all fun s => (List.range 17).all fun w => sim (R : Int) (s : Int) w 0 (List.replicate R 0) 0 == ((w : Int) + (R : Int) - 1) / (R : Int) || w == 0) = true := by decide +kernel
theorem sim_at {R s w : Int} (h1 : 1 ≤ R) (h2 : R ≤ 8) (h3 : 0 ≤ s) (h4 : s < R) (h5 : 1 ≤ w) (h6 : w ≤ 16) : sim R s w.toNat 0 (List.replicate R.toNat 0) 0 = (w + R - 1) / R := by
  obtain ⟨a, rfl⟩ := Int.eq_ofNat_of_zero_le (by omega : 0 ≤ R)
  obtain ⟨b, rfl⟩ := Int.eq_ofNat_of_zero_le h3
  obtain ⟨c, rfl⟩ := Int.eq_ofNat_of_zero_le (by omega : 0 ≤ w)
  have h := List.all_eq_true.mp sim_all a (List.mem_range.mpr (by omega))
  have ha : (a == 0) = false := beq_eq_false_iff_ne.mpr (by omega)
  rw [ha, Bool.false_or] at h
  have h' := List.all_eq_true.mp (List.all_eq_true.mp h b (List.mem_range.mpr (by omega))) c (List.mem_range.mpr (by omega))
  have hc : (c == 0) = false := beq_eq_false_iff_ne.mpr (by omega)
  rw [hc, Bool.or_false] at h'
  exact eq_of_beq h'
theorem ev_rack1 {D R N S L I w row g : Int} {c : Int} (l : List Int) (s : Int) (h1 : 1 ≤ R) (h2 : R ≤ 8) (hl : (l.length : Int) = w) (hw : w ≤ 32) (hr : ∀ u : Int, 0 ≤ u → u < w → 0 ≤ rd l u ∧ rd l u % R = (s + u) % R)
    (next : Ev (fun k => solventlaw14_LayoutSpreadsOverRacks.l0 k w true row c (wrap64 (g + 1)) D R N S L I) true) : ∀ (m : Nat) (i : Int) (cnt : List Int) (most : Int), 0 ≤ i → i + m = w → cnt.length = R.toNat → sim R s m i cnt most = c →
    Ev (fun k => solventlaw14_LayoutSpreadsOverRacks.l1 k w true row c g l cnt most i D R N S L I) true
  | 0, i, cnt, most, h0, h, hc, he => by
    refine Ev.step (fun k => by simp only [solventlaw14_LayoutSpreadsOverRacks.l1]; rfl) ?_
    refine ev_neg (by omega) (ev_pos he next)
  | m + 1, i, cnt, most, h0, h, hc, he => by
    obtain ⟨ha, hb⟩ := hr i h0 (by omega)
    have hm0 : 0 ≤ (s + i) % R := Int.emod_nonneg _ (by omega)
    have hm1 : (s + i) % R < R := Int.emod_lt_of_pos _ (by omega)
    refine Ev.step (fun k => by simp only [solventlaw14_LayoutSpreadsOverRacks.l1]; rfl) ?_
    refine ev_pos (by omega) (ev_pos h0 (ev_neg (by omega) ?_))
    rw [tm ha, hb]
    refine ev_pos hm0 (ev_pos (by omega) (ev_some ?_))
    rw [w64 (x := i + 1) (by omega) (by omega)]
    exact ev_rack1 l s h1 h2 hl hw hr next m (i + 1) _ _ (by omega) (by omega) (by rw [List.length_set]; exact hc) he
theorem ev_rack0 {D R N S L I w row : Int} (hr : rowB D R N S L I row = true) (hv : vB D R N S L I w = true) (h16 : D ≤ 16) : ∀ (m : Nat) (g : Int), 0 ≤ g → (grp D S w - g).toNat = m →
    Ev (fun k => solventlaw14_LayoutSpreadsOverRacks.l0 k w true row ((w + R - 1) / R) g D R N S L I) true
  | 0, g, h0, h => by
    have hG := ev_lgroups D R N S L I w
    rw [show grpOf (vB D R N S L I w) D S w = grp D S w by unfold grpOf; rw [if_pos hv]] at hG
    refine Ev.step (fun k => by simp only [solventlaw14_LayoutSpreadsOverRacks.l0]; rfl) ?_
    exact Ev.bind hG (ev_neg (by omega) (Ev.now _))
  | m + 1, g, h0, h => by
    obtain ⟨ok, hr0, hr1⟩ := rowB_iff.mp hr
    obtain ⟨_, hw1, hw2⟩ := vB_iff.mp hv
    obtain ⟨h1, h2, h3, h4, h5, h6, h7, h8, _, _, _, _, h9⟩ := okB_iff.mp ok
    have hG := ev_lgroups D R N S L I w
    rw [show grpOf (vB D R N S L I w) D S w = grp D S w by unfold grpOf; rw [if_pos hv]] at hG
    have hgr := grp_range hv
    have hp := grp_part hv h0 (by omega)
    have hplace := ev_lplace D R N S L I row w g
    refine Ev.step (fun k => by simp only [solventlaw14_LayoutSpreadsOverRacks.l0]; rfl) ?_
    refine Ev.bind hG (ev_pos (by omega) (Ev.bind hplace (ev_pos (by omega) (ev_pos (by omega) ?_))))
    refine ev_rack1 _ ((g * w + row % D) % R) h3 h4 (placeF_len hr hv h0 (by omega)) hw2 (fun u hu0 hu1 => ?_) ?_ w.toNat 0 (List.replicate R.toNat 0) 0 (by omega) (by omega) (by simp) (sim_at h3 h4 (Int.emod_nonneg _ (by omega)) (Int.emod_lt_of_pos _ (by omega)) hw1 (by omega))
    · rw [placeF_rd hr hv h0 (by omega) hu0 hu1]
      refine ⟨(orderF_bounds h1 h3 h2 _).1, ?_⟩
      rw [rack_eq h1 h3 h9 (g * w + u) (by omega) (by omega), Int.emod_add_emod]
      congr 1; omega
    · rw [w64 (x := g + 1) (by omega) (by omega)]
      exact ev_rack0 hr hv h16 m (g + 1) (by omega) (by omega)
theorem wfu16 {x : Int} (h : (Lit.int .u16 x).wf = true) : 0 ≤ x ∧ x ≤ 65535 := by
  have h' : (decide (IntKind.u16.min ≤ x) && decide (x ≤ IntKind.u16.max)) = true := h
  rw [Bool.and_eq_true, decide_eq_true_iff, decide_eq_true_iff] at h'
  have e1 : IntKind.u16.min = 0 := by decide
  have e2 : IntKind.u16.max = 65535 := by decide
  omega
theorem pure13 (D R N S L I w r : Int) (_ : (Lit.int .i64 D).wf = true) (_ : (Lit.int .i64 R).wf = true) (_ : (Lit.int .i64 N).wf = true) (_ : (Lit.int .i64 S).wf = true) (_ : (Lit.int .i64 L).wf = true) (_ : (Lit.int .i64 I).wf = true)
    (_ : (Lit.int .i64 w).wf = true) (hwr : (Lit.int .u16 r).wf = true) : ∃ k, solventlaw14_LayoutSpreadsOverRacks.f k D R N S L I w r = some true := by
  have hr := wfu16 hwr
  refine Ev.rounds (r := true) ?_
  unfold solventlaw14_LayoutSpreadsOverRacks.f
  refine Ev.bind ev_sanity14 (ev_pos rfl (Ev.bind (ev_proper D R N S L I w) ?_))
  cases hp : properB D R N S L I w with
  | false =>
    refine Ev.step (fun k => by simp only [solventlaw14_LayoutSpreadsOverRacks.j0]; rfl) ?_
    refine ev_pos (by simp) (Ev.now _)
  | true =>
    obtain ⟨hs, hv⟩ := properB_iff.mp hp
    obtain ⟨ok, hw1, hw2⟩ := vB_iff.mp hv
    obtain ⟨h1, h2, h3, h4, h5, h6, h7, h8, _⟩ := okB_iff.mp ok
    have hcr := ev_lcrowd D R N S L I w
    rw [show crowdF (vB D R N S L I w) R w = (w + R - 1) / R by unfold crowdF; rw [if_pos hv]] at hcr
    refine Ev.step (fun k => by simp only [solventlaw14_LayoutSpreadsOverRacks.j0]; rfl) ?_
    refine ev_neg (by simp) (ev_neg (by omega) (Ev.bind hcr ?_))
    rw [w64 (x := r) (by omega) (by omega), tm hr.1]
    have hrow : rowB D R N S L I (r % N) = true := rowB_iff.mpr ⟨ok, Int.emod_nonneg _ (by omega), Int.emod_lt_of_pos _ (by omega)⟩
    exact ev_rack0 hrow hv hs.1 _ 0 (by omega) rfl
end Go.Proofs.Ytiejibkjhmmpaaa.Q
