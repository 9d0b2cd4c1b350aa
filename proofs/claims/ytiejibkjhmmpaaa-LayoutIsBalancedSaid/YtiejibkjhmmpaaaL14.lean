/- LayoutIsBalanced in plain words. -/
import Derived.Test.YtiejibkjhmmpaaaL2
import Derived.Test.YtiejibkjhmmpaaaQF14
namespace Go.Proofs.Ytiejibkjhmmpaaa.Q
open Go.RowKit Go.Proofs.YtiejibkjhmmpaaaW.PrintWords
set_option linter.unusedVariables false
/-- Has disk d a unit in row i? -/
def hasU (D R N S L I w d : Int) (i : Nat) : Bool := decide ((findF D R N S L I (i : Int) w d).2.2.2 = 0)
theorem unitsF_cn {D R N S L I w d rows : Int} (h0 : 0 ≤ rows) (h : rows ≤ N) : unitsF D R N S L I w d rows = (cn (hasU D R N S L I w d) rows.toNat : Nat) := by
  unfold unitsF
  rw [if_neg (by omega), units_cn]
  congr 1
  exact cn_congr _ (fun k _ => by unfold hasU; rw [Int.zero_add])
/-- In the row q * D + j the disk d has position p for just one j. -/
theorem block_one {D R d p : Int} (q : Nat) (h1 : 1 ≤ D) (h2 : D ≤ 64) (h3 : 1 ≤ R) (h0 : 0 ≤ d) (hd : d < D) (hp0 : 0 ≤ p) (hp1 : p < D) :
    ∃ j0 : Nat, j0 < D.toNat ∧ ∀ j : Nat, j < D.toNat → (posL (orderL D R ((q * D.toNat + j : Nat) : Int)) d 0 = p ↔ j = j0) := by
  have hm : ∀ j : Nat, j < D.toNat → mulAt D R ((q * D.toNat + j : Nat) : Int) = mulAt D R ((q : Int) * D) := fun j hj => by
    have e1 : ((q * D.toNat + j : Nat) : Int) = (j : Int) + D * q := by
      have : ((D.toNat : Nat) : Int) = D := Int.toNat_of_nonneg (by omega)
      rw [Int.natCast_add, Int.natCast_mul, this, Int.mul_comm]; omega
    unfold mulAt
    rw [e1, Int.add_mul_ediv_left _ _ (by omega), Int.ediv_eq_zero_of_lt (by omega) (by omega), Int.zero_add, Int.mul_ediv_cancel _ (by omega)]
  generalize mulAt D R ((q : Int) * D) = a at hm
  have hj0 := Int.emod_nonneg (d - a * p) (by omega : D ≠ 0)
  have hj1 := Int.emod_lt_of_pos (d - a * p) (by omega : 0 < D)
  have hdiv := Int.emod_add_mul_ediv (d - a * p) D
  generalize (d - a * p) / D = z at hdiv
  refine ⟨((d - a * p) % D).toNat, by omega, fun j hj => ?_⟩
  rw [pos_iff h1 h2 h3 h0 hd hp0 hp1]
  unfold orderF
  rw [hm j hj, Int.toNat_of_nonneg hp0]
  have e1 : ((q * D.toNat + j : Nat) : Int) = (j : Int) + D * q := by
    have : ((D.toNat : Nat) : Int) = D := Int.toNat_of_nonneg (by omega)
    rw [Int.natCast_add, Int.natCast_mul, this, Int.mul_comm]; omega
  rw [e1, ← Int.add_assoc, Int.add_mul_emod_self_left]
  constructor
  · intro e
    have hd2 := Int.emod_add_mul_ediv (a * p + (j : Int)) D
    have e2 : (d - a * p) % D = (j : Int) := mod_of (m := -((a * p + (j : Int)) / D)) (by rw [Int.mul_neg]; omega) (by omega) (by omega)
    omega
  · intro e
    have e2 : (j : Int) = (d - a * p) % D := by omega
    exact mod_of (m := -z) (by rw [e2, Int.mul_neg]; omega) h0 hd
/-- In a block of D rows a disk has as many units as there are positions for units. -/
theorem block_units {D R N S L I w d : Int} (q : Nat) (hv : vB D R N S L I w = true) (hq : ((q * D.toNat + D.toNat : Nat) : Int) ≤ N) (h0 : 0 ≤ d) (hd : d < D) :
    cn (fun j => hasU D R N S L I w d (q * D.toNat + j)) D.toNat = (grp D S w * w).toNat := by
  obtain ⟨ok, hw1, hw2⟩ := vB_iff.mp hv
  obtain ⟨h1, h2, h3, h4, h5, h6, h7, h8, _⟩ := okB_iff.mp ok
  have hg := grp_range hv
  have hgw : 0 ≤ grp D S w * w := Int.mul_nonneg hg.1 (by omega)
  have hpos : ∀ j : Nat, 0 ≤ posL (orderL D R ((q * D.toNat + j : Nat) : Int)) d 0 := fun j => (pos_order h1 h2 h3 h0 hd).1
  have hl := cn_list (fun j : Nat => (posL (orderL D R ((q * D.toNat + j : Nat) : Int)) d 0).toNat) D.toNat (List.range (grp D S w * w).toNat) List.nodup_range (fun x hx => by
    have hx' := List.mem_range.mp hx
    obtain ⟨j0, hj0, hj⟩ := block_one q h1 h2 h3 h0 hd (by omega : (0 : Int) ≤ (x : Int)) (by omega)
    refine ⟨j0, hj0, fun k hk => ?_⟩
    rw [← hj k hk]
    have := hpos k
    omega)
  rw [List.length_range] at hl
  rw [← hl]
  refine cn_congr _ (fun j hj => ?_)
  have hrow : rowB D R N S L I ((q * D.toNat + j : Nat) : Int) = true := rowB_iff.mpr ⟨ok, by omega, by omega⟩
  unfold hasU
  refine decide_eq_decide.mpr ?_
  rw [findF_err hrow hv h0 hd, List.mem_range]
  have := hpos j
  omega
theorem all_blocks {D R N S L I w d : Int} (hv : vB D R N S L I w = true) (h0 : 0 ≤ d) (hd : d < D) : ∀ q : Nat, ((q * D.toNat : Nat) : Int) ≤ N → cn (hasU D R N S L I w d) (q * D.toNat) = q * (grp D S w * w).toNat
  | 0, _ => by simp [cn]
  | q + 1, h => by
    have e : (q + 1) * D.toNat = q * D.toNat + D.toNat := Nat.succ_mul q D.toNat
    rw [e] at h ⊢
    rw [cn_add, block_units q hv h h0 hd, all_blocks hv h0 hd q (by omega), Nat.succ_mul]
theorem cn_step (P : Nat → Bool) (m : Nat) : cn P m ≤ cn P (m + 1) ∧ cn P (m + 1) ≤ cn P m + 1 := by
  simp only [cn]; split <;> omega
theorem cn_le (P : Nat → Bool) : ∀ m, cn P m ≤ m
  | 0 => Nat.le_refl _
  | m + 1 => by have := cn_le P m; have := cn_step P m; omega
/-- How many units a disk had up to the row before. -/
def lastU (D R N S L I w d : Int) (i : Nat) : Int := (cn (hasU D R N S L I w d) (i - 1) : Nat)
theorem ev_bal1 {D R N S L I w d : Int} (hv : vB D R N S L I w = true) (h0 : 0 ≤ d) (hd : d < D) (next : Ev (fun k => solventlaw14_LayoutIsBalanced.l0 k w true (d + 1) D R N S L I) true) : ∀ (m i : Nat), (i : Int) + m = N + 1 →
    Ev (fun k => solventlaw14_LayoutIsBalanced.l1 k w true d (lastU D R N S L I w d i) (i : Int) D R N S L I) true
  | 0, i, h => by
    obtain ⟨ok, hw1, hw2⟩ := vB_iff.mp hv
    obtain ⟨h1, h2, h3, h4, h5, h6, h7, h8, _⟩ := okB_iff.mp ok
    refine Ev.step (fun k => by simp only [solventlaw14_LayoutIsBalanced.l1]; rfl) (ev_neg (by omega) ?_)
    rw [w64 (x := d + 1) (by omega) (by omega)]
    exact next
  | m + 1, i, h => by
    obtain ⟨ok, hw1, hw2⟩ := vB_iff.mp hv
    obtain ⟨h1, h2, h3, h4, h5, h6, h7, h8, _⟩ := okB_iff.mp ok
    have hU := ev_lunits D R N S L I w d (i : Int) h6
    rw [unitsF_cn (by omega) (by omega), show ((i : Int)).toNat = i from rfl] at hU
    have hle := cn_le (hasU D R N S L I w d) i
    have hle1 := cn_le (hasU D R N S L I w d) (i - 1)
    have hst : cn (hasU D R N S L I w d) (i - 1) ≤ cn (hasU D R N S L I w d) i ∧ cn (hasU D R N S L I w d) i ≤ cn (hasU D R N S L I w d) (i - 1) + 1 := by
      cases i with
      | zero => simp
      | succ i => exact cn_step _ i
    have hlast : lastU D R N S L I w d i = ((cn (hasU D R N S L I w d) (i - 1) : Nat) : Int) := rfl
    refine Ev.step (fun k => by simp only [solventlaw14_LayoutIsBalanced.l1]; rfl) (ev_pos (by omega) (Ev.bind hU ?_))
    rw [hlast]
    rw [w64 (x := ((cn (hasU D R N S L I w d) (i - 1) : Nat) : Int) + 1) (by omega) (by omega)]
    have more : Ev (fun k => solventlaw14_LayoutIsBalanced.l1 k w true d ((cn (hasU D R N S L I w d) i : Nat) : Int) (wrap64 ((i : Int) + 1)) D R N S L I) true := by
      rw [show wrap64 ((i : Int) + 1) = ((i + 1 : Nat) : Int) by rw [w64 (by omega) (by omega)]; rfl]
      exact ev_bal1 hv h0 hd next m (i + 1) (by omega)
    have hj3 : ∀ b : Bool, b = false → Ev (fun k => solventlaw14_LayoutIsBalanced.j3 k w true d (i : Int) ((cn (hasU D R N S L I w d) i : Nat) : Int) b D R N S L I) true := fun b hb => by
      subst hb
      refine Ev.step (fun k => by simp only [solventlaw14_LayoutIsBalanced.j3]; rfl) (ev_neg (by simp) (ev_neg (by omega) ?_))
      rw [tm (by omega)]
      by_cases hz : (i : Int) % D = 0
      · have hG := ev_lgroups D R N S L I w
        rw [show grpOf (vB D R N S L I w) D S w = grp D S w by unfold grpOf; rw [if_pos hv]] at hG
        refine ev_pos hz (Ev.bind hG (ev_pos ?_ more))
        have hg := grp_range hv
        have hgw : 0 ≤ grp D S w * w := Int.mul_nonneg hg.1 (by omega)
        have hdiv := Int.emod_add_mul_ediv (i : Int) D
        have hq0 : 0 ≤ (i : Int) / D := Int.ediv_nonneg (by omega) (by omega)
        have hq1 : (i : Int) / D ≤ i := Int.ediv_le_self _ (by omega)
        rw [td (by omega), w64 (x := (i : Int) / D) (by omega) (by omega)]
        have hb1 : (i : Int) / D * grp D S w ≤ 4096 * 64 := Int.mul_le_mul (by omega) (by omega) (by omega) (by omega)
        have hb0 : 0 ≤ (i : Int) / D * grp D S w := Int.mul_nonneg hq0 hg.1
        rw [w64 (x := (i : Int) / D * grp D S w) (by omega) (by omega)]
        have hc1 : (i : Int) / D * grp D S w * w ≤ 4096 * 64 * 32 := Int.mul_le_mul hb1 (by omega) (by omega) (by omega)
        have hc0 : 0 ≤ (i : Int) / D * grp D S w * w := Int.mul_nonneg hb0 (by omega)
        rw [w64 (x := (i : Int) / D * grp D S w * w) (by omega) (by omega)]
        obtain ⟨q, hq⟩ := Int.eq_ofNat_of_zero_le hq0
        have hi : i = q * D.toNat := by
          have : ((i : Nat) : Int) = ((q * D.toNat : Nat) : Int) := by
            rw [Int.natCast_mul, Int.toNat_of_nonneg (by omega), Int.mul_comm, ← hq]; omega
          omega
        have hall := all_blocks hv h0 hd q (by rw [← hi]; omega)
        rw [← hi] at hall
        rw [hall, hq, Int.natCast_mul, Int.toNat_of_nonneg hgw, Int.mul_assoc]
      · exact ev_neg hz more
    refine ev_neg (by omega) (ev_neg (by omega) ?_)
    by_cases hi : (i : Int) = 0
    · refine ev_pos hi (hj3 _ ?_)
      have : i = 0 := by omega
      subst this; rfl
    · exact ev_neg hi (hj3 _ rfl)
theorem ev_bal0 {D R N S L I w : Int} (hv : vB D R N S L I w = true) : ∀ (m i : Nat), (i : Int) + m = D → Ev (fun k => solventlaw14_LayoutIsBalanced.l0 k w true (i : Int) D R N S L I) true
  | 0, i, h => Ev.step (fun k => by simp only [solventlaw14_LayoutIsBalanced.l0]; rfl) (ev_neg (by omega) (Ev.now _))
  | m + 1, i, h => by
    obtain ⟨ok, hw1, hw2⟩ := vB_iff.mp hv
    obtain ⟨h1, h2, h3, h4, h5, h6, h7, h8, _⟩ := okB_iff.mp ok
    refine Ev.step (fun k => by simp only [solventlaw14_LayoutIsBalanced.l0]; rfl) (ev_pos (by omega) ?_)
    have := ev_bal1 hv (by omega : 0 ≤ (i : Int)) (by omega) (ev_bal0 hv m (i + 1) (by omega)) (N + 1).toNat 0 (by omega)
    exact this
theorem pure14 (D R N S L I w : Int) (_ : (Lit.int .i64 D).wf = true) (_ : (Lit.int .i64 R).wf = true) (_ : (Lit.int .i64 N).wf = true) (_ : (Lit.int .i64 S).wf = true) (_ : (Lit.int .i64 L).wf = true) (_ : (Lit.int .i64 I).wf = true)
    (_ : (Lit.int .i64 w).wf = true) : ∃ k, solventlaw14_LayoutIsBalanced.f k D R N S L I w = some true := by
  refine Ev.rounds (r := true) ?_
  unfold solventlaw14_LayoutIsBalanced.f
  refine Ev.bind ev_sanity14 (ev_pos rfl (Ev.bind (ev_proper D R N S L I w) ?_))
  cases hp : properB D R N S L I w with
  | false =>
    refine Ev.step (fun k => by simp only [solventlaw14_LayoutIsBalanced.j0]; rfl) (ev_pos (by simp) (Ev.now _))
  | true =>
    obtain ⟨_, hv⟩ := properB_iff.mp hp
    obtain ⟨ok, hw1, hw2⟩ := vB_iff.mp hv
    obtain ⟨h1, _⟩ := okB_iff.mp ok
    refine Ev.step (fun k => by simp only [solventlaw14_LayoutIsBalanced.j0]; rfl) (ev_neg (by simp) ?_)
    exact ev_bal0 hv D.toNat 0 (by omega)
end Go.Proofs.Ytiejibkjhmmpaaa.Q
