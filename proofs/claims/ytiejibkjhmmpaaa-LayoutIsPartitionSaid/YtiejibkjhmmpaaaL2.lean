/- Counting, and where a disk is: plain words for chapter 14. -/
import Derived.Test.YtiejibkjhmmpaaaL1
import Derived.Test.YtiejibkjhmmpaaaM4
namespace Go.Proofs.Ytiejibkjhmmpaaa.Q
open Go.RowKit Go.Proofs.YtiejibkjhmmpaaaW.PrintWords
set_option linter.unusedVariables false
/-- How many of the numbers below m have P. -/
def cn (P : Nat → Bool) : Nat → Nat
  | 0 => 0
  | m + 1 => cn P m + if P m then 1 else 0
theorem cn_congr {P Q : Nat → Bool} : ∀ (m : Nat), (∀ k, k < m → P k = Q k) → cn P m = cn Q m
  | 0, _ => rfl
  | m + 1, h => by simp only [cn]; rw [cn_congr m (fun k hk => h k (by omega)), h m (by omega)]
theorem cn_add (P : Nat → Bool) (a : Nat) : ∀ b, cn P (a + b) = cn P a + cn (fun j => P (a + j)) b
  | 0 => rfl
  | b + 1 => by
    have e : cn P (a + (b + 1)) = cn P (a + b) + if P (a + b) then 1 else 0 := rfl
    rw [e, cn_add P a b]
    simp only [cn]; omega
theorem cn_none {P : Nat → Bool} : ∀ (m : Nat), (∀ k, k < m → P k = false) → cn P m = 0
  | 0, _ => rfl
  | m + 1, h => by simp only [cn]; rw [cn_none m (fun k hk => h k (by omega)), h m (by omega)]; rfl
theorem cn_one {P : Nat → Bool} {k0 : Nat} : ∀ (m : Nat), k0 < m → (∀ k, k < m → (P k = true ↔ k = k0)) → cn P m = 1
  | 0, h, _ => absurd h (Nat.not_lt_zero _)
  | m + 1, h, hp => by
    simp only [cn]
    by_cases he : m = k0
    · rw [cn_none m (fun k hk => Bool.eq_false_iff.mpr (fun e => by have := (hp k (by omega)).mp e; omega)), (hp m (by omega)).mpr he]; rfl
    · have hf : P m = false := Bool.eq_false_iff.mpr (fun e => he ((hp m (by omega)).mp e))
      rw [cn_one m (by omega) (fun k hk => hp k (by omega)), hf]; rfl
theorem cn_or {P Q : Nat → Bool} : ∀ (m : Nat), (∀ k, k < m → ¬ (P k = true ∧ Q k = true)) → cn (fun k => P k || Q k) m = cn P m + cn Q m
  | 0, _ => rfl
  | m + 1, h => by
    simp only [cn]
    rw [cn_or m (fun k hk => h k (by omega))]
    have hm := h m (by omega)
    by_cases hP : P m = true
    · have hQ : Q m = false := Bool.eq_false_iff.mpr (fun e => hm ⟨hP, e⟩)
      simp [hP, hQ]; omega
    · have hP' : P m = false := Bool.eq_false_iff.mpr hP
      simp [hP']; omega
/-- A list, each element of which is met exactly once. -/
theorem cn_list {β : Type} [DecidableEq β] (f : Nat → β) (m : Nat) : ∀ (l : List β), l.Nodup → (∀ x, x ∈ l → ∃ k0, k0 < m ∧ ∀ k, k < m → (f k = x ↔ k = k0)) → cn (fun k => decide (f k ∈ l)) m = l.length
  | [], _, _ => cn_none m (fun k _ => by simp)
  | x :: l, hn, h => by
    obtain ⟨hx, hl⟩ := List.nodup_cons.mp hn
    obtain ⟨k0, hk0, hk⟩ := h x List.mem_cons_self
    have e : cn (fun k => decide (f k ∈ x :: l)) m = cn (fun k => decide (f k = x) || decide (f k ∈ l)) m := cn_congr m (fun k _ => by simp)
    rw [e, cn_or m (fun k _ he => hx (by have h1 := of_decide_eq_true he.1; have h2 := of_decide_eq_true he.2; rw [← h1]; exact h2)),
      cn_one m hk0 (fun k hkm => by rw [decide_eq_true_iff]; exact hk k hkm), cn_list f m l hl (fun y hy => h y (List.mem_cons_of_mem _ hy)), List.length_cons]
    omega
/-- The position of a disk, by the order's own formula. -/
theorem pos_iff {D R row d p : Int} (h1 : 1 ≤ D) (h2 : D ≤ 64) (h3 : 1 ≤ R) (h0 : 0 ≤ d) (hd : d < D) (hp0 : 0 ≤ p) (hp1 : p < D) : posL (orderL D R row) d 0 = p ↔ orderF D R row p.toNat = d := by
  obtain ⟨a, b, c⟩ := pos_order (row := row) h1 h2 h3 h0 hd
  rw [rd_order a b] at c
  constructor
  · intro e; rw [← e]; exact c
  · intro e
    have := order_one (row := row) h1 h2 h3 (by omega) (by omega) (c.trans e.symm)
    omega
theorem pos_bad {D R row d : Int} (h1 : 1 ≤ D) (h2 : D ≤ 64) (h3 : 1 ≤ R) (h : ¬ (0 ≤ d ∧ d < D)) : posL (orderL D R row) d 0 = -1 := by
  refine posL_none _ _ _ (fun hm => ?_)
  obtain ⟨p, hp, e⟩ := List.mem_map.mp hm
  have := @orderF_bounds D R row h1 h3 h2 p
  rw [e] at this
  exact h this
/-- Find, for a disk, a row and a width that are valid. -/
theorem findF_ok {D R N S L I row w d : Int} (hr : rowB D R N S L I row = true) (hv : vB D R N S L I w = true) (h0 : 0 ≤ d) (hd : d < D) :
    findF D R N S L I row w d = if posL (orderL D R row) d 0 ≥ grp D S w * w then (0, 0, 0, 12) else (row, posL (orderL D R row) d 0 / w, posL (orderL D R row) d 0 % w, 0) := by
  obtain ⟨ok, _, _⟩ := rowB_iff.mp hr
  obtain ⟨h1, h2, h3, _⟩ := okB_iff.mp ok
  have := (pos_order (row := row) h1 h2 h3 h0 hd).1
  unfold findF
  rw [if_pos ⟨hr, hv, this⟩]
theorem findF_err {D R N S L I row w d : Int} (hr : rowB D R N S L I row = true) (hv : vB D R N S L I w = true) (h0 : 0 ≤ d) (hd : d < D) :
    (findF D R N S L I row w d).2.2.2 = 0 ↔ posL (orderL D R row) d 0 < grp D S w * w := by
  rw [findF_ok hr hv h0 hd]
  by_cases h : posL (orderL D R row) d 0 ≥ grp D S w * w
  · rw [if_pos h]; simp; omega
  · rw [if_neg h]; simp; omega
theorem units_cn (D R N S L I w d : Int) : ∀ (m : Nat) (i : Int), unitsFrom D R N S L I w d m i = (cn (fun j => decide ((findF D R N S L I (i + j) w d).2.2.2 = 0)) m : Nat)
  | 0, i => rfl
  | m + 1, i => by
    simp only [unitsFrom]
    rw [units_cn D R N S L I w d m (i + 1), Nat.add_comm m 1, cn_add _ 1 m]
    have e : (fun j : Nat => decide ((findF D R N S L I (i + ((1 + j : Nat) : Int)) w d).2.2.2 = 0)) = fun j : Nat => decide ((findF D R N S L I (i + 1 + (j : Int)) w d).2.2.2 = 0) := by
      funext j
      rw [show i + ((1 + j : Nat) : Int) = i + 1 + (j : Int) by omega]
    rw [e]
    simp only [cn]
    by_cases h : (findF D R N S L I i w d).2.2.2 = 0
    · simp [h]
    · simp [h]
end Go.Proofs.Ytiejibkjhmmpaaa.Q
