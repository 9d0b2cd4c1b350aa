/- DesignBalances in plain words. -/
import Derived.Test.YtiejibkjhmmpaaaM4
import Derived.Test.YtiejibkjhmmpaaaS2
import Derived.Test.YtiejibkjhmmpaaaQF6
namespace Go.Proofs.Ytiejibkjhmmpaaa.Q
open Go.RowKit Go.Proofs.YtiejibkjhmmpaaaW.PrintWords
set_option linter.unusedVariables false
/-- In the rows of a block a disk is at a position just once. -/
theorem row_one {D R d : Int} (q p : Nat) (h1 : 1 ≤ D) (h0 : 0 ≤ d) (hd : d < D) :
    ∃ j0 : Nat, j0 < D.toNat ∧ ∀ j : Nat, j < D.toNat → (orderF D R ((q * D.toNat + j : Nat) : Int) p = d ↔ j = j0) := by
  have hm : ∀ j : Nat, j < D.toNat → mulAt D R ((q * D.toNat + j : Nat) : Int) = mulAt D R ((q : Int) * D) := fun j hj => by
    have e1 : ((q * D.toNat + j : Nat) : Int) = (j : Int) + D * q := by
      have : ((D.toNat : Nat) : Int) = D := Int.toNat_of_nonneg (by omega)
      rw [Int.natCast_add, Int.natCast_mul, this, Int.mul_comm]; omega
    unfold mulAt
    rw [e1, Int.add_mul_ediv_left _ _ (by omega), Int.ediv_eq_zero_of_lt (by omega) (by omega), Int.zero_add, Int.mul_ediv_cancel _ (by omega)]
  generalize mulAt D R ((q : Int) * D) = a at hm
  have hj0 := Int.emod_nonneg (d - a * p) (by omega : D ≠ 0)
  have hj1 := Int.emod_lt_of_pos (d - a * p) (by omega : 0 < D)
  have hdiv := Int.emod_add_mul_ediv (d - a * p) D
  generalize (d - a * p) / D = z at hdiv
  refine ⟨((d - a * p) % D).toNat, by omega, fun j hj => ?_⟩
  unfold orderF
  rw [hm j hj]
  have e1 : ((q * D.toNat + j : Nat) : Int) = (j : Int) + D * q := by
    have : ((D.toNat : Nat) : Int) = D := Int.toNat_of_nonneg (by omega)
    rw [Int.natCast_add, Int.natCast_mul, this, Int.mul_comm]; omega
  rw [e1, ← Int.add_assoc, Int.add_mul_emod_self_left]
  constructor
  · intro e
    have hd2 := Int.emod_add_mul_ediv (a * p + (j : Int)) D
    have e2 : (d - a * p) % D = (j : Int) := mod_of (m := -((a * p + (j : Int)) / D)) (by rw [Int.mul_neg]; omega) (by omega) (by omega)
    omega
  · intro e
    have e2 : (j : Int) = (d - a * p) % D := by omega
    exact mod_of (m := -z) (by rw [e2, Int.mul_neg]; omega) h0 hd
/-- Does row j of block q have the disk i % 64 at the position i / 64? -/
def hasB (D R : Int) (q j i : Nat) : Bool := decide (i / 64 < D.toNat) && decide (orderF D R ((q * D.toNat + j : Nat) : Int) (i / 64) = ((i % 64 : Nat) : Int))
/-- What has been seen when the rows below j, and the positions below p of row j, have been read. -/
def metB (D R : Int) (q j p i : Nat) : Bool := ((List.range j).any fun m => hasB D R q m i) || (decide (i / 64 < p) && hasB D R q j i)
def metL (D R : Int) (q j p : Nat) : List Bool := (List.range 4096).map (metB D R q j p)
theorem metL_len (D R : Int) (q j p : Nat) : (metL D R q j p).length = 4096 := by simp [metL]
theorem rep_range : ∀ (n : Nat) (f : Nat → Bool), (∀ i, f i = false) → List.replicate n false = (List.range n).map f := fun n f h =>
  List.ext_getElem (by rw [List.length_replicate, List.length_map, List.length_range]) (fun i hi hj => by rw [List.getElem_replicate, List.getElem_map, h])
theorem metL_zero (D R : Int) (q : Nat) : List.replicate 4096 false = metL D R q 0 0 := rep_range 4096 _ (fun i => by simp [metB])
theorem metL_row (D R : Int) (q j : Nat) : metL D R q j D.toNat = metL D R q (j + 1) 0 := by
  unfold metL
  refine List.map_congr_left (fun i _ => ?_)
  unfold metB
  rw [List.range_succ, List.any_append]
  simp only [List.any_cons, List.any_nil, Bool.or_false, Nat.not_lt_zero, decide_false, Bool.false_and]
  congr 1
  unfold hasB
  cases decide (i / 64 < D.toNat) <;> simp
theorem metL_rd {D R : Int} {q j p i : Nat} (h : i < 4096) : rdOf false (metL D R q j p) (i : Int) = metB D R q j p i := by
  unfold rdOf metL
  rw [show ((i : Int)).toNat = i from rfl, List.getD_eq_getElem?_getD, List.getElem?_map, List.getElem?_range h]
  rfl
theorem metL_set {D R : Int} {q j p d : Nat} (hp : p < D.toNat) (hd : d < 64) (h : orderF D R ((q * D.toNat + j : Nat) : Int) p = (d : Int)) :
    (metL D R q j p).set (p * 64 + d) true = metL D R q j (p + 1) := by
  refine List.ext_getElem (by simp [metL]) (fun i hi hj => ?_)
  rw [List.getElem_set]
  have e1 : (p * 64 + d) / 64 = p := by omega
  have e2 : (p * 64 + d) % 64 = d := by omega
  by_cases he : p * 64 + d = i
  · rw [if_pos he]
    subst he
    simp only [metL, List.getElem_map, List.getElem_range]
    unfold metB hasB
    rw [e1, e2, decide_eq_true h, decide_eq_true hp, decide_eq_true (by omega : p < p + 1)]
    simp
  · rw [if_neg he]
    simp only [metL, List.getElem_map, List.getElem_range]
    unfold metB
    congr 1
    by_cases hlt : i / 64 < p
    · rw [decide_eq_true hlt, decide_eq_true (by omega : i / 64 < p + 1)]
    · rw [decide_eq_false hlt, Bool.false_and]
      by_cases hq : i / 64 = p
      · have hne : ¬ orderF D R ((q * D.toNat + j : Nat) : Int) p = ((i % 64 : Nat) : Int) := fun e => by
          rw [h] at e
          have : d = i % 64 := by omega
          omega
        unfold hasB
        rw [hq, decide_eq_false hne]
        simp
      · rw [decide_eq_false (by omega : ¬ i / 64 < p + 1), Bool.false_and]
theorem metB_new {D R : Int} {q j p d : Nat} (h1 : 1 ≤ D) (hp : p < D.toNat) (hD : D ≤ 64) (hj : j < D.toNat) (hd : d < D.toNat) (h : orderF D R ((q * D.toNat + j : Nat) : Int) p = (d : Int)) :
    metB D R q j p (p * 64 + d) = false := by
  have e1 : (p * 64 + d) / 64 = p := by omega
  have e2 : (p * 64 + d) % 64 = d := by omega
  obtain ⟨j0, hj0, hone⟩ := @row_one D R (d : Int) q p h1 (by omega) (by omega)
  have hjj := (hone j hj).mp h
  unfold metB
  rw [Bool.or_eq_false_iff]
  constructor
  · rw [List.any_eq_false]
    intro m hm hc
    have hm' := List.mem_range.mp hm
    unfold hasB at hc
    rw [Bool.and_eq_true, e1, e2, decide_eq_true_iff, decide_eq_true_iff] at hc
    have := (hone m (by omega)).mp hc.2
    omega
  · rw [e1, decide_eq_false (by omega : ¬ p < p), Bool.false_and]
theorem ev_bal1 {D R N S L I : Int} {q j : Nat} (ok : okB D R N S L I = true) (hj : j < D.toNat) (next : Ev (fun k => solventlaw13_DesignBalances.l0 k (q : Int) (metL D R q (j + 1) 0) D ((j + 1 : Nat) : Int) D R N S L I) true) : ∀ (m p : Nat), p + m = D.toNat →
    Ev (fun k => solventlaw13_DesignBalances.l1 k (q : Int) (metL D R q j p) (orderL D R ((q * D.toNat + j : Nat) : Int)) D (j : Int) D (p : Int) D R N S L I) true
  | 0, p, h => by
    obtain ⟨h1, h2, h3, h4, h5, h6, _⟩ := okB_iff.mp ok
    refine Ev.step (fun k => by simp only [solventlaw13_DesignBalances.l1]; rfl) (ev_neg (by omega) ?_)
    rw [show wrap64 ((j : Int) + 1) = ((j + 1 : Nat) : Int) by rw [w64 (by omega) (by omega)]; rfl, show p = D.toNat by omega, metL_row]
    exact next
  | m + 1, p, h => by
    obtain ⟨h1, h2, h3, h4, h5, h6, _⟩ := okB_iff.mp ok
    have hl := @orderL_len D R ((q * D.toNat + j : Nat) : Int) (by omega)
    have hb := @orderF_bounds D R ((q * D.toNat + j : Nat) : Int) h1 h3 h2 p
    have hrd := @rd_order D R ((q * D.toNat + j : Nat) : Int) (p : Int) (by omega) (by omega)
    rw [show ((p : Int)).toNat = p from rfl] at hrd
    obtain ⟨d, hd⟩ := Int.eq_ofNat_of_zero_le hb.1
    have hd1 : d < D.toNat := by omega
    have hlen := metL_len D R q j p
    refine Ev.step (fun k => by simp only [solventlaw13_DesignBalances.l1]; rfl) (ev_pos (by omega) (ev_pos (by omega) (ev_pos (by omega) ?_)))
    rw [hrd, hd]
    refine ev_neg (by omega) (ev_neg (by omega) ?_)
    rw [w64 (x := (p : Int) * 64) (by omega) (by omega), w64 (x := (p : Int) * 64 + (d : Int)) (by omega) (by omega), show (p : Int) * 64 + (d : Int) = ((p * 64 + d : Nat) : Int) by omega]
    refine ev_pos (by omega) (ev_pos (by omega) (ev_neg ?_ ?_))
    · rw [metL_rd (by omega), metB_new h1 (by omega) h2 hj hd1 hd]; simp
    · rw [show ((p * 64 + d : Nat) : Int).toNat = p * 64 + d from rfl, metL_set (by omega) (by omega) hd, show wrap64 ((p : Int) + 1) = ((p + 1 : Nat) : Int) by rw [w64 (by omega) (by omega)]; rfl]
      exact ev_bal1 ok hj next m (p + 1) (by omega)
theorem ev_bal0 {D R N S L I : Int} {q : Nat} (ok : okB D R N S L I = true) (hq : q ≤ 4096) (hN : (((q + 1) * D.toNat : Nat) : Int) ≤ N) : ∀ (m j : Nat), j + m = D.toNat →
    Ev (fun k => solventlaw13_DesignBalances.l0 k (q : Int) (metL D R q j 0) D (j : Int) D R N S L I) true
  | 0, j, h => by
    refine Ev.step (fun k => by simp only [solventlaw13_DesignBalances.l0]; rfl) (ev_neg (by omega) ?_)
    exact Ev.bind ev_sanity13 (Ev.now _)
  | m + 1, j, h => by
    obtain ⟨h1, h2, h3, h4, h5, h6, _⟩ := okB_iff.mp ok
    rw [Nat.succ_mul] at hN
    have hqD : q * D.toNat ≤ 4096 * 64 := Nat.mul_le_mul hq (by omega)
    have e0 : (q : Int) * D = ((q * D.toNat : Nat) : Int) := by rw [Int.natCast_mul, Int.toNat_of_nonneg (by omega)]
    have hr : rowB D R N S L I ((q * D.toNat + j : Nat) : Int) = true := rowB_iff.mpr ⟨ok, by omega, by omega⟩
    have ho := ev_order D R N S L I ((q * D.toNat + j : Nat) : Int)
    rw [if_pos hr] at ho
    have hl := @orderL_len D R ((q * D.toNat + j : Nat) : Int) (by omega)
    have next := ev_bal0 ok hq (by rw [Nat.succ_mul]; exact hN) m (j + 1) (by omega)
    have e := ev_bal1 ok (by omega) next D.toNat 0 (by omega)
    refine Ev.step (fun k => by simp only [solventlaw13_DesignBalances.l0]; rfl) (ev_pos (by omega) ?_)
    rw [e0, w64 (x := ((q * D.toNat : Nat) : Int)) (by omega) (by omega), w64 (x := ((q * D.toNat : Nat) : Int) + (j : Int)) (by omega) (by omega), show ((q * D.toNat : Nat) : Int) + (j : Int) = ((q * D.toNat + j : Nat) : Int) from rfl]
    refine Ev.bind ho (ev_pos hl ?_)
    rw [hl]
    exact e
theorem pure6 (D R N S L I b : Int) (_ : (Lit.int .i64 D).wf = true) (_ : (Lit.int .i64 R).wf = true) (_ : (Lit.int .i64 N).wf = true) (_ : (Lit.int .i64 S).wf = true) (_ : (Lit.int .i64 L).wf = true) (_ : (Lit.int .i64 I).wf = true)
    (_ : (Lit.int .i64 b).wf = true) : ∃ k, solventlaw13_DesignBalances.f k D R N S L I b = some true := by
  refine Ev.rounds (r := true) ?_
  unfold solventlaw13_DesignBalances.f
  have ht : ∀ c : Bool, c = true → Ev (fun k => solventlaw13_DesignBalances.j0 k b c D R N S L I) true := fun c hc => by
    subst hc
    refine Ev.step (fun k => by simp only [solventlaw13_DesignBalances.j0]; rfl) ?_
    exact ev_pos trivial (Ev.bind ev_sanity13 (Ev.now _))
  refine Ev.bind (ev_valid13 D R N S L I) ?_
  by_cases ok : okB D R N S L I = true
  · obtain ⟨h1, h2, h3, h4, h5, h6, _⟩ := okB_iff.mp ok
    refine ev_pos ok ?_
    by_cases h0 : b < 0
    · exact ev_pos h0 (ht _ rfl)
    refine ev_neg h0 ?_
    by_cases h9 : b > 4096
    · exact ev_pos h9 (ht _ rfl)
    refine ev_neg h9 ?_
    obtain ⟨q, rfl⟩ := Int.eq_ofNat_of_zero_le (by omega : 0 ≤ b)
    have hqD : (q + 1) * D.toNat ≤ 4097 * 64 := Nat.mul_le_mul (by omega) (by omega)
    have e0 : wrap64 (wrap64 ((q : Int) + 1) * D) = (((q + 1) * D.toNat : Nat) : Int) := by
      rw [w64 (x := (q : Int) + 1) (by omega) (by omega)]
      have : ((q : Int) + 1) * D = (((q + 1) * D.toNat : Nat) : Int) := by
        rw [Int.natCast_mul, Int.toNat_of_nonneg (by omega)]; rfl
      rw [this, w64 (by omega) (by omega)]
    rw [e0]
    clear e0
    by_cases hn : (((q + 1) * D.toNat : Nat) : Int) > N
    · exact ht _ (decide_eq_true hn)
    · rw [decide_eq_false hn]
      refine Ev.step (fun k => by simp only [solventlaw13_DesignBalances.j0]; rfl) ?_
      refine ev_neg (by simp) (ev_pos (by omega) ?_)
      rw [metL_zero D R q]
      exact ev_bal0 ok (by omega) (by omega) D.toNat 0 (by omega)
  · exact ev_neg ok (ht _ rfl)
end Go.Proofs.Ytiejibkjhmmpaaa.Q
