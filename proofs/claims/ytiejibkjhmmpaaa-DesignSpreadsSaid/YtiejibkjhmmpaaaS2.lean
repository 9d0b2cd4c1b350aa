/- The orders, positions and racks of chapter 13, in plain words; lists held against each other. -/
import Derived.Test.YtiejibkjhmmpaaaS1
import Derived.Test.YtiejibkjhmmpaaaQS
namespace Go.Proofs.Ytiejibkjhmmpaaa.Q
open Go.RowKit Go.Proofs.YtiejibkjhmmpaaaW.PrintWords
set_option linter.unusedVariables false

theorem td {a b : Int} (ha : 0 ≤ a) : Int.tdiv a b = a / b := Int.tdiv_eq_ediv_of_nonneg ha
theorem tm {a b : Int} (ha : 0 ≤ a) : Int.tmod a b = a % b := Int.tmod_eq_emod_of_nonneg ha
/-- The multiplier of a row. -/
def mulAt (D R row : Int) : Int := rd (mulL D R) ((row / D) % ((mulL D R).length : Int))
theorem rd_mem {l : List Int} {i : Int} (h0 : 0 ≤ i) (h : i < l.length) : rd l i ∈ l := by
  unfold rd
  have hi : i.toNat < l.length := by omega
  rw [List.getD_eq_getElem?_getD, List.getElem?_eq_getElem hi]
  exact List.getElem_mem hi
theorem mulL_mem {D R x : Int} (h1 : 1 ≤ D) (h2 : 1 ≤ R) (hx : x ∈ mulL D R) : 1 ≤ x ∧ (x < D ∨ x = 1) ∧ (x - 1) % R = 0 ∧ Int.gcd x D = 1 := by
  unfold mulL at hx
  rcases List.mem_cons.mp hx with rfl | hx
  · exact ⟨Int.le_refl _, .inr rfl, by simp, by simp⟩
  · obtain ⟨hs, hg⟩ := List.mem_filter.mp hx
    obtain ⟨h3, h4, h5⟩ := steps_mem h2 _ _ _ hs
    refine ⟨by omega, .inl h4, ?_, by simpa using hg⟩
    have : x - 1 = x - (1 + R) + R := by omega
    rw [this, Int.add_emod_right]; exact h5
theorem mulIdx (D R row : Int) : 0 ≤ (row / D) % ((mulL D R).length : Int) ∧ (row / D) % ((mulL D R).length : Int) < (mulL D R).length := by
  have h := (mulL_len D R).1
  exact ⟨Int.emod_nonneg _ (by omega), Int.emod_lt_of_pos _ (by omega)⟩
theorem mulAt_mem (D R row : Int) : mulAt D R row ∈ mulL D R := rd_mem (mulIdx D R row).1 (mulIdx D R row).2
theorem mulAt_range {D R : Int} (row : Int) (h1 : 1 ≤ D) (h2 : 1 ≤ R) (h3 : D ≤ 64) : 1 ≤ mulAt D R row ∧ mulAt D R row ≤ 64 := by
  obtain ⟨h4, h5, _⟩ := mulL_mem h1 h2 (mulAt_mem D R row)
  omega
/-- THE ORDER OF A ROW. -/
def orderF (D R row : Int) (p : Nat) : Int := (mulAt D R row * (p : Int) + row) % D
def orderL (D R row : Int) : List Int := (List.range D.toNat).map (orderF D R row)
def rowB (D R N S L I row : Int) : Bool := okB D R N S L I && decide (0 ≤ row ∧ row < N)
theorem rowB_iff {D R N S L I row : Int} : rowB D R N S L I row = true ↔ okB D R N S L I = true ∧ 0 ≤ row ∧ row < N := by
  unfold rowB; simp [Bool.and_eq_true]
theorem ev_rule (D R N S L I row : Int) : Ev (fun k => design_rule.f k D R N S L I row) (if rowB D R N S L I row then (mulAt D R row, row % D, true) else (0, 0, false)) := by
  unfold design_rule.f
  refine Ev.bind (ev_mul D R N S L I) ?_
  cases ok : okB D R N S L I with
  | false =>
    have : rowB D R N S L I row = false := by simp [rowB, ok]
    rw [this]
    exact ev_pos (by simp) (Ev.now _)
  | true =>
    have hl := mulL_len D R
    have hx := mulIdx D R row
    obtain ⟨h1, h2, h3, h4, h5, h6, _⟩ := okB_iff.mp ok
    rw [if_pos rfl]
    refine ev_neg (by omega) ?_
    by_cases hr0 : row < 0
    · have : rowB D R N S L I row = false := Bool.eq_false_iff.mpr (fun h => by have := rowB_iff.mp h; omega)
      rw [this]
      exact ev_pos hr0 (Ev.now _)
    · refine ev_neg hr0 ?_
      by_cases hr1 : row ≥ N
      · have : rowB D R N S L I row = false := Bool.eq_false_iff.mpr (fun h => by have := rowB_iff.mp h; omega)
        rw [this]
        exact ev_pos hr1 (Ev.now _)
      · have hb : rowB D R N S L I row = true := rowB_iff.mpr ⟨ok, by omega, by omega⟩
        have hd0 : 0 ≤ row / D := Int.ediv_nonneg (by omega) (by omega)
        have hd1 : row / D ≤ row := Int.ediv_le_self _ (by omega)
        rw [hb, td (by omega), tm (by omega : 0 ≤ row), w64 (by omega) (by omega), tm hd0]
        exact ev_neg hr1 (ev_neg (by omega) (ev_pos hx.1 (ev_pos hx.2 (Ev.now _))))
theorem orderF_bounds {D R : Int} {row : Int} (h1 : 1 ≤ D) (h2 : 1 ≤ R) (h3 : D ≤ 64) (p : Nat) : 0 ≤ orderF D R row p ∧ orderF D R row p < D := by
  unfold orderF
  exact ⟨Int.emod_nonneg _ (by omega), Int.emod_lt_of_pos _ (by omega)⟩
/-- A row that is filled from the left. -/
theorem set_fill (f : Nat → Int) (i m : Nat) (v : Int) (hv : v = f i) : ((List.range i).map f ++ List.replicate (m + 1) 0).set i v = (List.range (i + 1)).map f ++ List.replicate m 0 := by
  rw [List.set_append_right _ _ (by simp)]
  simp [List.replicate_succ, List.range_succ, hv]
theorem ev_ol0 {D R : Int} (N S L I row : Int) (h1 : 1 ≤ D) (h3 : D ≤ 64) (h2 : 1 ≤ R) (hr : 0 ≤ row) : ∀ (m i : Nat), i + m = D.toNat →
    Ev (fun k => design_Order.l0 k (mulAt D R row) (row % D) ((List.range i).map (orderF D R row) ++ List.replicate m 0) D (i : Int) D R N S L I) (orderL D R row)
  | 0, i, h => by
    refine Ev.step (fun k => rfl) ?_
    refine ev_neg (by omega) (ev_eq (Ev.now _) ?_)
    have : i = D.toNat := by omega
    simp [orderL, this]
  | m + 1, i, h => by
    refine Ev.step (fun k => rfl) ?_
    refine ev_pos (by omega) (ev_neg (by omega) (ev_pos (by omega) (ev_pos (by simp; omega) ?_)))
    have ha := mulAt_range row h1 h2 h3
    have hb0 : 0 ≤ row % D := Int.emod_nonneg _ (by omega)
    have hb1 : row % D < D := Int.emod_lt_of_pos _ (by omega)
    have hp0 : 0 ≤ mulAt D R row * (i : Int) := Int.mul_nonneg (by omega) (by omega)
    have hp1 : mulAt D R row * (i : Int) ≤ 64 * 64 := Int.mul_le_mul ha.2 (by omega) (by omega) (by omega)
    have hv : Int.tmod (wrap64 (wrap64 (mulAt D R row * (i : Int)) + row % D)) D = orderF D R row i := by
      rw [w64 (x := mulAt D R row * (i : Int)) (by omega) (by omega), w64 (by omega) (by omega), tm (by omega)]
      unfold orderF
      rw [Int.add_emod, Int.emod_emod, ← Int.add_emod]
    have hn : ((i : Int)).toNat = i := rfl
    rw [hn, set_fill _ i m _ hv, show wrap64 ((i : Int) + 1) = ((i + 1 : Nat) : Int) by rw [w64 (by omega) (by omega)]; rfl]
    exact ev_ol0 N S L I row h1 h3 h2 hr m (i + 1) (by omega)
theorem ev_order (D R N S L I row : Int) : Ev (fun k => design_Order.f k D R N S L I row) (if rowB D R N S L I row then orderL D R row else []) := by
  unfold design_Order.f
  refine Ev.bind (ev_rule D R N S L I row) ?_
  cases hb : rowB D R N S L I row with
  | false => exact ev_neg (by simp) (Ev.now _)
  | true =>
    obtain ⟨ok, h0, h9⟩ := rowB_iff.mp hb
    obtain ⟨h1, h2, h3, h4, h5, h6, _⟩ := okB_iff.mp ok
    refine ev_pos rfl (ev_pos (by omega) (ev_pos (by omega) ?_))
    show Ev (fun n => design_Order.l0 n (mulAt D R row) (row % D) (List.replicate D.toNat 0) ((List.replicate D.toNat (0 : Int)).length : Int) 0 D R N S L I) (orderL D R row)
    rw [List.length_replicate, Int.toNat_of_nonneg (by omega)]
    exact ev_ol0 N S L I row h1 h2 h3 h0 D.toNat 0 (by omega)
theorem ev_rol0 {D R : Int} (N S L I row : Int) (h1 : 1 ≤ D) (h3 : D ≤ 64) (h2 : 1 ≤ R) (hr : 0 ≤ row) (hr1 : row ≤ 4096) : ∀ (m i : Nat), i + m = D.toNat →
    Ev (fun k => solventref13_Order.l0 k row (mulAt D R row) ((List.range i).map (orderF D R row)) (i : Int) D R N S L I) (orderL D R row)
  | 0, i, h => by
    refine Ev.step (fun k => by simp only [solventref13_Order.l0]; rfl) ?_
    refine ev_neg (by omega) (ev_eq (Ev.now _) ?_)
    have : i = D.toNat := by omega
    simp [orderL, this]
  | m + 1, i, h => by
    refine Ev.step (fun k => by simp only [solventref13_Order.l0]; rfl) ?_
    refine ev_pos (by omega) (ev_neg (by omega) (ev_pos (by simp; omega) ?_))
    have ha := mulAt_range row h1 h2 h3
    have hp0 : 0 ≤ mulAt D R row * (i : Int) := Int.mul_nonneg (by omega) (by omega)
    have hp1 : mulAt D R row * (i : Int) ≤ 64 * 64 := Int.mul_le_mul ha.2 (by omega) (by omega) (by omega)
    have hv : Int.tmod (wrap64 (wrap64 (mulAt D R row * (i : Int)) + row)) D = orderF D R row i := by
      rw [w64 (x := mulAt D R row * (i : Int)) (by omega) (by omega), w64 (by omega) (by omega), tm (by omega)]
      rfl
    rw [hv, show wrap64 ((i : Int) + 1) = ((i + 1 : Nat) : Int) by rw [w64 (by omega) (by omega)]; rfl]
    refine ev_eq (?_ : Ev (fun k => solventref13_Order.l0 k row (mulAt D R row) ((List.range i).map (orderF D R row) ++ [orderF D R row i]) ((i + 1 : Nat) : Int) D R N S L I) _) rfl
    have e : (List.range i).map (orderF D R row) ++ [orderF D R row i] = (List.range (i + 1)).map (orderF D R row) := by simp [List.range_succ]
    rw [e]
    exact ev_rol0 N S L I row h1 h3 h2 hr hr1 m (i + 1) (by omega)
theorem ev_rorder (D R N S L I row : Int) : Ev (fun k => solventref13_Order.f k D R N S L I row) (if rowB D R N S L I row then orderL D R row else []) := by
  unfold solventref13_Order.f
  refine Ev.bind (ev_rmul D R N S L I) ?_
  cases ok : okB D R N S L I with
  | false =>
    have : rowB D R N S L I row = false := by simp [rowB, ok]
    rw [this]
    refine ev_pos (by simp) ?_
    refine Ev.step (fun k => by simp only [solventref13_Order.j0]; rfl) ?_
    exact ev_pos trivial (Ev.now _)
  | true =>
    have hl := mulL_len D R
    have hx := mulIdx D R row
    obtain ⟨h1, h2, h3, h4, h5, h6, _⟩ := okB_iff.mp ok
    rw [if_pos rfl, w64 (by omega) (by omega)]
    refine ev_neg (by omega) ?_
    rw [in_eq]
    refine ev_some (Ev.step (fun k => by simp only [solventref13_Order.j0]; rfl) ?_)
    by_cases hr : 0 ≤ row ∧ row < N
    · have hb : rowB D R N S L I row = true := rowB_iff.mpr ⟨ok, hr⟩
      have hd0 : 0 ≤ row / D := Int.ediv_nonneg (by omega) (by omega)
      have hd1 : row / D ≤ row := Int.ediv_le_self _ (by omega)
      rw [hb, td (by omega), w64 (by omega) (by omega), tm hd0, decide_eq_true (by omega : 0 ≤ row ∧ row ≤ N - 1)]
      exact ev_neg (by decide) (ev_neg (by omega) (ev_neg (by omega) (ev_pos hx.1 (ev_pos hx.2 (ev_rol0 N S L I row h1 h2 h3 hr.1 (by omega) D.toNat 0 (by omega))))))
    · have hb : rowB D R N S L I row = false := Bool.eq_false_iff.mpr (fun h => by have := rowB_iff.mp h; omega)
      rw [hb, decide_eq_false (by omega)]
      exact ev_pos rfl (Ev.now _)
theorem orderL_len {D R row : Int} (h : 0 ≤ D) : ((orderL D R row).length : Int) = D := by
  unfold orderL; simp; omega
theorem orderL_length (D R row : Int) : (orderL D R row).length = D.toNat := by simp [orderL]
theorem rd_order {D R row p : Int} (h0 : 0 ≤ p) (h : p < D) : rd (orderL D R row) p = orderF D R row p.toNat := by
  unfold rd orderL
  rw [List.getD_eq_getElem?_getD, List.getElem?_map, List.getElem?_range (by omega)]
  rfl

/-! the position of an element -/
def posL : List Int → Int → Int → Int
  | [], _, _ => -1
  | x :: xs, d, i => if d = x then i else posL xs d (i + 1)
theorem rd_drop {l : List Int} {i : Nat} (h : i < l.length) : l.drop i = rd l (i : Int) :: l.drop (i + 1) := by
  rw [List.drop_eq_getElem_cons h]
  congr 1
  unfold rd
  rw [List.getD_eq_getElem?_getD, show ((i : Int)).toNat = i from rfl, List.getElem?_eq_getElem h]; rfl
theorem ev_idx (l : List Int) (d : Int) (hl : l.length ≤ 1000) : ∀ (m i : Nat), i + m = l.length → Ev (fun k => slices_Index_int_int.l0 k l d (l.length : Int) (i : Int)) (posL (l.drop i) d i)
  | 0, i, h => by
    refine Ev.step (fun k => rfl) ?_
    rw [List.drop_of_length_le (by omega)]
    exact ev_neg (by omega) (Ev.now _)
  | m + 1, i, h => by
    refine Ev.step (fun k => rfl) ?_
    rw [rd_drop (by omega)]
    refine ev_pos (by omega) (ev_pos (by omega) (ev_pos (by omega) ?_))
    by_cases he : d = rd l (i : Int)
    · refine ev_pos he (ev_eq (Ev.now _) ?_)
      simp only [posL]; rw [if_pos he]
    · refine ev_neg he ?_
      simp only [posL]; rw [if_neg he, show wrap64 ((i : Int) + 1) = ((i + 1 : Nat) : Int) by rw [w64 (by omega) (by omega)]; rfl]
      exact ev_idx l d hl m (i + 1) (by omega)
theorem ev_index (l : List Int) (d : Int) (hl : l.length ≤ 1000) : Ev (fun k => slices_Index_int_int.f k l d) (posL l d 0) := ev_idx l d hl l.length 0 (by omega)
theorem ev_rpl0 (l : List Int) (d : Int) (hl : l.length ≤ 1000) : ∀ (m i : Nat), i + m = l.length → Ev (fun k => solventref13_Position.l0 k d l (i : Int)) (posL (l.drop i) d i)
  | 0, i, h => by
    refine Ev.step (fun k => rfl) ?_
    rw [List.drop_of_length_le (by omega)]
    exact ev_neg (by omega) (Ev.now _)
  | m + 1, i, h => by
    refine Ev.step (fun k => rfl) ?_
    rw [rd_drop (by omega)]
    refine ev_pos (by omega) (ev_pos (by omega) ?_)
    by_cases he : rd l (i : Int) = d
    · refine ev_pos he (ev_eq (Ev.now _) ?_)
      simp only [posL]; rw [if_pos he.symm]
    · refine ev_neg he ?_
      simp only [posL]; rw [if_neg (fun h => he h.symm), show wrap64 ((i : Int) + 1) = ((i + 1 : Nat) : Int) by rw [w64 (by omega) (by omega)]; rfl]
      exact ev_rpl0 l d hl m (i + 1) (by omega)
def ordOf (b : Bool) (D R row : Int) : List Int := if b then orderL D R row else []
theorem ordOf_len {D R N S L I row : Int} : (ordOf (rowB D R N S L I row) D R row).length ≤ 64 := by
  cases hb : rowB D R N S L I row with
  | false => simp [ordOf]
  | true =>
    obtain ⟨ok, _⟩ := rowB_iff.mp hb
    have := okB_iff.mp ok
    simp only [ordOf, if_pos, orderL_length]; omega
theorem ev_pos_design (D R N S L I row d : Int) : Ev (fun k => design_Position.f k D R N S L I row d) (posL (ordOf (rowB D R N S L I row) D R row) d 0) := by
  unfold design_Position.f
  refine Ev.bind (ev_order D R N S L I row) (Ev.bind (ev_index _ d ?_) (Ev.now _))
  have := @ordOf_len D R N S L I row
  unfold ordOf at this
  omega
theorem ev_pos_ref (D R N S L I row d : Int) : Ev (fun k => solventref13_Position.f k D R N S L I row d) (posL (ordOf (rowB D R N S L I row) D R row) d 0) := by
  unfold solventref13_Position.f
  refine Ev.bind (ev_rorder D R N S L I row) (ev_rpl0 _ d ?_ _ 0 (Nat.zero_add _))
  have := @ordOf_len D R N S L I row
  unfold ordOf at this
  omega
/-- The rack of the disk at a position. -/
theorem rack_eq {D R row : Int} (h1 : 1 ≤ D) (h2 : 1 ≤ R) (h5 : D % R = 0) (p : Int) (h0 : 0 ≤ p) (h : p < D) : orderF D R row p.toNat % R = (p + row % D) % R := by
  obtain ⟨_, _, h8, _⟩ := mulL_mem h1 h2 (mulAt_mem D R row)
  have hd : R ∣ D := Int.dvd_of_emod_eq_zero h5
  unfold orderF
  rw [Int.emod_emod_of_dvd _ hd, show ((p.toNat : Nat) : Int) = p from Int.toNat_of_nonneg h0]
  have e1 : mulAt D R row * p + row = (mulAt D R row - 1) * p + (p + row) := by rw [Int.sub_mul]; omega
  rw [e1, Int.add_emod, Int.mul_emod, h8]
  rw [Int.zero_mul, Int.zero_emod, Int.zero_add, Int.emod_emod]
  rw [Int.add_emod p (row % D), Int.emod_emod_of_dvd _ hd, ← Int.add_emod]
def rackOf (b : Bool) (D R row p : Int) : Int := if b = true ∧ 0 ≤ p ∧ p < D then (p + row % D) % R else -1
theorem ev_rack (D R N S L I row p : Int) : Ev (fun k => design_Rack.f k D R N S L I row p) (rackOf (rowB D R N S L I row) D R row p) := by
  unfold design_Rack.f
  refine Ev.bind (ev_rule D R N S L I row) ?_
  cases hb : rowB D R N S L I row with
  | false => exact ev_neg (by simp) (ev_eq (Ev.now _) (by simp [rackOf]))
  | true =>
    obtain ⟨ok, h0, h9⟩ := rowB_iff.mp hb
    obtain ⟨h1, h2, h3, h4, h5, h6, _⟩ := okB_iff.mp ok
    refine ev_pos rfl ?_
    by_cases hp : p < 0
    · exact ev_pos hp (ev_eq (Ev.now _) (by unfold rackOf; rw [if_neg (by omega)]))
    · refine ev_neg hp ?_
      by_cases hq : p ≥ D
      · exact ev_pos hq (ev_eq (Ev.now _) (by unfold rackOf; rw [if_neg (by omega)]))
      · have hb0 : 0 ≤ row % D := Int.emod_nonneg _ (by omega)
        have hb1 : row % D < D := Int.emod_lt_of_pos _ (by omega)
        refine ev_neg hq (ev_neg (by omega) (ev_eq (Ev.now _) ?_))
        show Int.tmod (wrap64 (p + row % D)) R = _
        rw [w64 (by omega) (by omega), tm (by omega)]
        unfold rackOf; rw [if_pos ⟨rfl, by omega, by omega⟩]
theorem ev_rrack (D R N S L I row p : Int) : Ev (fun k => solventref13_Rack.f k D R N S L I row p) (rackOf (rowB D R N S L I row) D R row p) := by
  unfold solventref13_Rack.f
  refine Ev.bind (ev_rorder D R N S L I row) ?_
  cases hb : rowB D R N S L I row with
  | false =>
    rw [in_eq]
    refine ev_some (ev_neg ?_ (ev_eq (Ev.now _) (by simp [rackOf])))
    rw [w64 (by simp) (by simp)]
    simp; omega
  | true =>
    obtain ⟨ok, h0, h9⟩ := rowB_iff.mp hb
    obtain ⟨h1, h2, h3, h4, h5, h6, _, _, _, _, _, _, h8⟩ := okB_iff.mp ok
    rw [if_pos rfl, in_eq, orderL_len (by omega), w64 (by omega) (by omega)]
    refine ev_some ?_
    by_cases hp : 0 ≤ p ∧ p < D
    · have hbd := @orderF_bounds D R row h1 h3 h2 p.toNat
      rw [rd_order hp.1 hp.2, tm hbd.1, rack_eq h1 h3 h8 p hp.1 hp.2]
      exact ev_pos (by simp; omega) (ev_pos hp.1 (ev_pos hp.2 (ev_neg (by omega) (ev_eq (Ev.now _) (by unfold rackOf; rw [if_pos ⟨rfl, hp⟩])))))
    · exact ev_neg (by simp; omega) (ev_eq (Ev.now _) (by unfold rackOf; rw [if_neg (by omega)]))

/-! lists held against each other -/
theorem ev_same0 (a b : List Int) (hl : a.length = b.length) (h9 : a.length ≤ 1000) : ∀ (m i : Nat), i + m = a.length → Ev (fun k => solventref13_Same.l0 k a b (i : Int)) (decide (a.drop i = b.drop i))
  | 0, i, h => by
    refine Ev.step (fun k => rfl) ?_
    rw [List.drop_of_length_le (by omega), List.drop_of_length_le (by omega)]
    exact ev_neg (by omega) (Ev.now _)
  | m + 1, i, h => by
    refine Ev.step (fun k => rfl) ?_
    rw [rd_drop (l := a) (by omega), rd_drop (l := b) (by omega)]
    refine ev_pos (by omega) (ev_pos (by omega) (ev_pos (by omega) ?_))
    by_cases he : rd a (i : Int) = rd b (i : Int)
    · refine ev_pos he ?_
      rw [show wrap64 ((i : Int) + 1) = ((i + 1 : Nat) : Int) by rw [w64 (by omega) (by omega)]; rfl]
      refine ev_eq (ev_same0 a b hl h9 m (i + 1) (by omega)) ?_
      exact decide_eq_decide.mpr ⟨fun h => by rw [he, h], fun h => (List.cons.inj h).2⟩
    · refine ev_neg he (ev_eq (Ev.now _) ?_)
      exact (decide_eq_false (fun h => he (List.cons.inj h).1)).symm
theorem ev_same (a b : List Int) (h9 : a.length ≤ 1000) : Ev (fun k => solventref13_Same.f k a b) (decide (a = b)) := by
  unfold solventref13_Same.f
  by_cases hl : a.length = b.length
  · exact ev_pos (by omega) (ev_same0 a b hl h9 a.length 0 (by omega))
  · exact ev_neg (by omega) (ev_eq (Ev.now _) (decide_eq_false (fun h => hl (by rw [h]))).symm)
theorem ev_refl (a : List Int) (h9 : a.length ≤ 1000) : Ev (fun k => solventref13_Same.f k a a) true := ev_eq (ev_same a a h9) (by simp)
theorem sanity13_at : solventlaw13_sanity.f 80 = some true := by decide +kernel
theorem ev_sanity13 : Ev (fun k => solventlaw13_sanity.f k) true := Ev.of solventlaw13_sanity.mono sanity13_at
theorem ev_valid13 (D R N S L I : Int) : Ev (fun k => solventlaw13_valid.f k D R N S L I) (okB D R N S L I) := by
  unfold solventlaw13_valid.f
  refine Ev.bind (ev_rcheck D R N S L I) (ev_eq (Ev.now _) ?_)
  cases okB D R N S L I <;> rfl
end Go.Proofs.Ytiejibkjhmmpaaa.Q
