/- What the functions of chapter 13 reckon, in plain words: multipliers, orders, positions (the program's side). -/
import Derived.Test.YtiejibkjhmmpaaaQB
import Derived.Test.YtiejibkjhmmpaaaQC
namespace Go.Proofs.Ytiejibkjhmmpaaa.Q
open Go.RowKit Go.Proofs.YtiejibkjhmmpaaaW.PrintWords
set_option linter.unusedVariables false
theorem ev_pos {α : Type} {c : Prop} [Decidable c] {g f : Nat → Option α} {r : α} (h : c) (k : Ev g r) : Ev (fun n => if c then g n else f n) r := by
  obtain ⟨K, hK⟩ := k
  exact ⟨K, fun n hn => (if_pos h).trans (hK n hn)⟩
theorem ev_neg {α : Type} {c : Prop} [Decidable c] {g f : Nat → Option α} {r : α} (h : ¬ c) (k : Ev f r) : Ev (fun n => if c then g n else f n) r := by
  obtain ⟨K, hK⟩ := k
  exact ⟨K, fun n hn => (if_neg h).trans (hK n hn)⟩
theorem ev_some {α β : Type} {a : α} {f : Nat → α → Option β} {r : β} (k : Ev (fun n => f n a) r) : Ev (fun n => (some a).bind (f n)) r := k
theorem ev_eq {α : Type} {g : Nat → Option α} {r r' : α} (k : Ev g r) (h : r = r') : Ev g r' := h ▸ k
theorem w64 {x : Int} (h0 : -9223372036854775808 ≤ x) (h1 : x ≤ 9223372036854775807) : wrap64 x = x := by unfold wrap64; omega

/-- Is a configuration valid? -/
def okB (D R N S L I : Int) : Bool := decide (1 ≤ D ∧ D ≤ 64 ∧ 1 ≤ R ∧ R ≤ 8 ∧ 1 ≤ N ∧ N ≤ 4096 ∧ 0 ≤ S ∧ S ≤ D - 1 ∧ 1 ≤ L ∧ L ≤ 65536 ∧ 1 ≤ I ∧ I ≤ 65536 ∧ D % R = 0)
theorem okB_iff {D R N S L I : Int} : okB D R N S L I = true ↔ 1 ≤ D ∧ D ≤ 64 ∧ 1 ≤ R ∧ R ≤ 8 ∧ 1 ≤ N ∧ N ≤ 4096 ∧ 0 ≤ S ∧ S ≤ D - 1 ∧ 1 ≤ L ∧ L ≤ 65536 ∧ 1 ≤ I ∧ I ≤ 65536 ∧ D % R = 0 := by
  unfold okB; exact decide_eq_true_iff
def errOf (b : Bool) : Int := if b then 0 else 1
theorem errOf_zero {b : Bool} : errOf b = 0 ↔ b = true := by cases b <;> simp [errOf]

theorem s1_eq (a b c : Int) : design_Check_S1.f a b c = some (decide (b ≤ a ∧ a ≤ c)) := by
  unfold design_Check_S1.f
  by_cases h : a ≥ b
  · rw [if_pos h]; congr 1; exact decide_eq_decide.mpr ⟨fun h1 => ⟨h, h1⟩, fun h1 => h1.2⟩
  · rw [if_neg h]; congr 1; exact (decide_eq_false (fun h1 => h h1.1)).symm
theorem in_eq (a b c : Int) : solventref13_in.f a b c = some (decide (b ≤ a ∧ a ≤ c)) := s1_eq a b c

theorem ev_check (D R N S L I : Int) : Ev (fun k => design_Check.f k D R N S L I) (errOf (okB D R N S L I)) := by
  refine ⟨1, fun k hk => ?_⟩
  obtain ⟨m, rfl⟩ : ∃ m, k = m + 1 := ⟨k - 1, by omega⟩
  simp only [design_Check.f, design_Check.j0, s1_eq, Option.bind_some]
  by_cases h1 : 1 ≤ D ∧ D ≤ 64
  · by_cases h2 : 1 ≤ R ∧ R ≤ 8
    · by_cases h3 : 1 ≤ N ∧ N ≤ 4096
      · rw [w64 (by omega) (by omega)]
        by_cases h4 : 0 ≤ S ∧ S ≤ D - 1
        · by_cases h5 : 1 ≤ L ∧ L ≤ 65536
          · by_cases h6 : 1 ≤ I ∧ I ≤ 65536
            · have e : Int.tmod D R = D % R := Int.tmod_eq_emod_of_nonneg (by omega)
              have hr : ¬ R = 0 := by omega
              by_cases h7 : D % R = 0
              · have : okB D R N S L I = true := okB_iff.mpr (by omega)
                simp [h1, h2, h3, h4, h5, h6, e, hr, h7, this, errOf]
              · have : okB D R N S L I = false := Bool.eq_false_iff.mpr (fun h => by have := okB_iff.mp h; omega)
                simp [h1, h2, h3, h4, h5, h6, e, hr, h7, this, errOf]
            · have : okB D R N S L I = false := Bool.eq_false_iff.mpr (fun h => by have := okB_iff.mp h; omega)
              simp [h1, h2, h3, h4, h5, h6, this, errOf]
          · have : okB D R N S L I = false := Bool.eq_false_iff.mpr (fun h => by have := okB_iff.mp h; omega)
            simp [h1, h2, h3, h4, h5, this, errOf]
        · have : okB D R N S L I = false := Bool.eq_false_iff.mpr (fun h => by have := okB_iff.mp h; omega)
          simp [h1, h2, h3, h4, this, errOf]
      · have : okB D R N S L I = false := Bool.eq_false_iff.mpr (fun h => by have := okB_iff.mp h; omega)
        simp [h1, h2, h3, this, errOf]
    · have : okB D R N S L I = false := Bool.eq_false_iff.mpr (fun h => by have := okB_iff.mp h; omega)
      simp [h1, h2, this, errOf]
  · have : okB D R N S L I = false := Bool.eq_false_iff.mpr (fun h => by have := okB_iff.mp h; omega)
    simp [h1, this, errOf]
theorem ev_rcheck (D R N S L I : Int) : Ev (fun k => solventref13_Check.f k D R N S L I) (errOf (okB D R N S L I)) := by
  refine ⟨1, fun k hk => ?_⟩
  obtain ⟨m, rfl⟩ : ∃ m, k = m + 1 := ⟨k - 1, by omega⟩
  simp only [solventref13_Check.f, solventref13_Check.j0, in_eq, Option.bind_some]
  by_cases h1 : 1 ≤ D ∧ D ≤ 64
  · by_cases h2 : 1 ≤ R ∧ R ≤ 8
    · by_cases h3 : 1 ≤ N ∧ N ≤ 4096
      · rw [w64 (by omega) (by omega)]
        by_cases h5 : 1 ≤ L ∧ L ≤ 65536
        · by_cases h6 : 1 ≤ I ∧ I ≤ 65536
          · have e : Int.tmod D R = D % R := Int.tmod_eq_emod_of_nonneg (by omega)
            have hr : ¬ R = 0 := by omega
            by_cases h7 : D % R = 0
            · by_cases h4 : 0 ≤ S ∧ S ≤ D - 1
              · have : okB D R N S L I = true := okB_iff.mpr (by omega)
                simp [h1, h2, h3, h4, h5, h6, e, hr, h7, this, errOf]
              · have : okB D R N S L I = false := Bool.eq_false_iff.mpr (fun h => by have := okB_iff.mp h; omega)
                simp [h1, h2, h3, h4, h5, h6, e, hr, h7, this, errOf]
            · have : okB D R N S L I = false := Bool.eq_false_iff.mpr (fun h => by have := okB_iff.mp h; omega)
              simp [h1, h2, h3, h5, h6, e, hr, h7, this, errOf]
          · have : okB D R N S L I = false := Bool.eq_false_iff.mpr (fun h => by have := okB_iff.mp h; omega)
            simp [h1, h2, h3, h5, h6, this, errOf]
        · have : okB D R N S L I = false := Bool.eq_false_iff.mpr (fun h => by have := okB_iff.mp h; omega)
          simp [h1, h2, h3, h5, this, errOf]
      · have : okB D R N S L I = false := Bool.eq_false_iff.mpr (fun h => by have := okB_iff.mp h; omega)
        simp [h1, h2, h3, this, errOf]
    · have : okB D R N S L I = false := Bool.eq_false_iff.mpr (fun h => by have := okB_iff.mp h; omega)
      simp [h1, h2, this, errOf]
  · have : okB D R N S L I = false := Bool.eq_false_iff.mpr (fun h => by have := okB_iff.mp h; omega)
    simp [h1, this, errOf]

/-! the multipliers -/
theorem common_gcd : ∀ (n : Nat) (a b : Int), 0 ≤ a → 0 ≤ b → b.toNat < n → design_common.l0 n a b = some (Int.gcd a b : Int)
  | 0, _, _, _, _, h => absurd h (Nat.not_lt_zero _)
  | n + 1, a, b, ha, hb, h => by
    simp only [design_common.l0]
    by_cases h0 : b > 0
    · rw [if_pos h0, if_neg (by omega), Int.tmod_eq_emod_of_nonneg ha]
      have h1 := Int.emod_lt_of_pos a h0
      have h2 := Int.emod_nonneg a (by omega : b ≠ 0)
      rw [common_gcd n b (a % b) hb h2 (by omega)]
      obtain ⟨x, rfl⟩ := Int.eq_ofNat_of_zero_le ha
      obtain ⟨y, rfl⟩ := Int.eq_ofNat_of_zero_le hb
      show some ((Nat.gcd _ _ : Nat) : Int) = some ((Nat.gcd _ _ : Nat) : Int)
      have e : ((x : Int) % (y : Int)).natAbs = x % y := rfl
      rw [e]
      show some ((Nat.gcd y (x % y) : Nat) : Int) = some ((Nat.gcd x y : Nat) : Int)
      rw [Nat.gcd_comm y, ← Nat.gcd_rec, Nat.gcd_comm]
    · rw [if_neg h0]
      obtain rfl : b = 0 := by omega
      rw [Int.gcd_zero_right]
      congr 1; omega
theorem cval_gcd {a b : Int} (ha : 0 ≤ a) (hb : 0 ≤ b) : cval a b = (Int.gcd a b : Int) := by
  unfold cval design_common.f
  rw [common_gcd _ a b ha hb (Nat.lt_succ_self _)]; rfl
/-- The numbers a, a + R, a + 2R .. below D. -/
def steps (D R : Int) : Nat → Int → List Int
  | 0, _ => []
  | n + 1, a => if a < D then a :: steps D R n (a + R) else []
theorem steps_none {D R : Int} : ∀ (n : Nat) {a : Int}, D ≤ a → steps D R n a = []
  | 0, _, _ => rfl
  | n + 1, a, h => by simp only [steps]; rw [if_neg (by omega)]
theorem steps_fuel {D R : Int} (hR : 1 ≤ R) : ∀ (n m : Nat) (a : Int), D - a ≤ n → D - a ≤ m → steps D R n a = steps D R m a
  | 0, m, a, h, _ => by rw [steps_none 0 (by omega), steps_none m (by omega)]
  | n + 1, 0, a, _, h => by rw [steps_none (n + 1) (by omega), steps_none 0 (by omega)]
  | n + 1, m + 1, a, h, h' => by
    simp only [steps]
    by_cases hlt : a < D
    · rw [if_pos hlt, if_pos hlt, steps_fuel hR n m (a + R) (by omega) (by omega)]
    · rw [if_neg hlt, if_neg hlt]
theorem steps_mem {D R : Int} (hR : 1 ≤ R) : ∀ (n : Nat) (a x : Int), x ∈ steps D R n a → a ≤ x ∧ x < D ∧ (x - a) % R = 0
  | 0, _, _, h => by simp [steps] at h
  | n + 1, a, x, h => by
    simp only [steps] at h
    by_cases hlt : a < D
    · rw [if_pos hlt] at h
      rcases List.mem_cons.mp h with rfl | h
      · exact ⟨Int.le_refl _, hlt, by simp⟩
      · obtain ⟨h1, h2, h3⟩ := steps_mem hR n (a + R) x h
        refine ⟨by omega, h2, ?_⟩
        have : x - a = x - (a + R) + R := by omega
        rw [this, Int.add_emod_right]; exact h3
    · rw [if_neg hlt] at h; simp at h
theorem steps_len {D R : Int} : ∀ (n : Nat) (a : Int), (steps D R n a).length ≤ n
  | 0, _ => Nat.le_refl _
  | n + 1, a => by
    simp only [steps]
    by_cases hlt : a < D
    · rw [if_pos hlt, List.length_cons]; have := @steps_len D R n (a + R); omega
    · rw [if_neg hlt]; exact Nat.zero_le _
/-- THE MULTIPLIERS. -/
def mulL (D R : Int) : List Int := 1 :: (steps D R 64 (1 + R)).filter fun x => decide (Int.gcd x D = 1)
theorem mulL_ne (D R : Int) : mulL D R ≠ [] := by simp [mulL]
theorem mulL_len (D R : Int) : 1 ≤ (mulL D R).length ∧ (mulL D R).length ≤ 65 := by
  unfold mulL
  rw [List.length_cons]
  have h1 := List.length_filter_le (fun x => decide (Int.gcd x D = 1)) (steps D R 64 (1 + R))
  have h2 := @steps_len D R 64 (1 + R)
  omega
theorem kept_of {D : Int} (hD : 0 ≤ D) : ∀ (l : List Int), (∀ x ∈ l, 1 ≤ x) → keptOf D l = l.filter fun x => decide (Int.gcd x D = 1)
  | l, h => by
    unfold keptOf
    refine List.filter_congr (fun x hx => ?_)
    have h1 := h x hx
    unfold strikes
    rw [cval_gcd (by omega) hD]
    have : 0 < Int.gcd x D := Int.gcd_pos_of_ne_zero_left D (by omega)
    by_cases hg : Int.gcd x D = 1
    · rw [hg]; rfl
    · rw [decide_eq_false hg, decide_eq_true (by omega)]; rfl
theorem ev_ml0 {D R : Int} (hR : 1 ≤ R) (hR8 : R ≤ 8) (hD : D ≤ 64) : ∀ (n : Nat) (l : List Int) (a : Int), D - a ≤ n → 0 ≤ a → l.length + n ≤ 1000 → l ++ steps D R n a ≠ [] →
    Ev (fun k => design_shape_multipliers.l0 k l a D R) (keptOf D (l ++ steps D R n a))
  | 0, l, a, h, h0, hl, hne => by
    refine Ev.step (fun k => rfl) ?_
    rw [steps_none 0 (by omega), List.append_nil] at hne ⊢
    exact ev_neg (by omega) (ev_neg hne (Ev.now _))
  | n + 1, l, a, h, h0, hl, hne => by
    refine Ev.step (fun k => rfl) ?_
    by_cases hlt : a < D
    · refine ev_pos hlt (ev_pos (by omega) ?_)
      rw [w64 (by omega) (by omega)]
      have e : l ++ steps D R (n + 1) a = (l ++ [a]) ++ steps D R n (a + R) := by simp [steps, hlt]
      rw [e] at hne ⊢
      exact ev_ml0 hR hR8 hD n (l ++ [a]) (a + R) (by omega) (by omega) (by simp; omega) hne
    · rw [steps_none (n + 1) (by omega), List.append_nil] at hne ⊢
      exact ev_neg hlt (ev_neg hne (Ev.now _))
theorem ev_shape {D R N S L I : Int} (ok : okB D R N S L I = true) : Ev (fun k => design_shape_multipliers.f k D R) (mulL D R) := by
  obtain ⟨h1, h2, h3, h4, _, _, _, _, _, _, _, _, h5⟩ := okB_iff.mp ok
  unfold design_shape_multipliers.f
  by_cases hD : D = 1
  · have hR : R = 1 := by
      subst hD
      by_cases hR : R = 1
      · exact hR
      · rw [Int.emod_eq_of_lt (by omega) (by omega)] at h5; omega
    subst hD; subst hR
    refine ev_pos (by decide) (ev_eq (Ev.now _) ?_)
    unfold mulL
    rw [steps_none 64 (by omega)]; rfl
  · have hne : ¬ (D == 1 && R == 1) = true := by simp [hD]
    refine ev_neg hne (ev_eq (ev_ml0 h3 h4 h2 64 [] 1 (by omega) (by omega) (by simp) ?_) ?_)
    · simp [steps, show (1 : Int) < D by omega]
    · rw [List.nil_append, kept_of (by omega) _ (fun x hx => (steps_mem h3 64 1 x hx).1)]
      have e : steps D R 64 1 = 1 :: steps D R 63 (1 + R) := by simp only [steps]; rw [if_pos (by omega)]
      rw [e, List.filter_cons, if_pos (by simp), steps_fuel h3 63 64 (1 + R) (by omega) (by omega)]
      rfl
theorem ev_mul (D R N S L I : Int) : Ev (fun k => design_Multipliers.f k D R N S L I) (if okB D R N S L I then mulL D R else []) := by
  unfold design_Multipliers.f
  refine Ev.bind (ev_check D R N S L I) ?_
  cases ok : okB D R N S L I with
  | true => exact ev_pos (by decide) (Ev.bind (ev_shape ok) (Ev.now _))
  | false => exact ev_neg (by decide) (Ev.now _)
theorem td {a b : Int} (ha : 0 ≤ a) : Int.tdiv a b = a / b := Int.tdiv_eq_ediv_of_nonneg ha
theorem tm {a b : Int} (ha : 0 ≤ a) : Int.tmod a b = a % b := Int.tmod_eq_emod_of_nonneg ha
/-- The multiplier of a row. -/
def mulAt (D R row : Int) : Int := rd (mulL D R) ((row / D) % ((mulL D R).length : Int))
theorem rd_mem {l : List Int} {i : Int} (h0 : 0 ≤ i) (h : i < l.length) : rd l i ∈ l := by
  unfold rd
  have hi : i.toNat < l.length := by omega
  rw [List.getD_eq_getElem?_getD, List.getElem?_eq_getElem hi]
  exact List.getElem_mem hi
theorem mulL_mem {D R x : Int} (h1 : 1 ≤ D) (h2 : 1 ≤ R) (hx : x ∈ mulL D R) : 1 ≤ x ∧ (x < D ∨ x = 1) ∧ (x - 1) % R = 0 ∧ Int.gcd x D = 1 := by
  unfold mulL at hx
  rcases List.mem_cons.mp hx with rfl | hx
  · exact ⟨Int.le_refl _, .inr rfl, by simp, by simp⟩
  · obtain ⟨hs, hg⟩ := List.mem_filter.mp hx
    obtain ⟨h3, h4, h5⟩ := steps_mem h2 _ _ _ hs
    refine ⟨by omega, .inl h4, ?_, by simpa using hg⟩
    have : x - 1 = x - (1 + R) + R := by omega
    rw [this, Int.add_emod_right]; exact h5
theorem mulIdx (D R row : Int) : 0 ≤ (row / D) % ((mulL D R).length : Int) ∧ (row / D) % ((mulL D R).length : Int) < (mulL D R).length := by
  have h := (mulL_len D R).1
  exact ⟨Int.emod_nonneg _ (by omega), Int.emod_lt_of_pos _ (by omega)⟩
theorem mulAt_mem (D R row : Int) : mulAt D R row ∈ mulL D R := rd_mem (mulIdx D R row).1 (mulIdx D R row).2
theorem mulAt_range {D R : Int} (row : Int) (h1 : 1 ≤ D) (h2 : 1 ≤ R) (h3 : D ≤ 64) : 1 ≤ mulAt D R row ∧ mulAt D R row ≤ 64 := by
  obtain ⟨h4, h5, _⟩ := mulL_mem h1 h2 (mulAt_mem D R row)
  omega
/-- THE ORDER OF A ROW. -/
def orderF (D R row : Int) (p : Nat) : Int := (mulAt D R row * (p : Int) + row) % D
def orderL (D R row : Int) : List Int := (List.range D.toNat).map (orderF D R row)
def rowB (D R N S L I row : Int) : Bool := okB D R N S L I && decide (0 ≤ row ∧ row < N)
theorem rowB_iff {D R N S L I row : Int} : rowB D R N S L I row = true ↔ okB D R N S L I = true ∧ 0 ≤ row ∧ row < N := by
  unfold rowB; simp [Bool.and_eq_true]
theorem ev_rule (D R N S L I row : Int) : Ev (fun k => design_rule.f k D R N S L I row) (if rowB D R N S L I row then (mulAt D R row, row % D, true) else (0, 0, false)) := by
  unfold design_rule.f
  refine Ev.bind (ev_mul D R N S L I) ?_
  cases ok : okB D R N S L I with
  | false =>
    have : rowB D R N S L I row = false := by simp [rowB, ok]
    rw [this]
    exact ev_pos (by simp) (Ev.now _)
  | true =>
    have hl := mulL_len D R
    have hx := mulIdx D R row
    obtain ⟨h1, h2, h3, h4, h5, h6, _⟩ := okB_iff.mp ok
    rw [if_pos rfl]
    refine ev_neg (by omega) ?_
    by_cases hr0 : row < 0
    · have : rowB D R N S L I row = false := Bool.eq_false_iff.mpr (fun h => by have := rowB_iff.mp h; omega)
      rw [this]
      exact ev_pos hr0 (Ev.now _)
    · refine ev_neg hr0 ?_
      by_cases hr1 : row ≥ N
      · have : rowB D R N S L I row = false := Bool.eq_false_iff.mpr (fun h => by have := rowB_iff.mp h; omega)
        rw [this]
        exact ev_pos hr1 (Ev.now _)
      · have hb : rowB D R N S L I row = true := rowB_iff.mpr ⟨ok, by omega, by omega⟩
        have hd0 : 0 ≤ row / D := Int.ediv_nonneg (by omega) (by omega)
        have hd1 : row / D ≤ row := Int.ediv_le_self _ (by omega)
        rw [hb, td (by omega), tm (by omega : 0 ≤ row), w64 (by omega) (by omega), tm hd0]
        exact ev_neg hr1 (ev_neg (by omega) (ev_pos hx.1 (ev_pos hx.2 (Ev.now _))))
theorem orderF_bounds {D R : Int} {row : Int} (h1 : 1 ≤ D) (h2 : 1 ≤ R) (h3 : D ≤ 64) (p : Nat) : 0 ≤ orderF D R row p ∧ orderF D R row p < D := by
  unfold orderF
  exact ⟨Int.emod_nonneg _ (by omega), Int.emod_lt_of_pos _ (by omega)⟩
/-- A row that is filled from the left. -/
theorem set_fill (f : Nat → Int) (i m : Nat) (v : Int) (hv : v = f i) : ((List.range i).map f ++ List.replicate (m + 1) 0).set i v = (List.range (i + 1)).map f ++ List.replicate m 0 := by
  rw [List.set_append_right _ _ (by simp)]
  simp [List.replicate_succ, List.range_succ, hv]
theorem ev_ol0 {D R : Int} (N S L I row : Int) (h1 : 1 ≤ D) (h3 : D ≤ 64) (h2 : 1 ≤ R) (hr : 0 ≤ row) : ∀ (m i : Nat), i + m = D.toNat →
    Ev (fun k => design_Order.l0 k (mulAt D R row) (row % D) ((List.range i).map (orderF D R row) ++ List.replicate m 0) D (i : Int) D R N S L I) (orderL D R row)
  | 0, i, h => by
    refine Ev.step (fun k => rfl) ?_
    refine ev_neg (by omega) (ev_eq (Ev.now _) ?_)
    have : i = D.toNat := by omega
    simp [orderL, this]
  | m + 1, i, h => by
    refine Ev.step (fun k => rfl) ?_
    refine ev_pos (by omega) (ev_neg (by omega) (ev_pos (by omega) (ev_pos (by simp; omega) ?_)))
    have ha := mulAt_range row h1 h2 h3
    have hb0 : 0 ≤ row % D := Int.emod_nonneg _ (by omega)
    have hb1 : row % D < D := Int.emod_lt_of_pos _ (by omega)
    have hp0 : 0 ≤ mulAt D R row * (i : Int) := Int.mul_nonneg (by omega) (by omega)
    have hp1 : mulAt D R row * (i : Int) ≤ 64 * 64 := Int.mul_le_mul ha.2 (by omega) (by omega) (by omega)
    have hv : Int.tmod (wrap64 (wrap64 (mulAt D R row * (i : Int)) + row % D)) D = orderF D R row i := by
      rw [w64 (x := mulAt D R row * (i : Int)) (by omega) (by omega), w64 (by omega) (by omega), tm (by omega)]
      unfold orderF
      rw [Int.add_emod, Int.emod_emod, ← Int.add_emod]
    have hn : ((i : Int)).toNat = i := rfl
    rw [hn, set_fill _ i m _ hv, show wrap64 ((i : Int) + 1) = ((i + 1 : Nat) : Int) by rw [w64 (by omega) (by omega)]; rfl]
    exact ev_ol0 N S L I row h1 h3 h2 hr m (i + 1) (by omega)
theorem ev_order (D R N S L I row : Int) : Ev (fun k => design_Order.f k D R N S L I row) (if rowB D R N S L I row then orderL D R row else []) := by
  unfold design_Order.f
  refine Ev.bind (ev_rule D R N S L I row) ?_
  cases hb : rowB D R N S L I row with
  | false => exact ev_neg (by simp) (Ev.now _)
  | true =>
    obtain ⟨ok, h0, h9⟩ := rowB_iff.mp hb
    obtain ⟨h1, h2, h3, h4, h5, h6, _⟩ := okB_iff.mp ok
    refine ev_pos rfl (ev_pos (by omega) (ev_pos (by omega) ?_))
    show Ev (fun n => design_Order.l0 n (mulAt D R row) (row % D) (List.replicate D.toNat 0) ((List.replicate D.toNat (0 : Int)).length : Int) 0 D R N S L I) (orderL D R row)
    rw [List.length_replicate, Int.toNat_of_nonneg (by omega)]
    exact ev_ol0 N S L I row h1 h2 h3 h0 D.toNat 0 (by omega)
theorem orderL_len {D R row : Int} (h : 0 ≤ D) : ((orderL D R row).length : Int) = D := by
  unfold orderL; simp; omega
theorem orderL_length (D R row : Int) : (orderL D R row).length = D.toNat := by simp [orderL]
theorem rd_order {D R row p : Int} (h0 : 0 ≤ p) (h : p < D) : rd (orderL D R row) p = orderF D R row p.toNat := by
  unfold rd orderL
  rw [List.getD_eq_getElem?_getD, List.getElem?_map, List.getElem?_range (by omega)]
  rfl

/-! the position of an element -/
def posL : List Int → Int → Int → Int
  | [], _, _ => -1
  | x :: xs, d, i => if d = x then i else posL xs d (i + 1)
theorem rd_drop {l : List Int} {i : Nat} (h : i < l.length) : l.drop i = rd l (i : Int) :: l.drop (i + 1) := by
  rw [List.drop_eq_getElem_cons h]
  congr 1
  unfold rd
  rw [List.getD_eq_getElem?_getD, show ((i : Int)).toNat = i from rfl, List.getElem?_eq_getElem h]; rfl
theorem ev_idx (l : List Int) (d : Int) (hl : l.length ≤ 1000) : ∀ (m i : Nat), i + m = l.length → Ev (fun k => slices_Index_int_int.l0 k l d (l.length : Int) (i : Int)) (posL (l.drop i) d i)
  | 0, i, h => by
    refine Ev.step (fun k => rfl) ?_
    rw [List.drop_of_length_le (by omega)]
    exact ev_neg (by omega) (Ev.now _)
  | m + 1, i, h => by
    refine Ev.step (fun k => rfl) ?_
    rw [rd_drop (by omega)]
    refine ev_pos (by omega) (ev_pos (by omega) (ev_pos (by omega) ?_))
    by_cases he : d = rd l (i : Int)
    · refine ev_pos he (ev_eq (Ev.now _) ?_)
      simp only [posL]; rw [if_pos he]
    · refine ev_neg he ?_
      simp only [posL]; rw [if_neg he, show wrap64 ((i : Int) + 1) = ((i + 1 : Nat) : Int) by rw [w64 (by omega) (by omega)]; rfl]
      exact ev_idx l d hl m (i + 1) (by omega)
theorem ev_index (l : List Int) (d : Int) (hl : l.length ≤ 1000) : Ev (fun k => slices_Index_int_int.f k l d) (posL l d 0) := ev_idx l d hl l.length 0 (by omega)
def ordOf (b : Bool) (D R row : Int) : List Int := if b then orderL D R row else []
theorem ordOf_len {D R N S L I row : Int} : (ordOf (rowB D R N S L I row) D R row).length ≤ 64 := by
  cases hb : rowB D R N S L I row with
  | false => simp [ordOf]
  | true =>
    obtain ⟨ok, _⟩ := rowB_iff.mp hb
    have := okB_iff.mp ok
    simp only [ordOf, if_pos, orderL_length]; omega
/-- The rack of the disk at a position. -/
theorem rack_eq {D R row : Int} (h1 : 1 ≤ D) (h2 : 1 ≤ R) (h5 : D % R = 0) (p : Int) (h0 : 0 ≤ p) (h : p < D) : orderF D R row p.toNat % R = (p + row % D) % R := by
  obtain ⟨_, _, h8, _⟩ := mulL_mem h1 h2 (mulAt_mem D R row)
  have hd : R ∣ D := Int.dvd_of_emod_eq_zero h5
  unfold orderF
  rw [Int.emod_emod_of_dvd _ hd, show ((p.toNat : Nat) : Int) = p from Int.toNat_of_nonneg h0]
  have e1 : mulAt D R row * p + row = (mulAt D R row - 1) * p + (p + row) := by rw [Int.sub_mul]; omega
  rw [e1, Int.add_emod, Int.mul_emod, h8]
  rw [Int.zero_mul, Int.zero_emod, Int.zero_add, Int.emod_emod]
  rw [Int.add_emod p (row % D), Int.emod_emod_of_dvd _ hd, ← Int.add_emod]
/-! lists held against each other -/
theorem ev_same0 (a b : List Int) (hl : a.length = b.length) (h9 : a.length ≤ 1000) : ∀ (m i : Nat), i + m = a.length → Ev (fun k => solventref13_Same.l0 k a b (i : Int)) (decide (a.drop i = b.drop i))
  | 0, i, h => by
    refine Ev.step (fun k => rfl) ?_
    rw [List.drop_of_length_le (by omega), List.drop_of_length_le (by omega)]
    exact ev_neg (by omega) (Ev.now _)
  | m + 1, i, h => by
    refine Ev.step (fun k => rfl) ?_
    rw [rd_drop (l := a) (by omega), rd_drop (l := b) (by omega)]
    refine ev_pos (by omega) (ev_pos (by omega) (ev_pos (by omega) ?_))
    by_cases he : rd a (i : Int) = rd b (i : Int)
    · refine ev_pos he ?_
      rw [show wrap64 ((i : Int) + 1) = ((i + 1 : Nat) : Int) by rw [w64 (by omega) (by omega)]; rfl]
      refine ev_eq (ev_same0 a b hl h9 m (i + 1) (by omega)) ?_
      exact decide_eq_decide.mpr ⟨fun h => by rw [he, h], fun h => (List.cons.inj h).2⟩
    · refine ev_neg he (ev_eq (Ev.now _) ?_)
      exact (decide_eq_false (fun h => he (List.cons.inj h).1)).symm
theorem ev_same (a b : List Int) (h9 : a.length ≤ 1000) : Ev (fun k => solventref13_Same.f k a b) (decide (a = b)) := by
  unfold solventref13_Same.f
  by_cases hl : a.length = b.length
  · exact ev_pos (by omega) (ev_same0 a b hl h9 a.length 0 (by omega))
  · exact ev_neg (by omega) (ev_eq (Ev.now _) (decide_eq_false (fun h => hl (by rw [h]))).symm)
theorem ev_refl (a : List Int) (h9 : a.length ≤ 1000) : Ev (fun k => solventref13_Same.f k a a) true := ev_eq (ev_same a a h9) (by simp)
end Go.Proofs.Ytiejibkjhmmpaaa.Q
