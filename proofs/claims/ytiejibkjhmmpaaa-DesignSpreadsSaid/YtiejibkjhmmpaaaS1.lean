/- What the functions of chapter 13 reckon, in plain words (design and its reference alike). -/
import Derived.Test.YtiejibkjhmmpaaaQB
import Derived.Test.YtiejibkjhmmpaaaQC
import Derived.Test.YtiejibkjhmmpaaaQD
namespace Go.Proofs.Ytiejibkjhmmpaaa.Q
open Go.RowKit Go.Proofs.YtiejibkjhmmpaaaW.PrintWords

theorem ev_pos {α : Type} {c : Prop} [Decidable c] {g f : Nat → Option α} {r : α} (h : c) (k : Ev g r) : Ev (fun n => if c then g n else f n) r := by
  obtain ⟨K, hK⟩ := k
  exact ⟨K, fun n hn => (if_pos h).trans (hK n hn)⟩
theorem ev_neg {α : Type} {c : Prop} [Decidable c] {g f : Nat → Option α} {r : α} (h : ¬ c) (k : Ev f r) : Ev (fun n => if c then g n else f n) r := by
  obtain ⟨K, hK⟩ := k
  exact ⟨K, fun n hn => (if_neg h).trans (hK n hn)⟩
theorem ev_some {α β : Type} {a : α} {f : Nat → α → Option β} {r : β} (k : Ev (fun n => f n a) r) : Ev (fun n => (some a).bind (f n)) r := k
theorem ev_eq {α : Type} {g : Nat → Option α} {r r' : α} (k : Ev g r) (h : r = r') : Ev g r' := h ▸ k
theorem w64 {x : Int} (h0 : -9223372036854775808 ≤ x) (h1 : x ≤ 9223372036854775807) : wrap64 x = x := by unfold wrap64; omega

/-- Is a configuration valid? -/
def okB (D R N S L I : Int) : Bool := decide (1 ≤ D ∧ D ≤ 64 ∧ 1 ≤ R ∧ R ≤ 8 ∧ 1 ≤ N ∧ N ≤ 4096 ∧ 0 ≤ S ∧ S ≤ D - 1 ∧ 1 ≤ L ∧ L ≤ 65536 ∧ 1 ≤ I ∧ I ≤ 65536 ∧ D % R = 0)
theorem okB_iff {D R N S L I : Int} : okB D R N S L I = true ↔ 1 ≤ D ∧ D ≤ 64 ∧ 1 ≤ R ∧ R ≤ 8 ∧ 1 ≤ N ∧ N ≤ 4096 ∧ 0 ≤ S ∧ S ≤ D - 1 ∧ 1 ≤ L ∧ L ≤ 65536 ∧ 1 ≤ I ∧ I ≤ 65536 ∧ D % R = 0 := by
  unfold okB; exact decide_eq_true_iff
def errOf (b : Bool) : Int := if b then 0 else 1
theorem errOf_zero {b : Bool} : errOf b = 0 ↔ b = true := by cases b <;> simp [errOf]

theorem s1_eq (a b c : Int) : design_Check_S1.f a b c = some (decide (b ≤ a ∧ a ≤ c)) := by
  unfold design_Check_S1.f
  by_cases h : a ≥ b
  · rw [if_pos h]; congr 1; exact decide_eq_decide.mpr ⟨fun h1 => ⟨h, h1⟩, fun h1 => h1.2⟩
  · rw [if_neg h]; congr 1; exact (decide_eq_false (fun h1 => h h1.1)).symm
theorem in_eq (a b c : Int) : solventref13_in.f a b c = some (decide (b ≤ a ∧ a ≤ c)) := s1_eq a b c

theorem ev_check (D R N S L I : Int) : Ev (fun k => design_Check.f k D R N S L I) (errOf (okB D R N S L I)) := by
  refine ⟨1, fun k hk => ?_⟩
  obtain ⟨m, rfl⟩ : ∃ m, k = m + 1 := ⟨k - 1, by omega⟩
  simp only [design_Check.f, design_Check.j0, s1_eq, Option.bind_some]
  by_cases h1 : 1 ≤ D ∧ D ≤ 64
  · by_cases h2 : 1 ≤ R ∧ R ≤ 8
    · by_cases h3 : 1 ≤ N ∧ N ≤ 4096
      · rw [w64 (by omega) (by omega)]
        by_cases h4 : 0 ≤ S ∧ S ≤ D - 1
        · by_cases h5 : 1 ≤ L ∧ L ≤ 65536
          · by_cases h6 : 1 ≤ I ∧ I ≤ 65536
            · have e : Int.tmod D R = D % R := Int.tmod_eq_emod_of_nonneg (by omega)
              have hr : ¬ R = 0 := by omega
              by_cases h7 : D % R = 0
              · have : okB D R N S L I = true := okB_iff.mpr (by omega)
                simp [h1, h2, h3, h4, h5, h6, e, hr, h7, this, errOf]
              · have : okB D R N S L I = false := Bool.eq_false_iff.mpr (fun h => by have := okB_iff.mp h; omega)
                simp [h1, h2, h3, h4, h5, h6, e, hr, h7, this, errOf]
            · have : okB D R N S L I = false := Bool.eq_false_iff.mpr (fun h => by have := okB_iff.mp h; omega)
              simp [h1, h2, h3, h4, h5, h6, this, errOf]
          · have : okB D R N S L I = false := Bool.eq_false_iff.mpr (fun h => by have := okB_iff.mp h; omega)
            simp [h1, h2, h3, h4, h5, this, errOf]
        · have : okB D R N S L I = false := Bool.eq_false_iff.mpr (fun h => by have := okB_iff.mp h; omega)
          simp [h1, h2, h3, h4, this, errOf]
      · have : okB D R N S L I = false := Bool.eq_false_iff.mpr (fun h => by have := okB_iff.mp h; omega)
        simp [h1, h2, h3, this, errOf]
    · have : okB D R N S L I = false := Bool.eq_false_iff.mpr (fun h => by have := okB_iff.mp h; omega)
      simp [h1, h2, this, errOf]
  · have : okB D R N S L I = false := Bool.eq_false_iff.mpr (fun h => by have := okB_iff.mp h; omega)
    simp [h1, this, errOf]
theorem ev_rcheck (D R N S L I : Int) : Ev (fun k => solventref13_Check.f k D R N S L I) (errOf (okB D R N S L I)) := by
  refine ⟨1, fun k hk => ?_⟩
  obtain ⟨m, rfl⟩ : ∃ m, k = m + 1 := ⟨k - 1, by omega⟩
  simp only [solventref13_Check.f, solventref13_Check.j0, in_eq, Option.bind_some]
  by_cases h1 : 1 ≤ D ∧ D ≤ 64
  · by_cases h2 : 1 ≤ R ∧ R ≤ 8
    · by_cases h3 : 1 ≤ N ∧ N ≤ 4096
      · rw [w64 (by omega) (by omega)]
        by_cases h5 : 1 ≤ L ∧ L ≤ 65536
        · by_cases h6 : 1 ≤ I ∧ I ≤ 65536
          · have e : Int.tmod D R = D % R := Int.tmod_eq_emod_of_nonneg (by omega)
            have hr : ¬ R = 0 := by omega
            by_cases h7 : D % R = 0
            · by_cases h4 : 0 ≤ S ∧ S ≤ D - 1
              · have : okB D R N S L I = true := okB_iff.mpr (by omega)
                simp [h1, h2, h3, h4, h5, h6, e, hr, h7, this, errOf]
              · have : okB D R N S L I = false := Bool.eq_false_iff.mpr (fun h => by have := okB_iff.mp h; omega)
                simp [h1, h2, h3, h4, h5, h6, e, hr, h7, this, errOf]
            · have : okB D R N S L I = false := Bool.eq_false_iff.mpr (fun h => by have := okB_iff.mp h; omega)
              simp [h1, h2, h3, h5, h6, e, hr, h7, this, errOf]
          · have : okB D R N S L I = false := Bool.eq_false_iff.mpr (fun h => by have := okB_iff.mp h; omega)
            simp [h1, h2, h3, h5, h6, this, errOf]
        · have : okB D R N S L I = false := Bool.eq_false_iff.mpr (fun h => by have := okB_iff.mp h; omega)
          simp [h1, h2, h3, h5, this, errOf]
      · have : okB D R N S L I = false := Bool.eq_false_iff.mpr (fun h => by have := okB_iff.mp h; omega)
        simp [h1, h2, h3, this, errOf]
    · have : okB D R N S L I = false := Bool.eq_false_iff.mpr (fun h => by have := okB_iff.mp h; omega)
      simp [h1, h2, this, errOf]
  · have : okB D R N S L I = false := Bool.eq_false_iff.mpr (fun h => by have := okB_iff.mp h; omega)
    simp [h1, this, errOf]

/-! the multipliers -/
theorem common_gcd : ∀ (n : Nat) (a b : Int), 0 ≤ a → 0 ≤ b → b.toNat < n → design_common.l0 n a b = some (Int.gcd a b : Int)
  | 0, _, _, _, _, h => absurd h (Nat.not_lt_zero _)
  | n + 1, a, b, ha, hb, h => by
    simp only [design_common.l0]
    by_cases h0 : b > 0
    · rw [if_pos h0, if_neg (by omega), Int.tmod_eq_emod_of_nonneg ha]
      have h1 := Int.emod_lt_of_pos a h0
      have h2 := Int.emod_nonneg a (by omega : b ≠ 0)
      rw [common_gcd n b (a % b) hb h2 (by omega)]
      obtain ⟨x, rfl⟩ := Int.eq_ofNat_of_zero_le ha
      obtain ⟨y, rfl⟩ := Int.eq_ofNat_of_zero_le hb
      show some ((Nat.gcd _ _ : Nat) : Int) = some ((Nat.gcd _ _ : Nat) : Int)
      have e : ((x : Int) % (y : Int)).natAbs = x % y := rfl
      rw [e]
      show some ((Nat.gcd y (x % y) : Nat) : Int) = some ((Nat.gcd x y : Nat) : Int)
      rw [Nat.gcd_comm y, ← Nat.gcd_rec, Nat.gcd_comm]
    · rw [if_neg h0]
      obtain rfl : b = 0 := by omega
      rw [Int.gcd_zero_right]
      congr 1; omega
theorem divisor_common : ∀ (n : Nat) (a b : Int), solventref13_divisor.l0 n a b = design_common.l0 n a b
  | 0, _, _ => rfl
  | n + 1, a, b => by
    simp only [solventref13_divisor.l0, design_common.l0]
    rw [divisor_common n]
theorem cval_gcd {a b : Int} (ha : 0 ≤ a) (hb : 0 ≤ b) : cval a b = (Int.gcd a b : Int) := by
  unfold cval design_common.f
  rw [common_gcd _ a b ha hb (Nat.lt_succ_self _)]; rfl
theorem ev_divisor {a b : Int} (ha : 0 ≤ a) (hb : 0 ≤ b) : Ev (fun k => solventref13_divisor.f k a b) (Int.gcd a b : Int) :=
  ⟨b.toNat + 1, fun k hk => by
    show solventref13_divisor.l0 k a b = _
    rw [divisor_common]; exact common_gcd k a b ha hb (by omega)⟩

/-- The numbers a, a + R, a + 2R .. below D. -/
def steps (D R : Int) : Nat → Int → List Int
  | 0, _ => []
  | n + 1, a => if a < D then a :: steps D R n (a + R) else []
theorem steps_none {D R : Int} : ∀ (n : Nat) {a : Int}, D ≤ a → steps D R n a = []
  | 0, _, _ => rfl
  | n + 1, a, h => by simp only [steps]; rw [if_neg (by omega)]
theorem steps_fuel {D R : Int} (hR : 1 ≤ R) : ∀ (n m : Nat) (a : Int), D - a ≤ n → D - a ≤ m → steps D R n a = steps D R m a
  | 0, m, a, h, _ => by rw [steps_none 0 (by omega), steps_none m (by omega)]
  | n + 1, 0, a, _, h => by rw [steps_none (n + 1) (by omega), steps_none 0 (by omega)]
  | n + 1, m + 1, a, h, h' => by
    simp only [steps]
    by_cases hlt : a < D
    · rw [if_pos hlt, if_pos hlt, steps_fuel hR n m (a + R) (by omega) (by omega)]
    · rw [if_neg hlt, if_neg hlt]
theorem steps_mem {D R : Int} (hR : 1 ≤ R) : ∀ (n : Nat) (a x : Int), x ∈ steps D R n a → a ≤ x ∧ x < D ∧ (x - a) % R = 0
  | 0, _, _, h => by simp [steps] at h
  | n + 1, a, x, h => by
    simp only [steps] at h
    by_cases hlt : a < D
    · rw [if_pos hlt] at h
      rcases List.mem_cons.mp h with rfl | h
      · exact ⟨Int.le_refl _, hlt, by simp⟩
      · obtain ⟨h1, h2, h3⟩ := steps_mem hR n (a + R) x h
        refine ⟨by omega, h2, ?_⟩
        have : x - a = x - (a + R) + R := by omega
        rw [this, Int.add_emod_right]; exact h3
    · rw [if_neg hlt] at h; simp at h
theorem steps_len {D R : Int} : ∀ (n : Nat) (a : Int), (steps D R n a).length ≤ n
  | 0, _ => Nat.le_refl _
  | n + 1, a => by
    simp only [steps]
    by_cases hlt : a < D
    · rw [if_pos hlt, List.length_cons]; have := @steps_len D R n (a + R); omega
    · rw [if_neg hlt]; exact Nat.zero_le _
/-- THE MULTIPLIERS. -/
def mulL (D R : Int) : List Int := 1 :: (steps D R 64 (1 + R)).filter fun x => decide (Int.gcd x D = 1)
theorem mulL_ne (D R : Int) : mulL D R ≠ [] := by simp [mulL]
theorem mulL_len (D R : Int) : 1 ≤ (mulL D R).length ∧ (mulL D R).length ≤ 65 := by
  unfold mulL
  rw [List.length_cons]
  have h1 := List.length_filter_le (fun x => decide (Int.gcd x D = 1)) (steps D R 64 (1 + R))
  have h2 := @steps_len D R 64 (1 + R)
  omega
theorem kept_of {D : Int} (hD : 0 ≤ D) : ∀ (l : List Int), (∀ x ∈ l, 1 ≤ x) → keptOf D l = l.filter fun x => decide (Int.gcd x D = 1)
  | l, h => by
    unfold keptOf
    refine List.filter_congr (fun x hx => ?_)
    have h1 := h x hx
    unfold strikes
    rw [cval_gcd (by omega) hD]
    have : 0 < Int.gcd x D := Int.gcd_pos_of_ne_zero_left D (by omega)
    by_cases hg : Int.gcd x D = 1
    · rw [hg]; rfl
    · rw [decide_eq_false hg, decide_eq_true (by omega)]; rfl
theorem ev_ml0 {D R : Int} (hR : 1 ≤ R) (hR8 : R ≤ 8) (hD : D ≤ 64) : ∀ (n : Nat) (l : List Int) (a : Int), D - a ≤ n → 0 ≤ a → l.length + n ≤ 1000 → l ++ steps D R n a ≠ [] →
    Ev (fun k => design_shape_multipliers.l0 k l a D R) (keptOf D (l ++ steps D R n a))
  | 0, l, a, h, h0, hl, hne => by
    refine Ev.step (fun k => rfl) ?_
    rw [steps_none 0 (by omega), List.append_nil] at hne ⊢
    exact ev_neg (by omega) (ev_neg hne (Ev.now _))
  | n + 1, l, a, h, h0, hl, hne => by
    refine Ev.step (fun k => rfl) ?_
    by_cases hlt : a < D
    · refine ev_pos hlt (ev_pos (by omega) ?_)
      rw [w64 (by omega) (by omega)]
      have e : l ++ steps D R (n + 1) a = (l ++ [a]) ++ steps D R n (a + R) := by simp [steps, hlt]
      rw [e] at hne ⊢
      exact ev_ml0 hR hR8 hD n (l ++ [a]) (a + R) (by omega) (by omega) (by simp; omega) hne
    · rw [steps_none (n + 1) (by omega), List.append_nil] at hne ⊢
      exact ev_neg hlt (ev_neg hne (Ev.now _))
theorem ev_shape {D R N S L I : Int} (ok : okB D R N S L I = true) : Ev (fun k => design_shape_multipliers.f k D R) (mulL D R) := by
  obtain ⟨h1, h2, h3, h4, _, _, _, _, _, _, _, _, h5⟩ := okB_iff.mp ok
  unfold design_shape_multipliers.f
  by_cases hD : D = 1
  · have hR : R = 1 := by
      subst hD
      by_cases hR : R = 1
      · exact hR
      · rw [Int.emod_eq_of_lt (by omega) (by omega)] at h5; omega
    subst hD; subst hR
    refine ev_pos (by decide) (ev_eq (Ev.now _) ?_)
    unfold mulL
    rw [steps_none 64 (by omega)]; rfl
  · have hne : ¬ (D == 1 && R == 1) = true := by simp [hD]
    refine ev_neg hne (ev_eq (ev_ml0 h3 h4 h2 64 [] 1 (by omega) (by omega) (by simp) ?_) ?_)
    · simp [steps, show (1 : Int) < D by omega]
    · rw [List.nil_append, kept_of (by omega) _ (fun x hx => (steps_mem h3 64 1 x hx).1)]
      have e : steps D R 64 1 = 1 :: steps D R 63 (1 + R) := by simp only [steps]; rw [if_pos (by omega)]
      rw [e, List.filter_cons, if_pos (by simp), steps_fuel h3 63 64 (1 + R) (by omega) (by omega)]
      rfl
theorem ev_mul (D R N S L I : Int) : Ev (fun k => design_Multipliers.f k D R N S L I) (if okB D R N S L I then mulL D R else []) := by
  unfold design_Multipliers.f
  refine Ev.bind (ev_check D R N S L I) ?_
  cases ok : okB D R N S L I with
  | true => exact ev_pos (by decide) (Ev.bind (ev_shape ok) (Ev.now _))
  | false => exact ev_neg (by decide) (Ev.now _)
theorem ev_rml0 {D R : Int} (N S L I : Int) (hR : 1 ≤ R) (hR8 : R ≤ 8) (hD0 : 1 ≤ D) (hD : D ≤ 64) : ∀ (n : Nat) (l : List Int) (a : Int), D - a ≤ n → 0 ≤ a → l.length + n ≤ 1000 →
    Ev (fun k => solventref13_Multipliers.l0 k l a D R N S L I) (l ++ (steps D R n a).filter fun x => decide (Int.gcd x D = 1))
  | 0, l, a, h, h0, hl => by
    refine Ev.step (fun k => rfl) ?_
    rw [steps_none 0 (by omega)]
    exact ev_neg (by omega) (ev_eq (Ev.now _) (by simp))
  | n + 1, l, a, h, h0, hl => by
    refine Ev.step (fun k => rfl) ?_
    by_cases hlt : a < D
    · refine ev_pos hlt (Ev.bind (ev_divisor h0 (by omega)) ?_)
      rw [w64 (by omega) (by omega)]
      have e : steps D R (n + 1) a = a :: steps D R n (a + R) := by simp [steps, hlt]
      rw [e, List.filter_cons]
      by_cases hg : Int.gcd a D = 1
      · refine ev_pos (by omega) (ev_pos (by omega) ?_)
        rw [if_pos (by simpa using hg)]
        refine ev_eq (ev_rml0 N S L I hR hR8 hD0 hD n (l ++ [a]) (a + R) (by omega) (by omega) (by simp; omega)) (by simp)
      · refine ev_neg (by omega) ?_
        rw [if_neg (by simpa using hg)]
        exact ev_rml0 N S L I hR hR8 hD0 hD n l (a + R) (by omega) (by omega) (by omega)
    · rw [steps_none (n + 1) (by omega)]
      exact ev_neg hlt (ev_eq (Ev.now _) (by simp))
theorem ev_rmul (D R N S L I : Int) : Ev (fun k => solventref13_Multipliers.f k D R N S L I) (if okB D R N S L I then mulL D R else []) := by
  unfold solventref13_Multipliers.f
  refine Ev.bind (ev_rcheck D R N S L I) ?_
  cases ok : okB D R N S L I with
  | true =>
    obtain ⟨h1, h2, h3, h4, _, _, _, _, _, _, _, _, h5⟩ := okB_iff.mp ok
    refine ev_pos (by decide) ?_
    rw [w64 (by omega) (by omega)]
    exact ev_rml0 N S L I h3 h4 h1 h2 64 [1] (1 + R) (by omega) (by omega) (by simp)
  | false => exact ev_neg (by decide) (Ev.now _)
def perOf (b : Bool) (D R : Int) : Int := if b then D * (mulL D R).length else 0
theorem per_eq {D R N S L I : Int} : wrap64 (D * ((if okB D R N S L I then mulL D R else []).length : Int)) = perOf (okB D R N S L I) D R := by
  unfold perOf
  cases ok : okB D R N S L I with
  | true =>
    obtain ⟨h1, h2, _⟩ := okB_iff.mp ok
    have h6 := mulL_len D R
    rw [if_pos rfl, if_pos rfl, w64]
    · have : 0 ≤ D * ((mulL D R).length : Int) := Int.mul_nonneg (by omega) (by omega)
      omega
    · have : D * ((mulL D R).length : Int) ≤ 64 * 65 := Int.mul_le_mul h2 (by omega) (by omega) (by omega)
      omega
  | false => simp [w64]
theorem ev_per (D R N S L I : Int) : Ev (fun k => design_Period.f k D R N S L I) (perOf (okB D R N S L I) D R) := by
  unfold design_Period.f
  exact Ev.bind (ev_mul D R N S L I) (ev_eq (Ev.now _) per_eq)
theorem ev_rper (D R N S L I : Int) : Ev (fun k => solventref13_Period.f k D R N S L I) (perOf (okB D R N S L I) D R) := by
  unfold solventref13_Period.f
  exact Ev.bind (ev_rmul D R N S L I) (ev_eq (Ev.now _) per_eq)
end Go.Proofs.Ytiejibkjhmmpaaa.Q
