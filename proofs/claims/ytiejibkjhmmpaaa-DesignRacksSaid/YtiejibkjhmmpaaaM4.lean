/- The orders are permutations, in plain words. -/
import Derived.Test.YtiejibkjhmmpaaaS1
namespace Go.Proofs.Ytiejibkjhmmpaaa.Q
open Go.RowKit Go.Proofs.YtiejibkjhmmpaaaW.PrintWords
set_option linter.unusedVariables false
theorem inv_all : ((List.range 65).all fun D => (List.range 65).all fun a => D == 0 || Nat.gcd a D != 1 || (List.range D).any fun c => a * c % D == 1 % D) = true := by decide +kernel
theorem inv_ex {a D : Int} (h1 : 1 ≤ D) (h2 : D ≤ 64) (h3 : 1 ≤ a) (h4 : a ≤ 64) (hg : Int.gcd a D = 1) : ∃ c m : Int, a * c = 1 + D * m := by
  obtain ⟨x, rfl⟩ := Int.eq_ofNat_of_zero_le (by omega : 0 ≤ a)
  obtain ⟨y, rfl⟩ := Int.eq_ofNat_of_zero_le (by omega : 0 ≤ D)
  have h := List.all_eq_true.mp (List.all_eq_true.mp inv_all y (List.mem_range.mpr (by omega))) x (List.mem_range.mpr (by omega))
  have hy : (y == 0) = false := beq_eq_false_iff_ne.mpr (by omega)
  have hg' : Nat.gcd x y = 1 := hg
  rw [hy, hg'] at h
  simp only [bne_self_eq_false, Bool.false_or] at h
  obtain ⟨c, _, hc⟩ := List.any_eq_true.mp h
  have hc' : x * c % y = 1 % y := by simpa using hc
  have e : ((x : Int) * (c : Int)) % (y : Int) = 1 % (y : Int) := by
    have := congrArg (Nat.cast : Nat → Int) hc'
    simpa using this
  have hd := Int.dvd_of_emod_eq_zero (Int.emod_eq_emod_iff_emod_sub_eq_zero.mp e)
  obtain ⟨m, hm⟩ := hd
  exact ⟨c, m, by omega⟩
theorem mod_of {x d D m : Int} (h : x = d + D * m) (h0 : 0 ≤ d) (h1 : d < D) : x % D = d := by
  rw [h, Int.add_mul_emod_self_left, Int.emod_eq_of_lt h0 h1]
theorem mul_inv {D R row : Int} (h1 : 1 ≤ D) (h2 : D ≤ 64) (h3 : 1 ≤ R) : ∃ c m : Int, mulAt D R row * c = 1 + D * m := by
  have h := mulAt_range row h1 h3 h2
  exact inv_ex h1 h2 h.1 h.2 (mulL_mem h1 h3 (mulAt_mem D R row)).2.2.2
theorem order_onto {D R row d : Int} (h1 : 1 ≤ D) (h2 : D ≤ 64) (h3 : 1 ≤ R) (h0 : 0 ≤ d) (hd : d < D) : ∃ p : Nat, p < D.toNat ∧ orderF D R row p = d := by
  obtain ⟨c, m, hc⟩ := mul_inv (row := row) h1 h2 h3
  have hp0 := Int.emod_nonneg (c * (d - row)) (by omega : D ≠ 0)
  have hp1 := Int.emod_lt_of_pos (c * (d - row)) (by omega : 0 < D)
  refine ⟨((c * (d - row)) % D).toNat, by omega, ?_⟩
  unfold orderF
  rw [Int.toNat_of_nonneg hp0]
  have e := Int.emod_add_mul_ediv (c * (d - row)) D
  have e1 : (c * (d - row)) % D = c * (d - row) - D * (c * (d - row) / D) := by omega
  generalize c * (d - row) / D = q at e1
  rw [e1]
  refine mod_of (m := m * (d - row) - mulAt D R row * q) ?_ h0 hd
  have e2 : mulAt D R row * (c * (d - row) - D * q) = (mulAt D R row * c) * (d - row) - D * (mulAt D R row * q) := by
    rw [Int.mul_sub, ← Int.mul_assoc, Int.mul_left_comm]
  rw [e2, hc, Int.add_mul, Int.one_mul, Int.mul_sub D, Int.mul_assoc]
  omega
theorem mod_eq_sub {x y D : Int} (h : x % D = y % D) : ∃ m, x - y = D * m := Int.dvd_of_emod_eq_zero (Int.emod_eq_emod_iff_emod_sub_eq_zero.mp h)
theorem order_one {D R row : Int} (h1 : 1 ≤ D) (h2 : D ≤ 64) (h3 : 1 ≤ R) {p q : Nat} (hp : p < D.toNat) (hq : q < D.toNat) (h : orderF D R row p = orderF D R row q) : p = q := by
  obtain ⟨c, m, hc⟩ := mul_inv (row := row) h1 h2 h3
  obtain ⟨n, hn⟩ := mod_eq_sub h
  have e1 : mulAt D R row * ((p : Int) - q) = D * n := by rw [Int.mul_sub]; omega
  have e2 : ((p : Int) - q) = D * (n * c - m * ((p : Int) - q)) := by
    have e3 : (mulAt D R row * c) * ((p : Int) - q) = (mulAt D R row * ((p : Int) - q)) * c := by rw [Int.mul_assoc, Int.mul_comm c, ← Int.mul_assoc]
    rw [hc, e1, Int.add_mul, Int.one_mul, Int.mul_assoc, Int.mul_assoc] at e3
    rw [Int.mul_sub]
    omega
  have e4 : (p : Int) % D = (q : Int) % D := by
    have : (p : Int) = q + D * (n * c - m * ((p : Int) - q)) := by omega
    rw [this, Int.add_mul_emod_self_left]
  rw [Int.emod_eq_of_lt (by omega) (by omega), Int.emod_eq_of_lt (by omega) (by omega)] at e4
  omega
theorem posL_mem : ∀ (l : List Int) (d i : Int), d ∈ l → ∃ j : Nat, j < l.length ∧ posL l d i = i + j ∧ rd l (j : Int) = d ∧ ∀ q : Nat, q < j → rd l (q : Int) ≠ d
  | [], _, _, h => by simp at h
  | x :: xs, d, i, h => by
    simp only [posL]
    by_cases he : d = x
    · exact ⟨0, by simp, by rw [if_pos he]; simp, by simp [rd, he], fun q hq => absurd hq (Nat.not_lt_zero _)⟩
    · rw [if_neg he]
      rcases List.mem_cons.mp h with rfl | h
      · exact absurd rfl he
      · obtain ⟨j, h1, h2, h3, h4⟩ := posL_mem xs d (i + 1) h
        refine ⟨j + 1, by simpa using h1, by rw [h2]; omega, ?_, fun q hq => ?_⟩
        · rw [← h3]; unfold rd; simp
        · cases q with
          | zero => intro e; exact he (by rw [← e]; simp [rd])
          | succ q =>
            have := h4 q (by omega)
            intro e
            apply this
            rw [← e]; unfold rd; simp
theorem posL_none : ∀ (l : List Int) (d i : Int), d ∉ l → posL l d i = -1
  | [], _, _, _ => rfl
  | x :: xs, d, i, h => by
    simp only [posL]
    rw [if_neg (fun e => h (by rw [e]; exact List.mem_cons_self))]
    exact posL_none xs d (i + 1) (fun e => h (List.mem_cons_of_mem _ e))
theorem order_mem {D R row d : Int} (h1 : 1 ≤ D) (h2 : D ≤ 64) (h3 : 1 ≤ R) (h0 : 0 ≤ d) (hd : d < D) : d ∈ orderL D R row := by
  obtain ⟨p, hp, e⟩ := order_onto (row := row) h1 h2 h3 h0 hd
  exact List.mem_map.mpr ⟨p, List.mem_range.mpr hp, e⟩
/-- Where a disk is in an order. -/
theorem pos_order {D R row d : Int} (h1 : 1 ≤ D) (h2 : D ≤ 64) (h3 : 1 ≤ R) (h0 : 0 ≤ d) (hd : d < D) :
    0 ≤ posL (orderL D R row) d 0 ∧ posL (orderL D R row) d 0 < D ∧ rd (orderL D R row) (posL (orderL D R row) d 0) = d := by
  obtain ⟨j, hj, e, hr, _⟩ := posL_mem _ d 0 (order_mem (row := row) h1 h2 h3 h0 hd)
  rw [orderL_length] at hj
  rw [e, Int.zero_add]
  exact ⟨by omega, by omega, hr⟩
end Go.Proofs.Ytiejibkjhmmpaaa.Q
