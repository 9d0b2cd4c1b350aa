/- One rack, a prime number of disks: two disks have two positions in one row of a period (plain words). -/
import Derived.Test.YtiejibkjhmmpaaaM8
namespace Go.Proofs.Ytiejibkjhmmpaaa.Q
open Go.RowKit Go.Proofs.YtiejibkjhmmpaaaW.PrintWords
set_option linter.unusedVariables false
/-- No number from x on, for m numbers, divides n. -/
def prFrom : Nat → Int → Int → Bool
  | 0, n, _ => decide (n > 1)
  | m + 1, n, x => if n % x = 0 then false else prFrom m n (x + 1)
theorem prFrom_spec : ∀ (m : Nat) (n x : Int), prFrom m n x = true → n > 1 ∧ ∀ y, x ≤ y → y < x + m → n % y ≠ 0
  | 0, n, x, h => ⟨of_decide_eq_true h, fun y h1 h2 => by omega⟩
  | m + 1, n, x, h => by
    simp only [prFrom] at h
    by_cases hz : n % x = 0
    · rw [if_pos hz] at h; cases h
    · rw [if_neg hz] at h
      obtain ⟨h1, h2⟩ := prFrom_spec m n (x + 1) h
      refine ⟨h1, fun y hy hy2 => ?_⟩
      by_cases e : y = x
      · subst e; exact hz
      · exact h2 y (by omega) (by omega)
def primeI (n : Int) : Bool := prFrom (n - 2).toNat n 2
theorem prime_gcd {n x : Int} (hp : primeI n = true) (h1 : 1 ≤ x) (h2 : x < n) : Int.gcd x n = 1 := by
  obtain ⟨h3, h4⟩ := prFrom_spec _ _ _ hp
  have hg : 0 < Int.gcd x n := Int.gcd_pos_of_ne_zero_left n (by omega)
  by_cases he : Int.gcd x n = 1
  · exact he
  · have hd : (Int.gcd x n : Int) ∣ n := Int.gcd_dvd_right ..
    have hx : (Int.gcd x n : Int) ∣ x := Int.gcd_dvd_left ..
    have hle : (Int.gcd x n : Int) ≤ x := Int.le_of_dvd (by omega) hx
    exact absurd (Int.emod_eq_zero_of_dvd hd) (h4 _ (by omega) (by omega))
theorem primes_mul : ((List.range 32).all fun n => !primeI (n : Int) || mulL (n : Int) 1 == (List.range (n - 1)).map fun j => ((j + 1 : Nat) : Int)) = true := by decide +kernel
theorem mul_prime {n : Int} (hp : primeI n = true) (h2 : n ≤ 31) : mulL n 1 = (List.range (n - 1).toNat).map fun j => ((j + 1 : Nat) : Int) := by
  obtain ⟨h3, _⟩ := prFrom_spec _ _ _ hp
  obtain ⟨x, rfl⟩ := Int.eq_ofNat_of_zero_le (by omega : 0 ≤ n)
  have h := List.all_eq_true.mp primes_mul x (List.mem_range.mpr (by omega))
  rw [hp] at h
  have h5 : mulL (x : Int) 1 = (List.range (x - 1)).map fun j => ((j + 1 : Nat) : Int) := by simpa using h
  rw [h5, show ((x : Int) - 1).toNat = x - 1 by omega]
/-- The multiplier of a row of the first period. -/
theorem mulAt_prime {n k : Int} (hp : primeI n = true) (h2 : n ≤ 31) (h0 : 0 ≤ k) (hk : k < n * (n - 1)) : mulAt n 1 k = k / n + 1 := by
  obtain ⟨h3, _⟩ := prFrom_spec _ _ _ hp
  have hq0 : 0 ≤ k / n := Int.ediv_nonneg h0 (by omega)
  have hq1 : k / n < n - 1 := Int.ediv_lt_of_lt_mul (by omega) (by rw [Int.mul_comm]; exact hk)
  unfold mulAt
  rw [mul_prime hp h2]
  have hl : (((List.range (n - 1).toNat).map fun j => ((j + 1 : Nat) : Int)).length : Int) = n - 1 := by simp; omega
  rw [hl, Int.emod_eq_of_lt hq0 hq1]
  unfold rd
  rw [List.getD_eq_getElem?_getD, List.getElem?_map, List.getElem?_range (by omega)]
  simp; omega
theorem len_prime {n : Int} (hp : primeI n = true) (h2 : n ≤ 31) : ((mulL n 1).length : Int) = n - 1 := by
  obtain ⟨h3, _⟩ := prFrom_spec _ _ _ hp
  rw [mul_prime hp h2]; simp; omega
theorem order_periods {D R : Int} (h1 : 1 ≤ D) : ∀ (t : Nat) (row : Int), orderL D R (t * (D * ((mulL D R).length : Int)) + row) = orderL D R row
  | 0, row => by simp
  | t + 1, row => by
    have e : ((t + 1 : Nat) : Int) * (D * ((mulL D R).length : Int)) + row = (t * (D * ((mulL D R).length : Int)) + row) + D * ((mulL D R).length : Int) := by
      have : ((t + 1 : Nat) : Int) = (t : Int) + 1 := rfl
      rw [this, Int.add_mul, Int.one_mul]; omega
    rw [e, order_repeats h1]
    exact order_periods h1 t row
/-- The only row of a period in which disk d has position p and disk e has position q. -/
theorem spread_one {n p q d e : Int} (hp : primeI n = true) (h2 : n ≤ 31) (hp0 : 0 ≤ p) (hp1 : p < n) (hq0 : 0 ≤ q) (hq1 : q < n) (hd0 : 0 ≤ d) (hd1 : d < n) (he0 : 0 ≤ e) (he1 : e < n) (hpq : p ≠ q) (hde : d ≠ e) :
    ∃ k0 : Int, 0 ≤ k0 ∧ k0 < n * (n - 1) ∧ ∀ k, 0 ≤ k → k < n * (n - 1) → ((orderF n 1 k p.toNat = d ∧ orderF n 1 k q.toNat = e) ↔ k = k0) := by
  obtain ⟨h3, _⟩ := prFrom_spec _ _ _ hp
  -- the inverse of p - q
  have hx0 : 0 ≤ (p - q) % n := Int.emod_nonneg _ (by omega)
  have hx1 : (p - q) % n < n := Int.emod_lt_of_pos _ (by omega)
  have hx2 : (p - q) % n ≠ 0 := fun h => by
    have h' : p % n = q % n := Int.emod_eq_emod_iff_emod_sub_eq_zero.mpr h
    rw [Int.emod_eq_of_lt hp0 hp1, Int.emod_eq_of_lt hq0 hq1] at h'
    exact hpq h'
  obtain ⟨c, m, hc⟩ := inv_ex (by omega : 1 ≤ n) (by omega) (by omega : 1 ≤ (p - q) % n) (by omega) (prime_gcd hp (by omega) hx1)
  have hdiv := Int.emod_add_mul_ediv (p - q) n
  generalize (p - q) / n = s at hdiv
  have hc' : (p - q) * c = 1 + n * (m + s * c) := by
    rw [← hdiv, Int.add_mul, hc, Int.mul_add, Int.mul_assoc]; omega
  generalize m + s * c = u at hc'
  -- the multiplier
  have ha0 : 0 ≤ ((d - e) * c) % n := Int.emod_nonneg _ (by omega)
  have ha1 : ((d - e) * c) % n < n := Int.emod_lt_of_pos _ (by omega)
  have hadiv := Int.emod_add_mul_ediv ((d - e) * c) n
  generalize (d - e) * c / n = v at hadiv
  have hapq : ((d - e) * c) % n * (p - q) = (d - e) + n * ((d - e) * u - v * (p - q)) := by
    have e1 : ((d - e) * c) % n = (d - e) * c - n * v := by omega
    have e2 : (d - e) * c * (p - q) = (d - e) * ((p - q) * c) := by rw [Int.mul_assoc, Int.mul_comm c]
    rw [e1, Int.sub_mul, e2, hc', Int.mul_add, Int.mul_one, Int.mul_left_comm (d - e) n u, Int.mul_assoc n v (p - q), Int.mul_sub n]; omega
  have hane : ((d - e) * c) % n ≠ 0 := fun h => by
    rw [h, Int.zero_mul] at hapq
    have h' : d % n = e % n := by
      have : d = e + n * (-((d - e) * u - v * (p - q))) := by rw [Int.mul_neg]; omega
      rw [this, Int.add_mul_emod_self_left]
    rw [Int.emod_eq_of_lt hd0 hd1, Int.emod_eq_of_lt he0 he1] at h'
    exact hde h'
  generalize hA : ((d - e) * c) % n = a at ha0 ha1 hapq hane hadiv
  generalize (d - e) * u - v * (p - q) = y at hapq
  have hb0 : 0 ≤ (d - a * p) % n := Int.emod_nonneg _ (by omega)
  have hb1 : (d - a * p) % n < n := Int.emod_lt_of_pos _ (by omega)
  have hbdiv := Int.emod_add_mul_ediv (d - a * p) n
  generalize hB : (d - a * p) % n = b at hb0 hb1 hbdiv
  generalize (d - a * p) / n = z at hbdiv
  have hk1 : n * (a - 1) + b < n * (n - 1) := by
    have : n * (a - 1) ≤ n * (n - 2) := Int.mul_le_mul_of_nonneg_left (by omega) (by omega)
    have e1 : n * (n - 1) = n * (n - 2) + n := by rw [Int.mul_sub, Int.mul_sub, Int.mul_one]; omega
    omega
  have hk0 : 0 ≤ n * (a - 1) + b := by have : 0 ≤ n * (a - 1) := Int.mul_nonneg (by omega) (by omega); omega
  refine ⟨n * (a - 1) + b, hk0, hk1, fun k hk hk' => ?_⟩
  have hkdiv := Int.emod_add_mul_ediv k n
  have hkm0 : 0 ≤ k % n := Int.emod_nonneg _ (by omega)
  have hkm1 : k % n < n := Int.emod_lt_of_pos _ (by omega)
  have hq0' : 0 ≤ k / n := Int.ediv_nonneg hk (by omega)
  have hq1' : k / n < n - 1 := Int.ediv_lt_of_lt_mul (by omega) (by rw [Int.mul_comm]; exact hk')
  unfold orderF
  rw [mulAt_prime hp h2 hk hk', Int.toNat_of_nonneg hp0, Int.toNat_of_nonneg hq0]
  generalize hQ : k / n = w at *
  generalize hM : k % n = r at *
  constructor
  · rintro ⟨e1, e2⟩
    -- a is the multiplier
    obtain ⟨g1, hg1⟩ : ∃ g, (w + 1) * p + k - d = n * g := by
      have := Int.emod_add_mul_ediv ((w + 1) * p + k) n
      exact ⟨((w + 1) * p + k) / n, by omega⟩
    obtain ⟨g2, hg2⟩ : ∃ g, (w + 1) * q + k - e = n * g := by
      have := Int.emod_add_mul_ediv ((w + 1) * q + k) n
      exact ⟨((w + 1) * q + k) / n, by omega⟩
    have e3 : (w + 1) * (p - q) = (d - e) + n * (g1 - g2) := by rw [Int.mul_sub, Int.mul_sub n]; omega
    have e4 : (w + 1) = a + n * (v + (g1 - g2) * c - (w + 1) * u) := by
      have f1 : (w + 1) * ((p - q) * c) = (d - e) * c + n * ((g1 - g2) * c) := by rw [← Int.mul_assoc, e3, Int.add_mul, Int.mul_assoc]
      rw [hc', Int.mul_add, Int.mul_one] at f1
      have f2 : (w + 1) * (n * u) = n * ((w + 1) * u) := Int.mul_left_comm _ _ _
      rw [Int.mul_sub, Int.mul_add]
      omega
    have e5 : (w + 1) % n = a % n := by
      have := congrArg (· % n) e4
      simpa [Int.add_mul_emod_self_left] using this
    rw [Int.emod_eq_of_lt (by omega) (by omega), Int.emod_eq_of_lt (by omega) (by omega)] at e5
    have e6 : r = b := by
      have f1 : (r + n * (w - g1)) = d - a * p := by rw [Int.mul_sub, ← e5]; omega
      have f2 : (d - a * p) % n = r := by rw [← f1, Int.add_mul_emod_self_left, Int.emod_eq_of_lt hkm0 hkm1]
      omega
    rw [← e5, ← e6, show w + 1 - 1 = w by omega]; omega
  · rintro hkk
    have e5 : w = a - 1 ∧ r = b := by
      have f1 : (b + n * (a - 1)) % n = b := by rw [Int.add_mul_emod_self_left, Int.emod_eq_of_lt hb0 hb1]
      have f2 : k = b + n * (a - 1) := by omega
      have f3 : r = b := by rw [← hM, f2, f1]
      have f4 : n * w = n * (a - 1) := by omega
      exact ⟨Int.eq_of_mul_eq_mul_left (by omega) f4, f3⟩
    obtain ⟨rfl, rfl⟩ := e5
    rw [show a - 1 + 1 = a by omega]
    refine ⟨mod_of (m := a - 1 - z) ?_ hd0 hd1, mod_of (m := a - 1 - z - y) ?_ he0 he1⟩
    · rw [Int.mul_sub]; omega
    · rw [Int.mul_sub, Int.mul_sub n (a - 1)]
      rw [Int.mul_sub] at hapq
      omega
end Go.Proofs.Ytiejibkjhmmpaaa.Q
