/- LayoutDeclusters in plain words. -/
import Derived.Test.YtiejibkjhmmpaaaL2
import Derived.Test.YtiejibkjhmmpaaaM10
import Derived.Test.YtiejibkjhmmpaaaQF7
namespace Go.Proofs.Ytiejibkjhmmpaaa.Q
open Go.RowKit Go.Proofs.YtiejibkjhmmpaaaW.PrintWords
set_option linter.unusedVariables false
/-- The pairs of different positions of units of one group. -/
def prs (G w : Nat) : List (Nat × Nat) := (List.range (G * w)).flatMap fun p => ((List.range (G * w)).filter fun q => p != q && p / w == q / w).map fun q => (p, q)
theorem prs_all : ((List.range 8).all fun n => (List.range n).all fun S => (List.range (n + 1)).all fun w => w == 0 || ((prs ((n - S) / w) w).length == w * (w - 1) * ((n - S) / w) && decide (prs ((n - S) / w) w).Nodup)) = true := by decide +kernel
theorem prs_mem {G w p q : Nat} : (p, q) ∈ prs G w ↔ p < G * w ∧ q < G * w ∧ p ≠ q ∧ p / w = q / w := by
  unfold prs
  simp only [List.mem_flatMap, List.mem_range, List.mem_map, List.mem_filter, Prod.mk.injEq, Bool.and_eq_true, bne_iff_ne, beq_iff_eq]
  constructor
  · rintro ⟨p', hp, q', ⟨hq, h1, h2⟩, rfl, rfl⟩
    exact ⟨hp, hq, h1, h2⟩
  · rintro ⟨hp, hq, h1, h2⟩
    exact ⟨p, hp, q, ⟨hq, h1, h2⟩, rfl, rfl⟩
/-- Have two disks units of one stripe in a row? -/
def both (n S w a b : Int) (k : Nat) : Bool :=
  decide (posL (orderL n 1 (k : Int)) a 0 < grp n S w * w ∧ posL (orderL n 1 (k : Int)) b 0 < grp n S w * w ∧ posL (orderL n 1 (k : Int)) a 0 / w = posL (orderL n 1 (k : Int)) b 0 / w)
theorem both_count {n S w a b : Int} (hp : primeI n = true) (h7 : n ≤ 7) (hS0 : 0 ≤ S) (hS : S < n) (hw0 : 1 ≤ w) (hw : w ≤ n) (ha0 : 0 ≤ a) (ha : a < n) (hb0 : 0 ≤ b) (hb : b < n) (hab : a ≠ b) :
    ((cn (both n S w a b) (n * (n - 1)).toNat : Nat) : Int) = w * (w - 1) * grp n S w := by
  obtain ⟨h3, _⟩ := prFrom_spec _ _ _ hp
  obtain ⟨x, rfl⟩ := Int.eq_ofNat_of_zero_le (by omega : 0 ≤ n)
  obtain ⟨y, rfl⟩ := Int.eq_ofNat_of_zero_le hS0
  obtain ⟨z, rfl⟩ := Int.eq_ofNat_of_zero_le (by omega : 0 ≤ w)
  have hz : (z == 0) = false := beq_eq_false_iff_ne.mpr (by omega)
  have h := List.all_eq_true.mp (List.all_eq_true.mp (List.all_eq_true.mp prs_all x (List.mem_range.mpr (by omega))) y (List.mem_range.mpr (by omega))) z (List.mem_range.mpr (by omega))
  rw [hz, Bool.false_or, Bool.and_eq_true] at h
  obtain ⟨hlen, hnd⟩ := h
  have hlen' : (prs ((x - y) / z) z).length = z * (z - 1) * ((x - y) / z) := eq_of_beq hlen
  have hnd' := of_decide_eq_true hnd
  have hG : grp (x : Int) (y : Int) (z : Int) = (((x - y) / z : Nat) : Int) := by
    unfold grp
    rw [show ((x : Int) - (y : Int)) = ((x - y : Nat) : Int) by omega]; rfl
  generalize hGG : (x - y) / z = G at *
  have hGz : G * z ≤ x := by
    have : (x - y) / z * z ≤ x - y := Nat.div_mul_le_self _ _
    rw [hGG] at this; omega
  have hc := cn_list (fun k : Nat => ((posL (orderL (x : Int) 1 (k : Int)) a 0).toNat, (posL (orderL (x : Int) 1 (k : Int)) b 0).toNat)) ((x : Int) * ((x : Int) - 1)).toNat (prs G z) hnd' (fun pq hm => by
    obtain ⟨p, q⟩ := pq
    obtain ⟨hp1, hq1, hpq, _⟩ := prs_mem.mp hm
    obtain ⟨k0, hk0, hk1, hone⟩ := spread_one hp (by omega) (by omega : (0 : Int) ≤ (p : Int)) (by omega) (by omega : (0 : Int) ≤ (q : Int)) (by omega) ha0 ha hb0 hb (by omega) hab
    refine ⟨k0.toNat, by omega, fun k hk => ?_⟩
    have hpa := (pos_order (R := 1) (row := (k : Int)) (by omega : 1 ≤ (x : Int)) (by omega) (by omega) ha0 ha).1
    have hpb := (pos_order (R := 1) (row := (k : Int)) (by omega : 1 ≤ (x : Int)) (by omega) (by omega) hb0 hb).1
    have i1 := pos_iff (D := (x : Int)) (R := 1) (row := (k : Int)) (d := a) (p := (p : Int)) (by omega) (by omega) (by omega) ha0 ha (by omega) (by omega)
    have i2 := pos_iff (D := (x : Int)) (R := 1) (row := (k : Int)) (d := b) (p := (q : Int)) (by omega) (by omega) (by omega) hb0 hb (by omega) (by omega)
    have i3 := hone (k : Int) (by omega) (by omega)
    rw [← i1, ← i2] at i3
    rw [Prod.mk.injEq]
    constructor
    · rintro ⟨e1, e2⟩
      have := i3.mp ⟨by omega, by omega⟩
      omega
    · intro e
      have := i3.mpr (by omega)
      omega)
  have e : cn (both (x : Int) (y : Int) (z : Int) a b) ((x : Int) * ((x : Int) - 1)).toNat = cn (fun k : Nat => decide (((posL (orderL (x : Int) 1 (k : Int)) a 0).toNat, (posL (orderL (x : Int) 1 (k : Int)) b 0).toNat) ∈ prs G z)) ((x : Int) * ((x : Int) - 1)).toNat := by
    refine cn_congr _ (fun k _ => ?_)
    unfold both
    refine decide_eq_decide.mpr ?_
    obtain ⟨pa0, pa1, pa2⟩ := pos_order (R := 1) (row := (k : Int)) (by omega : 1 ≤ (x : Int)) (by omega) (by omega) ha0 ha
    obtain ⟨pb0, pb1, pb2⟩ := pos_order (R := 1) (row := (k : Int)) (by omega : 1 ≤ (x : Int)) (by omega) (by omega) hb0 hb
    have hne : posL (orderL (x : Int) 1 (k : Int)) a 0 ≠ posL (orderL (x : Int) 1 (k : Int)) b 0 := fun e => hab (by rw [← pa2, ← pb2, e])
    rw [prs_mem, hG]
    obtain ⟨u, hu⟩ := Int.eq_ofNat_of_zero_le pa0
    obtain ⟨v, hv⟩ := Int.eq_ofNat_of_zero_le pb0
    rw [hu, hv] at hne ⊢
    have e1 : ((u : Int) / (z : Int) = (v : Int) / (z : Int)) ↔ u / z = v / z := by
      rw [← Int.natCast_ediv, ← Int.natCast_ediv]; omega
    have e2 : ((G : Int) * (z : Int)) = ((G * z : Nat) : Int) := by simp
    rw [e1, e2]
    simp only [Int.toNat_natCast]
    constructor
    · rintro ⟨q1, q2, q3⟩; exact ⟨by omega, by omega, by omega, q3⟩
    · rintro ⟨q1, q2, _, q3⟩; exact ⟨by omega, by omega, q3⟩
  have e9 := e.trans ((cn_congr _ (fun k _ => decide_eq_decide.mpr Iff.rfl)).trans hc)
  rw [e9, hlen', hG]
  rw [Int.natCast_mul, Int.natCast_mul, show ((z - 1 : Nat) : Int) = (z : Int) - 1 by omega]
theorem ev_dec2 {n N S w a b t : Int} (hp : primeI n = true) (h7 : n ≤ 7) (hN : N = 3 * (n * (n - 1))) (ok : okB n 1 N S 1 1 = true) (hw0 : 1 ≤ w) (hw : w ≤ n) (ha0 : 0 ≤ a) (ha : a < n) (hb0 : 0 ≤ b) (hb : b < n) (hab : a ≠ b) (ht0 : 0 ≤ t) (ht : t ≤ 2)
    (next : Ev (fun k => solventlaw14_LayoutDeclusters.l1 k true n (n * (n - 1)) w (t * (n * (n - 1))) a (wrap64 (b + 1)) n 1 N S 1 1) true) : ∀ (m i : Nat) (c : Int), (i : Int) + m = n * (n - 1) → 0 ≤ c → c ≤ i → c + (cn (fun j => both n S w a b (i + j)) m : Nat) = w * (w - 1) * grp n S w →
    Ev (fun k => solventlaw14_LayoutDeclusters.l2 k true n (n * (n - 1)) w (t * (n * (n - 1))) a b c (t * (n * (n - 1)) + i) n 1 N S 1 1) true
  | 0, i, c, h, hc0, hc1, hc => by
    have h31 := okB_iff.mp ok
    have hv : vB n 1 N S 1 1 w = true := vB_iff.mpr ⟨ok, by omega, by omega⟩
    have hgr := grp_range hv
    have hP0 : n * (n - 1) ≤ 7 * 6 := Int.mul_le_mul h7 (by omega) (by omega) (by omega)
    have hP1 : 0 ≤ n * (n - 1) := Int.mul_nonneg (by omega) (by omega)
    have hT1 : t * (n * (n - 1)) ≤ 2 * 42 := Int.mul_le_mul ht hP0 hP1 (by omega)
    have hT0 : 0 ≤ t * (n * (n - 1)) := Int.mul_nonneg ht0 hP1
    have hW0 : w * (w - 1) ≤ 7 * 6 := Int.mul_le_mul (by omega) (by omega) (by omega) (by omega)
    have hW1 : 0 ≤ w * (w - 1) := Int.mul_nonneg (by omega) (by omega)
    have hG := ev_lgroups n 1 N S 1 1 w
    rw [show grpOf (vB n 1 N S 1 1 w) n S w = grp n S w by unfold grpOf; rw [if_pos hv]] at hG
    have hg2 : grp n S w ≤ 7 := by
      have : grp n S w * 1 ≤ grp n S w * w := Int.mul_le_mul_of_nonneg_left hw0 hgr.1
      omega
    have hWG : w * (w - 1) * grp n S w ≤ 42 * 7 := Int.mul_le_mul hW0 hg2 hgr.1 (by omega)
    have hWG0 : 0 ≤ w * (w - 1) * grp n S w := Int.mul_nonneg hW1 hgr.1
    refine Ev.step (fun k => by simp only [solventlaw14_LayoutDeclusters.l2]; rfl) ?_
    rw [w64 (x := t * (n * (n - 1)) + n * (n - 1)) (by omega) (by omega), w64 (x := w - 1) (by omega) (by omega), w64 (x := w * (w - 1)) (by omega) (by omega)]
    refine ev_neg (by omega) (Ev.bind hG (ev_pos ?_ next))
    rw [w64 (by omega) (by omega), ← hc]
    simp [cn]
  | m + 1, i, c, h, hc0, hc1, hc => by
    have h31 := okB_iff.mp ok
    have hv : vB n 1 N S 1 1 w = true := vB_iff.mpr ⟨ok, by omega, by omega⟩
    have hP0 : n * (n - 1) ≤ 7 * 6 := Int.mul_le_mul h7 (by omega) (by omega) (by omega)
    have hP1 : 0 ≤ n * (n - 1) := Int.mul_nonneg (by omega) (by omega)
    have hT1 : t * (n * (n - 1)) ≤ 2 * (n * (n - 1)) := Int.mul_le_mul_of_nonneg_right ht hP1
    have hT0 : 0 ≤ t * (n * (n - 1)) := Int.mul_nonneg ht0 hP1
    have hrow : rowB n 1 N S 1 1 (t * (n * (n - 1)) + i) = true := rowB_iff.mpr ⟨ok, by omega, by omega⟩
    have hrep : orderL n 1 (t * (n * (n - 1)) + i) = orderL n 1 i := by
      have := order_periods (D := n) (R := 1) (by omega) t.toNat (i : Int)
      rw [len_prime hp (by omega), Int.toNat_of_nonneg ht0] at this
      exact this
    have fa := findF_ok hrow hv ha0 ha
    have fb := findF_ok hrow hv hb0 hb
    rw [hrep] at fa fb
    have ea := ev_lfind n 1 N S 1 1 (t * (n * (n - 1)) + i) w a
    have eb := ev_lfind n 1 N S 1 1 (t * (n * (n - 1)) + i) w b
    rw [fa] at ea
    rw [fb] at eb
    have hcnt : cn (fun j => both n S w a b (i + j)) (m + 1) = (if both n S w a b i then 1 else 0) + cn (fun j => both n S w a b (i + 1 + j)) m := by
      rw [Nat.add_comm m 1, cn_add]
      have e : (fun j => both n S w a b (i + (1 + j))) = fun j => both n S w a b (i + 1 + j) := by funext j; rw [Nat.add_assoc]
      rw [e]; simp [cn]
    rw [hcnt] at hc
    have step : ∀ c' : Int, 0 ≤ c' → c' ≤ (i : Int) + 1 → c' + (cn (fun j => both n S w a b (i + 1 + j)) m : Nat) = w * (w - 1) * grp n S w →
        Ev (fun k => solventlaw14_LayoutDeclusters.l2 k true n (n * (n - 1)) w (t * (n * (n - 1))) a b c' (wrap64 (t * (n * (n - 1)) + i + 1)) n 1 N S 1 1) true := fun c' h0 h1 h2 => by
      rw [w64 (by omega) (by omega), show t * (n * (n - 1)) + (i : Int) + 1 = t * (n * (n - 1)) + ((i + 1 : Nat) : Int) by omega]
      exact ev_dec2 hp h7 hN ok hw0 hw ha0 ha hb0 hb hab ht0 ht next m (i + 1) c' (by omega) h0 (by omega) h2
    refine Ev.step (fun k => by simp only [solventlaw14_LayoutDeclusters.l2]; rfl) ?_
    rw [w64 (x := t * (n * (n - 1)) + n * (n - 1)) (by omega) (by omega)]
    refine ev_pos (by omega) (Ev.bind ea (Ev.bind eb ?_))
    by_cases h1 : posL (orderL n 1 (i : Int)) a 0 ≥ grp n S w * w
    · rw [if_pos h1]
      refine ev_neg (by decide) (step c hc0 (by omega) ?_)
      have hf : both n S w a b i = false := decide_eq_false (fun h => by omega)
      rw [hf] at hc; simpa using hc
    · rw [if_neg h1]
      refine ev_pos rfl ?_
      by_cases h2 : posL (orderL n 1 (i : Int)) b 0 ≥ grp n S w * w
      · rw [if_pos h2]
        refine ev_neg (by decide) (step c hc0 (by omega) ?_)
        have hf : both n S w a b i = false := decide_eq_false (fun h => by omega)
        rw [hf] at hc; simpa using hc
      · rw [if_neg h2]
        refine ev_pos rfl ?_
        by_cases h3 : posL (orderL n 1 (i : Int)) a 0 / w = posL (orderL n 1 (i : Int)) b 0 / w
        · refine ev_pos (by simp [h3]) ?_
          rw [w64 (x := c + 1) (by omega) (by omega)]
          refine step (c + 1) (by omega) (by omega) ?_
          have hf : both n S w a b i = true := decide_eq_true ⟨by omega, by omega, h3⟩
          rw [hf] at hc
          simp only [if_true] at hc
          omega
        · refine ev_neg (by simp [h3]) (step c hc0 (by omega) ?_)
          have hf : both n S w a b i = false := decide_eq_false (fun h => h3 h.2.2)
          rw [hf] at hc; simpa using hc
theorem ev_dec1 {n N S w a t : Int} (hp : primeI n = true) (h7 : n ≤ 7) (hN : N = 3 * (n * (n - 1))) (ok : okB n 1 N S 1 1 = true) (hw0 : 1 ≤ w) (hw : w ≤ n) (ha0 : 0 ≤ a) (ha : a < n) (ht0 : 0 ≤ t) (ht : t ≤ 2)
    (next : Ev (fun k => solventlaw14_LayoutDeclusters.l0 k true n (n * (n - 1)) w (t * (n * (n - 1))) (wrap64 (a + 1)) n 1 N S 1 1) true) : ∀ (m : Nat) (b : Int), 0 ≤ b → b + m = a →
    Ev (fun k => solventlaw14_LayoutDeclusters.l1 k true n (n * (n - 1)) w (t * (n * (n - 1))) a b n 1 N S 1 1) true
  | 0, b, h0, h => by
    refine Ev.step (fun k => by simp only [solventlaw14_LayoutDeclusters.l1]; rfl) ?_
    exact ev_neg (by omega) next
  | m + 1, b, h0, h => by
    have h31 := okB_iff.mp ok
    have hP1 : 0 ≤ n * (n - 1) := Int.mul_nonneg (by omega) (by omega)
    refine Ev.step (fun k => by simp only [solventlaw14_LayoutDeclusters.l1]; rfl) ?_
    refine ev_pos (by omega) ?_
    have hcount := both_count (n := n) (S := S) (w := w) (a := a) (b := b) hp h7 (by omega) (by omega) hw0 hw ha0 ha h0 (by omega) (by omega)
    have := ev_dec2 hp h7 hN ok hw0 hw ha0 ha h0 (by omega) (by omega) ht0 ht (by
      rw [w64 (x := b + 1) (by omega) (by omega)]
      exact ev_dec1 hp h7 hN ok hw0 hw ha0 ha ht0 ht next m (b + 1) (by omega) (by omega)) (n * (n - 1)).toNat 0 0 (by omega) (by omega) (by omega) (by
      have e : (fun j => both n S w a b (0 + j)) = both n S w a b := by funext j; rw [Nat.zero_add]
      rw [e, hcount]; omega)
    simpa using this
theorem ev_dec0 {n N S w t : Int} (hp : primeI n = true) (h7 : n ≤ 7) (hN : N = 3 * (n * (n - 1))) (ok : okB n 1 N S 1 1 = true) (hw0 : 1 ≤ w) (hw : w ≤ n) (ht0 : 0 ≤ t) (ht : t ≤ 2) : ∀ (m : Nat) (a : Int), 0 ≤ a → a + m = n →
    Ev (fun k => solventlaw14_LayoutDeclusters.l0 k true n (n * (n - 1)) w (t * (n * (n - 1))) a n 1 N S 1 1) true
  | 0, a, h0, h => by
    refine Ev.step (fun k => by simp only [solventlaw14_LayoutDeclusters.l0]; rfl) ?_
    exact ev_neg (by omega) (Ev.now _)
  | m + 1, a, h0, h => by
    refine Ev.step (fun k => by simp only [solventlaw14_LayoutDeclusters.l0]; rfl) ?_
    refine ev_pos (by omega) (ev_dec1 hp h7 hN ok hw0 hw h0 (by omega) ht0 ht ?_ a.toNat 0 (by omega) (by omega))
    rw [w64 (x := a + 1) (by omega) (by omega)]
    exact ev_dec0 hp h7 hN ok hw0 hw ht0 ht m (a + 1) (by omega) (by omega)
theorem wfu8 {x : Int} (h : (Lit.int .u8 x).wf = true) : 0 ≤ x ∧ x ≤ 255 := by
  have h' : (decide (IntKind.u8.min ≤ x) && decide (x ≤ IntKind.u8.max)) = true := h
  rw [Bool.and_eq_true, decide_eq_true_iff, decide_eq_true_iff] at h'
  have e1 : IntKind.u8.min = 0 := by decide
  have e2 : IntKind.u8.max = 255 := by decide
  omega
theorem four_primes {x : Int} (h0 : 0 ≤ x) (h : x < 4) : rd [2, 3, 5, 7] x = 2 ∨ rd [2, 3, 5, 7] x = 3 ∨ rd [2, 3, 5, 7] x = 5 ∨ rd [2, 3, 5, 7] x = 7 := by
  have : x = 0 ∨ x = 1 ∨ x = 2 ∨ x = 3 := by omega
  rcases this with rfl | rfl | rfl | rfl <;> decide
theorem pure7 (p s w f : Int) (hp : (Lit.int .u8 p).wf = true) (hs : (Lit.int .u8 s).wf = true) (hw : (Lit.int .u8 w).wf = true) (hf : (Lit.int .u8 f).wf = true) : ∃ k, solventlaw14_LayoutDeclusters.f k p s w f = some true := by
  have hp := wfu8 hp
  have hs := wfu8 hs
  have hw := wfu8 hw
  have hf := wfu8 hf
  refine Ev.rounds (r := true) ?_
  unfold solventlaw14_LayoutDeclusters.f
  have hm0 : 0 ≤ p % 4 := Int.emod_nonneg _ (by omega)
  have hm1 : p % 4 < 4 := Int.emod_lt_of_pos _ (by omega)
  refine Ev.bind ev_sanity14 (ev_some ?_)
  rw [tm hp.1]
  refine ev_pos hm0 (ev_pos hm1 ?_)
  have hn := four_primes hm0 hm1
  have hprime : primeI (rd [2, 3, 5, 7] (p % 4)) = true ∧ 2 ≤ rd [2, 3, 5, 7] (p % 4) ∧ rd [2, 3, 5, 7] (p % 4) ≤ 7 := by
    rcases hn with e | e | e | e <;> rw [e] <;> decide
  generalize rd [2, 3, 5, 7] (p % 4) = n at hprime
  obtain ⟨hpr, hn2, hn7⟩ := hprime
  have hP0 : n * (n - 1) ≤ 7 * 6 := Int.mul_le_mul hn7 (by omega) (by omega) (by omega)
  have hP1 : 1 * 1 ≤ n * (n - 1) := Int.mul_le_mul (by omega) (by omega) (by omega) (by omega)
  have hs0 : 0 ≤ s % n := Int.emod_nonneg _ (by omega)
  have hs1 : s % n < n := Int.emod_lt_of_pos _ (by omega)
  have hw0 : 0 ≤ w % n := Int.emod_nonneg _ (by omega)
  have hw1 : w % n < n := Int.emod_lt_of_pos _ (by omega)
  have hf0 : 0 ≤ f % 3 := Int.emod_nonneg _ (by omega)
  have hf1 : f % 3 < 3 := Int.emod_lt_of_pos _ (by omega)
  have hT1 : f % 3 * (n * (n - 1)) ≤ 2 * 42 := Int.mul_le_mul (by omega) hP0 (by omega) (by omega)
  have hT0 : 0 ≤ f % 3 * (n * (n - 1)) := Int.mul_nonneg hf0 (by omega)
  refine ev_neg (by omega) ?_
  rw [w64 (x := n - 1) (by omega) (by omega), w64 (x := n * (n - 1)) (by omega) (by omega), w64 (x := w) (by omega) (by omega), w64 (x := f) (by omega) (by omega), w64 (x := s) (by omega) (by omega), tm hw.1, tm hf.1, tm hs.1,
    w64 (x := 1 + w % n) (by omega) (by omega), w64 (x := f % 3 * (n * (n - 1))) (by omega) (by omega), w64 (x := 3 * (n * (n - 1))) (by omega) (by omega)]
  have ok : okB n 1 (3 * (n * (n - 1))) (s % n) 1 1 = true := okB_iff.mpr (by refine ⟨by omega, by omega, by omega, by omega, by omega, by omega, by omega, by omega, by omega, by omega, by omega, by omega, Int.emod_one n⟩)
  exact ev_dec0 hpr hn7 rfl ok (by omega) (by omega) hf0 (by omega) n.toNat 0 (by omega) (by omega)
end Go.Proofs.Ytiejibkjhmmpaaa.Q
