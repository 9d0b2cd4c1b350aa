/- Fair distributions, in plain words: what makes one fair, that it is the only one, and that more to distribute is nobody's loss. -/
import Derived.Test.YtdapoclangoobaaU
namespace Go.Proofs.Ytdapoclangoobaa.Q
open Go.RowKit Go.Proofs.YtdapoclangoobaaW.PrintWords Go.Proofs.YtdapoclangoobaaW.PrintMore
set_option linter.unusedVariables false
def sumF (f : Nat → Int) : Nat → Int
  | 0 => 0
  | n + 1 => sumF f n + f n
theorem sumF_congr {f g : Nat → Int} : ∀ n, (∀ i, i < n → f i = g i) → sumF f n = sumF g n
  | 0, _ => rfl
  | n + 1, h => by simp only [sumF]; rw [sumF_congr n (fun i hi => h i (by omega)), h n (by omega)]
theorem sumF_le {f g : Nat → Int} : ∀ n, (∀ i, i < n → f i ≤ g i) → sumF f n ≤ sumF g n
  | 0, _ => Int.le_refl _
  | n + 1, h => by simp only [sumF]; have := sumF_le n (fun i hi => h i (by omega)); have := h n (by omega); omega
theorem sumF_lt {f g : Nat → Int} : ∀ n, (∀ i, i < n → f i ≤ g i) → ∀ j, j < n → f j < g j → sumF f n < sumF g n
  | 0, _, j, hj, _ => absurd hj (Nat.not_lt_zero _)
  | n + 1, h, j, hj, hl => by
    simp only [sumF]
    by_cases e : j = n
    · subst e; have := sumF_le j (fun i hi => h i (by omega)); omega
    · have := sumF_lt n (fun i hi => h i (by omega)) j (by omega) hl; have := h n (by omega); omega
theorem sumF_zero : ∀ n, sumF (fun _ => 0) n = 0
  | 0 => rfl
  | n + 1 => by simp only [sumF]; rw [sumF_zero n]; rfl
theorem sumF_bound {f : Nat → Int} {b : Int} : ∀ n : Nat, (∀ i, i < n → f i ≤ b) → sumF f n ≤ n * b
  | 0, _ => by simp [sumF]
  | n + 1, h => by
    simp only [sumF]
    have h1 := sumF_bound n (fun i hi => h i (by omega))
    have h2 := h n (by omega)
    have e : ((n + 1 : Nat) : Int) * b = n * b + b := by rw [Int.natCast_add, Int.add_mul]; simp
    omega
theorem sumF_nonneg {f : Nat → Int} (n : Nat) (h : ∀ i, i < n → 0 ≤ f i) : 0 ≤ sumF f n := by
  have := sumF_le (f := fun _ => 0) (g := f) n h
  rw [sumF_zero] at this; exact this
theorem sumF_upd {f g : Nat → Int} {j : Nat} {d : Int} : ∀ n, j < n → (∀ i, i < n → i ≠ j → g i = f i) → g j = f j + d → sumF g n = sumF f n + d
  | 0, hj, _, _ => absurd hj (Nat.not_lt_zero _)
  | n + 1, hj, h, hd => by
    simp only [sumF]
    by_cases e : j = n
    · subst e; rw [sumF_congr j (fun i hi => h i (by omega) (by omega))]; omega
    · rw [sumF_upd n (by omega) (fun i hi => h i (by omega)) hd, h n (by omega) (fun e2 => e e2.symm)]; omega
/-- A fair distribution o of f blocks to n wishes W of the ranks R. -/
structure Fair (n : Nat) (W R : Nat → Int) (f : Int) (o : Nat → Int) : Prop where
  rng : ∀ i, i < n → 0 ≤ o i ∧ o i ≤ W i
  sum : sumF o n = mn f (sumF W n)
  fair : ∀ i, i < n → o i < W i → ∀ k, k < n → (R i < R k → o k ≤ 0) ∧ (R k = R i → o k ≤ o i + 1 ∧ (i < k → o k ≤ o i))
theorem exists_more {f g : Nat → Int} : ∀ n, sumF f n ≤ sumF g n → ∀ i, i < n → g i < f i → ∃ k, k < n ∧ f k < g k := fun n hs i hi hl => by
  refine Classical.byContradiction fun h => ?_
  have : ∀ k, k < n → g k ≤ f k := fun k hk => Int.not_lt.mp (fun e => h ⟨k, hk, e⟩)
  have := sumF_lt n this i hi hl
  omega
theorem Fair.mono {n : Nat} {W R : Nat → Int} {f f' : Int} {o o' : Nat → Int} (h : Fair n W R f o) (h' : Fair n W R f' o') (hs : sumF o n ≤ sumF o' n) : ∀ i, i < n → o i ≤ o' i := fun i hi => by
  refine Int.not_lt.mp fun hl => ?_
  obtain ⟨k, hk, hk2⟩ := exists_more n hs i hi hl
  have a1 := h.rng i hi
  have a2 := h'.rng i hi
  have b1 := h.rng k hk
  have b2 := h'.rng k hk
  have c := h'.fair i hi (by omega) k hk
  have d := h.fair k hk (by omega) i hi
  rcases Int.lt_trichotomy (R i) (R k) with e | e | e
  · have := c.1 e; omega
  · have c2 := c.2 e.symm
    have d2 := d.2 e
    have hne : i ≠ k := by rintro rfl; omega
    rcases Nat.lt_or_gt_of_ne hne with hlt | hgt
    · have := c2.2 hlt; omega
    · have := d2.2 hgt; omega
  · have := d.1 e; omega
theorem Fair.unique {n : Nat} {W R : Nat → Int} {f : Int} {o o' : Nat → Int} (h : Fair n W R f o) (h' : Fair n W R f o') : ∀ i, i < n → o i = o' i := fun i hi => by
  have e : sumF o n = sumF o' n := h.sum.trans h'.sum.symm
  have := h.mono h' (by omega) i hi
  have := h'.mono h (by omega) i hi
  omega
/-- What holds before the rank r is looked at: p blocks are left. -/
structure Inv (n : Nat) (W R : Nat → Int) (f r p : Int) (o : Nat → Int) : Prop where
  h0 : 0 ≤ p
  sum : p + sumF o n = f
  rng : ∀ i, i < n → 0 ≤ o i ∧ o i ≤ W i
  later : ∀ i, i < n → r ≤ R i → o i = 0
  fair : ∀ i, i < n → R i < r → o i < W i → p = 0 ∧ ∀ k, k < n → (R i < R k → o k ≤ 0) ∧ (R k = R i → o k ≤ o i + 1 ∧ (i < k → o k ≤ o i))
theorem Inv.start {n : Nat} {W R : Nat → Int} {f : Int} (hf : 0 ≤ f) (hW : ∀ i, i < n → 0 ≤ W i) (hR : ∀ i, i < n → 0 ≤ R i) : Inv n W R f 0 f (fun _ => 0) :=
  ⟨hf, by rw [sumF_zero]; omega, fun i hi => ⟨Int.le_refl _, hW i hi⟩, fun _ _ _ => rfl, fun i hi hl => by have := hR i hi; omega⟩
theorem Inv.step {n : Nat} {W R : Nat → Int} {f r p p' : Int} {o o' : Nat → Int} (h : Inv n W R f r p o) (h0 : 0 ≤ p') (hs : p' + sumF o' n = f)
    (same : ∀ i, i < n → R i ≠ r → o' i = o i) (hr : ∀ i, i < n → R i = r → 0 ≤ o' i ∧ o' i ≤ W i)
    (hf : ∀ i, i < n → R i = r → o' i < W i → p' = 0 ∧ ∀ k, k < n → R k = r → o' k ≤ o' i + 1 ∧ (i < k → o' k ≤ o' i))
    (hz : p = 0 → p' = 0 ∧ ∀ i, i < n → R i = r → o' i = 0) : Inv n W R f (r + 1) p' o' := by
  refine ⟨h0, hs, fun i hi => ?_, fun i hi hl => ?_, fun i hi hl hlt => ?_⟩
  · by_cases e : R i = r
    · exact hr i hi e
    · rw [same i hi e]; exact h.rng i hi
  · rw [same i hi (by omega)]; exact h.later i hi (by omega)
  · by_cases e : R i = r
    · obtain ⟨h1, h2⟩ := hf i hi e hlt
      refine ⟨h1, fun k hk => ⟨fun hk2 => ?_, fun hk2 => h2 k hk (by omega)⟩⟩
      rw [same k hk (by omega), h.later k hk (by omega)]; exact Int.le_refl _
    · have e1 := same i hi e
      rw [e1] at hlt
      obtain ⟨h1, h2⟩ := h.fair i hi (by omega) hlt
      obtain ⟨z1, z2⟩ := hz h1
      refine ⟨z1, fun k hk => ⟨fun hk2 => ?_, fun hk2 => ?_⟩⟩
      · by_cases e2 : R k = r
        · rw [z2 k hk e2]; exact Int.le_refl _
        · rw [same k hk e2]; exact (h2 k hk).1 hk2
      · rw [same k hk (by omega), e1]; exact (h2 k hk).2 hk2
theorem Inv.done {n : Nat} {W R : Nat → Int} {f r p : Int} {o : Nat → Int} (h : Inv n W R f r p o) (hR : ∀ i, i < n → R i < r) : Fair n W R f o := by
  refine ⟨h.rng, ?_, fun i hi hl => (h.fair i hi (hR i hi) hl).2⟩
  have hs := h.sum
  have h0 := h.h0
  have hle := sumF_le (f := o) (g := W) n (fun i hi => (h.rng i hi).2)
  by_cases e : p = 0
  · unfold mn; split <;> omega
  · have : sumF o n = sumF W n := sumF_congr n (fun i hi => by
      have := h.rng i hi
      refine Classical.byContradiction fun hne => e (h.fair i hi (hR i hi) (by omega)).1)
    unfold mn; split <;> omega
/-! ### one rank: filled up to a level, and one more each for the first ones -/
def inc (L : Int) : Int → List Int → List Int
  | _, [] => []
  | f, w :: ws => if L < w ∧ 0 < f then (L + 1) :: inc L (f - 1) ws else mn w L :: inc L f ws
def cost (L : Int) : List Int → Int
  | [] => 0
  | w :: ws => mn w L + cost L ws
def total : List Int → Int
  | [] => 0
  | w :: ws => w + total ws
theorem total_sumF : ∀ ws : List Int, total ws = sumF (fun i => ws.getD i 0) ws.length
  | [] => rfl
  | w :: ws => by
    have key : ∀ (f : Nat → Int) n, sumF f (n + 1) = f 0 + sumF (fun i => f (i + 1)) n := by
      intro f n
      induction n with
      | zero => simp [sumF]
      | succ n ih => rw [sumF, ih]; simp only [sumF]; omega
    rw [List.length_cons, key, total, total_sumF ws]
    rfl
theorem inc_length (L : Int) : ∀ (ws : List Int) (f : Int), (inc L f ws).length = ws.length
  | [], _ => rfl
  | w :: ws, f => by unfold inc; split <;> simp [inc_length L ws]
theorem inc_low {L : Int} : ∀ (ws : List Int) (f : Int), f ≤ 0 → ∀ i, i < ws.length → (inc L f ws).getD i 0 ≤ L
  | [], _, _, i, hi => absurd hi (Nat.not_lt_zero _)
  | w :: ws, f, hf, i, hi => by
    unfold inc; rw [if_neg (by omega)]
    cases i with
    | zero => simp only [List.getD_cons_zero]; unfold mn; split <;> omega
    | succ i => rw [List.getD_cons_succ]; exact inc_low ws f hf i (by simpa using hi)
theorem inc_each {L : Int} (hL : 0 ≤ L) : ∀ (ws : List Int) (f : Int), (∀ w ∈ ws, 0 ≤ w) → ∀ i, i < ws.length →
    0 ≤ (inc L f ws).getD i 0 ∧ (inc L f ws).getD i 0 ≤ ws.getD i 0 ∧ (inc L f ws).getD i 0 ≤ L + 1 ∧ ((inc L f ws).getD i 0 < ws.getD i 0 → L ≤ (inc L f ws).getD i 0 ∧ ((inc L f ws).getD i 0 = L → ∀ k, i < k → k < ws.length → (inc L f ws).getD k 0 ≤ L))
  | [], _, _, i, hi => absurd hi (Nat.not_lt_zero _)
  | w :: ws, f, h0, i, hi => by
    have hw := h0 w (List.mem_cons_self ..)
    have ht : ∀ w ∈ ws, 0 ≤ w := fun x hx => h0 x (List.mem_cons_of_mem _ hx)
    unfold inc
    by_cases c : L < w ∧ 0 < f
    · rw [if_pos c]
      cases i with
      | zero =>
        simp only [List.getD_cons_zero]
        exact ⟨by omega, by omega, Int.le_refl _, fun _ => ⟨by omega, fun e => by omega⟩⟩
      | succ i =>
        simp only [List.getD_cons_succ]
        obtain ⟨a, b, d, e⟩ := inc_each hL ws (f - 1) ht i (by simpa using hi)
        refine ⟨a, b, d, fun hlt => ⟨(e hlt).1, fun he k hk hk2 => ?_⟩⟩
        obtain ⟨k, rfl⟩ : ∃ q, k = q + 1 := ⟨k - 1, by omega⟩
        rw [List.getD_cons_succ]
        exact (e hlt).2 he k (by omega) (by simpa using hk2)
    · rw [if_neg c]
      cases i with
      | zero =>
        simp only [List.getD_cons_zero]
        refine ⟨by unfold mn; split <;> omega, by unfold mn; split <;> omega, by unfold mn; split <;> omega, fun hlt => ⟨by unfold mn at hlt ⊢; split at hlt <;> omega, fun _ k hk hk2 => ?_⟩⟩
        obtain ⟨k, rfl⟩ : ∃ q, k = q + 1 := ⟨k - 1, by omega⟩
        rw [List.getD_cons_succ]
        refine inc_low ws f ?_ k (by simpa using hk2)
        unfold mn at hlt; split at hlt <;> omega
      | succ i =>
        simp only [List.getD_cons_succ]
        obtain ⟨a, b, d, e⟩ := inc_each hL ws f ht i (by simpa using hi)
        refine ⟨a, b, d, fun hlt => ⟨(e hlt).1, fun he k hk hk2 => ?_⟩⟩
        obtain ⟨k, rfl⟩ : ∃ q, k = q + 1 := ⟨k - 1, by omega⟩
        rw [List.getD_cons_succ]
        exact (e hlt).2 he k (by omega) (by simpa using hk2)
theorem cost_step {L : Int} : ∀ ws : List Int, cost L ws ≤ cost (L + 1) ws
  | [] => Int.le_refl _
  | w :: ws => by have := cost_step (L := L) ws; simp only [cost]; unfold mn; split <;> split <;> omega
theorem cost_total {L : Int} : ∀ ws : List Int, cost L ws ≤ total ws
  | [] => Int.le_refl _
  | w :: ws => by have := cost_total (L := L) ws; simp only [cost, total]; unfold mn; split <;> omega
theorem cost_full {L : Int} : ∀ ws : List Int, (∀ w ∈ ws, w ≤ L) → cost L ws = total ws
  | [], _ => rfl
  | w :: ws, h => by
    have h1 := h w (List.mem_cons_self ..)
    simp only [cost, total]; rw [cost_full ws (fun x hx => h x (List.mem_cons_of_mem _ hx))]
    unfold mn; split <;> omega
theorem inc_total {L : Int} : ∀ (ws : List Int) (f : Int), 0 ≤ f → total (inc L f ws) = mn (cost L ws + f) (cost (L + 1) ws)
  | [], f, h => by simp only [inc, total, cost]; unfold mn; split <;> omega
  | w :: ws, f, h => by
    unfold inc
    have hs := cost_step (L := L) ws
    by_cases c : L < w ∧ 0 < f
    · rw [if_pos c]
      simp only [total, cost]
      rw [inc_total ws (f - 1) (by omega)]
      unfold mn; (repeat' split) <;> omega
    · rw [if_neg c]
      simp only [total, cost]
      rw [inc_total ws f h]
      by_cases c2 : L < w
      · have : f = 0 := by omega
        subst this
        unfold mn; (repeat' split) <;> omega
      · unfold mn; (repeat' split) <;> omega
/-- Does a level fit? -/
def fitsL (ws : List Int) (f L : Int) : Prop := 0 ≤ L ∧ cost L ws ≤ f ∧ (1099511627776 ≤ L ∨ f < cost (L + 1) ws)
theorem share_sum {ws : List Int} {f L : Int} (h : fitsL ws f L) (hw : ∀ w ∈ ws, w ≤ 1099511627776) : total (inc L (f - cost L ws) ws) = mn f (total ws) := by
  obtain ⟨h0, h1, h2⟩ := h
  rw [inc_total ws _ (by omega)]
  have a := cost_total (L := L + 1) ws
  have b := cost_step (L := L) ws
  rcases h2 with h2 | h2
  · have e1 := cost_full (L := L) ws (fun w hx => by have := hw w hx; omega)
    unfold mn; (repeat' split) <;> omega
  · unfold mn; (repeat' split) <;> omega
end Go.Proofs.Ytdapoclangoobaa.Q
