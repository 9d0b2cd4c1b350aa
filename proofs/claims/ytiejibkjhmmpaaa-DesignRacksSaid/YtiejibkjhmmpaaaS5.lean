/- DesignRacks in plain words. -/
import Derived.Test.YtiejibkjhmmpaaaM4
import Derived.Test.YtiejibkjhmmpaaaS2
import Derived.Test.YtiejibkjhmmpaaaQF5
namespace Go.Proofs.Ytiejibkjhmmpaaa.Q
open Go.RowKit Go.Proofs.YtiejibkjhmmpaaaW.PrintWords
set_option linter.unusedVariables false
/-- How many of the m positions from a on are in rack j. -/
def wn (R c : Int) (j a : Nat) : Nat → Int
  | 0 => 0
  | m + 1 => wn R c j a m + if (((a + m : Nat) : Int) + c) % R = (j : Int) then 1 else 0
theorem wn_range (R c : Int) (j a : Nat) : ∀ m : Nat, 0 ≤ wn R c j a m ∧ wn R c j a m ≤ m
  | 0 => by simp [wn]
  | m + 1 => by
    have := wn_range R c j a m
    simp only [wn]
    split <;> omega
theorem wn_first (R c : Int) (j a : Nat) : ∀ m : Nat, wn R c j a (m + 1) = (if ((a : Int) + c) % R = (j : Int) then 1 else 0) + wn R c j (a + 1) m
  | 0 => by simp [wn]
  | m + 1 => by
    have h := wn_first R c j a m
    have e : wn R c j a (m + 1 + 1) = wn R c j a (m + 1) + if (((a + (m + 1) : Nat) : Int) + c) % R = (j : Int) then 1 else 0 := rfl
    have e2 : wn R c j (a + 1) (m + 1) = wn R c j (a + 1) m + if (((a + 1 + m : Nat) : Int) + c) % R = (j : Int) then 1 else 0 := rfl
    rw [e, e2, h, show a + (m + 1) = a + 1 + m by omega]
    omega
/-- The last of them: they lie R apart, at least. -/
theorem wn_last {R c : Int} (hR : 1 ≤ R) (j a : Nat) : ∀ m : Nat, wn R c j a m = 0 ∨ ∃ l : Nat, a ≤ l ∧ l < a + m ∧ ((l : Int) + c) % R = (j : Int) ∧ (wn R c j a m - 1) * R ≤ (l : Int) - a
  | 0 => .inl rfl
  | m + 1 => by
    have e : wn R c j a (m + 1) = wn R c j a m + if (((a + m : Nat) : Int) + c) % R = (j : Int) then 1 else 0 := rfl
    rw [e]
    by_cases h : (((a + m : Nat) : Int) + c) % R = (j : Int)
    · rw [if_pos h]
      right
      refine ⟨a + m, by omega, by omega, h, ?_⟩
      rcases wn_last hR j a m with h0 | ⟨l, h1, h2, h3, h4⟩
      · rw [h0]; simp; omega
      · have hd := Int.dvd_of_emod_eq_zero (Int.emod_eq_emod_iff_emod_sub_eq_zero.mp (h.trans h3.symm))
        obtain ⟨z, hz⟩ := hd
        have hz1 : 1 ≤ z := by
          rcases (show 0 < z ∨ z ≤ 0 by omega) with h5 | h5
          · omega
          · have := Int.mul_le_mul_of_nonneg_left h5 (by omega : 0 ≤ R)
            rw [Int.mul_zero] at this
            omega
        have hz2 : R ≤ R * z := by
          have := Int.mul_le_mul_of_nonneg_left hz1 (by omega : 0 ≤ R)
          rw [Int.mul_one] at this
          exact this
        have e2 : (wn R c j a m + 1 - 1) * R = (wn R c j a m - 1) * R + R := by rw [show wn R c j a m + 1 - 1 = (wn R c j a m - 1) + 1 by omega, Int.add_mul, Int.one_mul]
        rw [e2]
        omega
    · rw [if_neg h, Int.add_zero]
      rcases wn_last hR j a m with h0 | ⟨l, h1, h2, h3, h4⟩
      · exact .inl h0
      · exact .inr ⟨l, h1, by omega, h3, h4⟩
theorem wn_bound {R c : Int} (hR : 1 ≤ R) (j a m : Nat) {w : Int} (hm : (m : Int) ≤ w) (hw : 1 ≤ w) : wn R c j a m ≤ (w + R - 1) / R := by
  rcases wn_last (c := c) hR j a m with h0 | ⟨l, h1, h2, h3, h4⟩
  · rw [h0]; exact Int.ediv_nonneg (by omega) (by omega)
  · refine Int.le_ediv_of_mul_le (by omega) ?_
    rw [Int.sub_mul, Int.one_mul] at h4
    omega
/-- The count of the racks. -/
def cntL (R c : Int) (a m : Nat) : List Int := (List.range 8).map fun j => wn R c j a m
theorem cntL_len (R c : Int) (a m : Nat) : (cntL R c a m).length = 8 := by unfold cntL; rw [List.length_map, List.length_range]
theorem cntL_rd {R c : Int} {a m j : Nat} (h : j < 8) : rd (cntL R c a m) (j : Int) = wn R c j a m := by
  unfold rd cntL
  rw [show ((j : Int)).toNat = j from rfl, List.getD_eq_getElem?_getD, List.getElem?_map, List.getElem?_range h]
  rfl
theorem map_set8 {f g : Nat → Int} {r : Nat} {v : Int} (h : ∀ j, j < 8 → g j = if r = j then v else f j) : ((List.range 8).map f).set r v = (List.range 8).map g := by
  refine List.ext_getElem (by rw [List.length_set, List.length_map, List.length_map]) (fun j hj hj2 => ?_)
  have hj8 : j < 8 := by rw [List.length_map, List.length_range] at hj2; exact hj2
  rw [List.getElem_set, List.getElem_map, List.getElem_range, List.getElem_map, List.getElem_range, h j hj8]
theorem cntL_add {R c : Int} {a m r : Nat} (hr : r < 8) (hm : m ≤ 64) (h : (((a + m : Nat) : Int) + c) % R = (r : Int)) : (cntL R c a m).set r (wrap64 (rd (cntL R c a m) (r : Int) + 1)) = cntL R c a (m + 1) := by
  have hb := wn_range R c r a m
  rw [cntL_rd hr, w64 (x := wn R c r a m + 1) (by omega) (by omega)]
  refine map_set8 (fun j _ => ?_)
  simp only [wn]
  by_cases hj : r = j
  · rw [if_pos hj, ← hj, if_pos h]
  · rw [if_neg hj, if_neg (by omega), Int.add_zero]
theorem cntL_sub {R c : Int} {a m r : Nat} (hr : r < 8) (hm : m ≤ 64) (h : ((a : Int) + c) % R = (r : Int)) : (cntL R c a (m + 1)).set r (wrap64 (rd (cntL R c a (m + 1)) (r : Int) - 1)) = cntL R c (a + 1) m := by
  have hb := wn_range R c r (a + 1) m
  rw [cntL_rd hr, wn_first R c r a m, if_pos h, show 1 + wn R c r (a + 1) m - 1 = wn R c r (a + 1) m by omega, w64 (x := wn R c r (a + 1) m) (by omega) (by omega)]
  refine map_set8 (fun j _ => ?_)
  by_cases hj : r = j
  · rw [if_pos hj, hj]
  · rw [if_neg hj, wn_first R c j a m, if_neg (by omega), Int.zero_add]
theorem cntL_zero (R c : Int) : List.replicate 8 (0 : Int) = cntL R c 0 0 := rfl
theorem ev_racks1 {D R N S L I w p len : Int} {l cnt : List Int} (hR : 1 ≤ R) (hR8 : R ≤ 8) (hw : 1 ≤ w) (hw64 : w ≤ 64) (hl : cnt.length = 8) (hb : ∀ j : Nat, j < 8 → rd cnt (j : Int) ≤ (w + R - 1) / R)
    (next : Ev (fun k => solventlaw13_DesignRacks.l0 k w l cnt len (wrap64 (p + 1)) D R N S L I) true) : ∀ (m i : Nat), i + m = 8 →
    Ev (fun k => solventlaw13_DesignRacks.l1 k w l cnt len p (i : Int) D R N S L I) true
  | 0, i, h => Ev.step (fun k => by simp only [solventlaw13_DesignRacks.l1]; rfl) (ev_neg (by clear next; omega) next)
  | m + 1, i, h => by
    have hbi := hb i (by omega)
    have go := ev_racks1 hR hR8 hw hw64 hl hb next m (i + 1) (by omega)
    clear next
    have hq := Int.ediv_le_self (a := w + R - 1) R (by omega)
    have hq0 : 0 ≤ (w + R - 1) / R := Int.ediv_nonneg (by omega) (by omega)
    refine Ev.step (fun k => by simp only [solventlaw13_DesignRacks.l1]; rfl) ?_
    rw [w64 (x := w + R) (by omega) (by omega), w64 (x := w + R - 1) (by omega) (by omega), td (by omega), w64 (x := (w + R - 1) / R) (by omega) (by omega), show wrap64 ((i : Int) + 1) = ((i + 1 : Nat) : Int) by rw [w64 (by omega) (by omega)]; rfl]
    exact ev_pos (by omega) (ev_pos (by omega) (ev_pos (by omega) (ev_neg (by omega) (ev_neg (by omega) go))))
theorem rack_at {D R row : Int} {p : Nat} (h1 : 1 ≤ D) (h2 : D ≤ 64) (h3 : 1 ≤ R) (h4 : R ≤ 8) (h9 : D % R = 0) (hp : (p : Int) < D) :
    0 ≤ rd (orderL D R row) (p : Int) ∧ ∃ r : Nat, r < 8 ∧ Int.tmod (rd (orderL D R row) (p : Int)) R = (r : Int) ∧ ((p : Int) + row % D) % R = (r : Int) := by
  have hrd := @rd_order D R row (p : Int) (by omega) hp
  have hb := @orderF_bounds D R row h1 h3 h2 ((p : Int)).toNat
  rw [hrd]
  refine ⟨hb.1, ?_⟩
  rw [tm hb.1, rack_eq h1 h3 h9 (p : Int) (by omega) hp]
  have m0 := Int.emod_nonneg ((p : Int) + row % D) (by omega : R ≠ 0)
  have m1 := Int.emod_lt_of_pos ((p : Int) + row % D) (by omega : 0 < R)
  exact ⟨(((p : Int) + row % D) % R).toNat, by omega, by omega, by omega⟩
theorem ev_racks0 {D R N S L I row : Int} {w : Nat} (ok : okB D R N S L I = true) (hw1 : 1 ≤ w) (hw2 : (w : Int) ≤ D) : ∀ (m p : Nat), p + m = D.toNat →
    Ev (fun k => solventlaw13_DesignRacks.l0 k (w : Int) (orderL D R row) (cntL R (row % D) (p - w) (p - (p - w))) D (p : Int) D R N S L I) true
  | 0, p, h => by
    obtain ⟨h1, h2, h3, h4, h5, h6, _⟩ := okB_iff.mp ok
    refine Ev.step (fun k => by simp only [solventlaw13_DesignRacks.l0]; rfl) (ev_neg (by omega) ?_)
    exact Ev.bind ev_sanity13 (Ev.now _)
  | m + 1, p, h => by
    obtain ⟨h1, h2, h3, h4, h5, h6, _, _, _, _, _, _, h9⟩ := okB_iff.mp ok
    have go := ev_racks0 (row := row) ok hw1 hw2 m (p + 1) (by omega)
    have hl := @orderL_len D R row (by omega)
    obtain ⟨hd0, r, hr8, hr, hrr⟩ := @rack_at D R row p h1 h2 h3 h4 h9 (by omega)
    have hlen := cntL_len R (row % D) (p - w) (p - (p - w))
    have hadd := @cntL_add R (row % D) (p - w) (p - (p - w)) r hr8 (by omega) (by rw [show p - w + (p - (p - w)) = p by omega]; exact hrr)
    have hlen2 := cntL_len R (row % D) (p - w) (p - (p - w) + 1)
    have more : ∀ cnt : List Int, cnt = cntL R (row % D) (p + 1 - w) (p + 1 - (p + 1 - w)) → Ev (fun k => solventlaw13_DesignRacks.j2 k (w : Int) (orderL D R row) cnt D (p : Int) D R N S L I) true := fun cnt hc => by
      subst hc
      refine Ev.step (fun k => by simp only [solventlaw13_DesignRacks.j2]; rfl) ?_
      refine ev_racks1 h3 h4 (by omega) (by omega) (cntL_len _ _ _ _) (fun j hj => ?_) ?_ 8 0 (by omega)
      · rw [cntL_rd hj]
        exact wn_bound h3 _ _ _ (by omega) (by omega)
      · rw [show wrap64 ((p : Int) + 1) = ((p + 1 : Nat) : Int) by rw [w64 (by omega) (by omega)]; rfl]
        exact go
    clear go
    refine Ev.step (fun k => by simp only [solventlaw13_DesignRacks.l0]; rfl) (ev_pos (by omega) (ev_pos (by omega) (ev_pos (by omega) (ev_neg (by omega) (ev_neg (by omega) ?_)))))
    rw [hr]
    refine ev_pos (by omega) (ev_pos (by omega) (ev_some ?_))
    rw [show ((r : Int)).toNat = r from rfl, hadd]
    by_cases hpw : (p : Int) ≥ (w : Int)
    · refine ev_pos hpw ?_
      obtain ⟨hd1, s, hs8, hs, hss⟩ := @rack_at D R row (p - w) h1 h2 h3 h4 h9 (by omega)
      rw [show wrap64 ((p : Int) - (w : Int)) = ((p - w : Nat) : Int) by rw [w64 (by omega) (by omega)]; omega]
      refine ev_pos (by omega) (ev_pos (by omega) ?_)
      rw [hs]
      refine ev_pos (by omega) (ev_pos (by omega) ?_)
      refine more _ ?_
      rw [show ((s : Int)).toNat = s from rfl, cntL_sub hs8 (by omega) hss]
      rw [show p - w + 1 = p + 1 - w by omega, show p - (p - w) = p + 1 - (p + 1 - w) by omega]
    · refine ev_neg hpw (more _ ?_)
      rw [show p - (p - w) + 1 = p + 1 - (p + 1 - w) by omega, show p - w = p + 1 - w by omega]
theorem pure5 (D R N S L I row width : Int) (_ : (Lit.int .i64 D).wf = true) (_ : (Lit.int .i64 R).wf = true) (_ : (Lit.int .i64 N).wf = true) (_ : (Lit.int .i64 S).wf = true) (_ : (Lit.int .i64 L).wf = true) (_ : (Lit.int .i64 I).wf = true)
    (_ : (Lit.int .i64 row).wf = true) (_ : (Lit.int .i64 width).wf = true) : ∃ k, solventlaw13_DesignRacks.f k D R N S L I row width = some true := by
  refine Ev.rounds (r := true) ?_
  unfold solventlaw13_DesignRacks.f
  have ht : ∀ b : Bool, b = true → Ev (fun k => solventlaw13_DesignRacks.j0 k row width b D R N S L I) true := fun b hb => by
    subst hb
    refine Ev.step (fun k => by simp only [solventlaw13_DesignRacks.j0]; rfl) ?_
    exact ev_pos trivial (Ev.bind ev_sanity13 (Ev.now _))
  refine Ev.bind (ev_valid13 D R N S L I) ?_
  by_cases ok : okB D R N S L I = true
  · obtain ⟨h1, h2, h3, h4, h5, h6, _⟩ := okB_iff.mp ok
    refine ev_pos ok ?_
    by_cases h0 : row < 0
    · exact ev_pos h0 (ht _ rfl)
    refine ev_neg h0 ?_
    by_cases h9 : row ≥ N
    · exact ev_pos h9 (ht _ rfl)
    refine ev_neg h9 ?_
    by_cases hw0 : width < 1
    · exact ev_pos hw0 (ht _ rfl)
    refine ev_neg hw0 ?_
    by_cases hw9 : width > D
    · exact ht _ (decide_eq_true hw9)
    · rw [decide_eq_false hw9]
      obtain ⟨w, rfl⟩ := Int.eq_ofNat_of_zero_le (by omega : 0 ≤ width)
      have hr : rowB D R N S L I row = true := rowB_iff.mpr ⟨ok, by omega, by omega⟩
      have ho := ev_order D R N S L I row
      rw [if_pos hr] at ho
      have hl := @orderL_len D R row (by omega)
      have e := ev_racks0 (row := row) (w := w) ok (by omega) (by omega) D.toNat 0 (by omega)
      refine Ev.step (fun k => by simp only [solventlaw13_DesignRacks.j0]; rfl) ?_
      refine ev_neg (by simp) (Ev.bind ho (ev_pos hl (ev_pos (by omega) ?_)))
      rw [hl, cntL_zero R (row % D)]
      rw [show (0 : Nat) - w = 0 by omega] at e
      exact e
  · exact ev_neg ok (ht _ rfl)
end Go.Proofs.Ytiejibkjhmmpaaa.Q
