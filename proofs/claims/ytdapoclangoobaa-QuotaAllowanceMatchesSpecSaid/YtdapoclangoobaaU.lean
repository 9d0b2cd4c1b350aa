/- What the functions of chapter 32 reckon about one claim, in plain words. -/
import Derived.Test.YtdapoclangoobaaQS
namespace Go.Proofs.Ytdapoclangoobaa.Q
open Go.RowKit Go.Proofs.YtdapoclangoobaaW.PrintWords Go.Proofs.YtdapoclangoobaaW.PrintMore
set_option linter.unusedVariables false
theorem ev_pos {α : Type} {c : Prop} [Decidable c] {g f : Nat → Option α} {r : α} (h : c) (k : Ev g r) : Ev (fun n => if c then g n else f n) r := by
  obtain ⟨K, hK⟩ := k
  exact ⟨K, fun n hn => (if_pos h).trans (hK n hn)⟩
theorem ev_neg {α : Type} {c : Prop} [Decidable c] {g f : Nat → Option α} {r : α} (h : ¬ c) (k : Ev f r) : Ev (fun n => if c then g n else f n) r := by
  obtain ⟨K, hK⟩ := k
  exact ⟨K, fun n hn => (if_neg h).trans (hK n hn)⟩
theorem ev_some {α β : Type} {a : α} {f : Nat → α → Option β} {r : β} (k : Ev (fun n => f n a) r) : Ev (fun n => (some a).bind (f n)) r := k
theorem ev_eq {α : Type} {g : Nat → Option α} {r r' : α} (k : Ev g r) (h : r = r') : Ev g r' := h ▸ k
theorem w64 {x : Int} (h0 : -9223372036854775808 ≤ x) (h1 : x ≤ 9223372036854775807) : wrap64 x = x := by unfold wrap64; omega

/-- Is a number of blocks permitted? -/
def fitB (n : Int) : Bool := decide (0 ≤ n ∧ n ≤ 1099511627776)
theorem fitB_iff {n : Int} : fitB n = true ↔ 0 ≤ n ∧ n ≤ 1099511627776 := decide_eq_true_iff
theorem all_S1_eq (a : Int) : quota_all_S1.f a = some (!fitB a) := by
  unfold quota_all_S1.f
  by_cases h : a < 0
  · rw [if_pos h]; congr 1
    have : fitB a = false := Bool.eq_false_iff.mpr (fun e => by have := fitB_iff.mp e; omega)
    rw [this]; rfl
  · rw [if_neg h]; congr 1
    by_cases h2 : a > 1099511627776
    · have : fitB a = false := Bool.eq_false_iff.mpr (fun e => by have := fitB_iff.mp e; omega)
      rw [this, decide_eq_true h2]; rfl
    · have : fitB a = true := fitB_iff.mpr (by omega)
      rw [this, decide_eq_false h2]; rfl
theorem drop_rd {l : List Int} {i : Int} (h0 : 0 ≤ i) (h : i < l.length) : l.drop i.toNat = rd l i :: l.drop (i + 1).toNat := by
  have hi : i.toNat < l.length := by omega
  have e : (i + 1).toNat = i.toNat + 1 := by omega
  rw [e, List.drop_eq_getElem_cons hi]
  congr 1
  unfold rd
  rw [List.getD_eq_getElem?_getD, List.getElem?_eq_getElem hi]; rfl
theorem ev_index (l : List Int) (hl : (l.length : Int) < 4611686018427387904) : ∀ (n : Nat) (i : Int), 0 ≤ i → i + n = l.length →
    ∃ r : Int, Ev (fun k => slices_IndexFunc_ints.l0 k l (l.length : Int) i) r ∧ decide (r ≥ 0) = !(l.drop i.toNat).all fitB
  | 0, i, h0, hn => by
    refine ⟨-1, Ev.step (fun k => rfl) (ev_neg (by omega) (Ev.now _)), ?_⟩
    rw [List.drop_eq_nil_of_le (by omega)]; rfl
  | n + 1, i, h0, hn => by
    have hd := drop_rd (l := l) h0 (by omega)
    by_cases hf : fitB (rd l i) = true
    · obtain ⟨r, hr, e⟩ := ev_index l hl n (i + 1) (by omega) (by omega)
      refine ⟨r, Ev.step (fun k => rfl) (ev_pos (by omega) (ev_pos h0 (ev_pos (by omega) ?_))), ?_⟩
      · rw [show (fun n => (quota_all_S1.f (rd l i)).bind fun t102 => if t102 = true then some i else slices_IndexFunc_ints.l0 n l (l.length : Int) (wrap64 (i + 1))) = fun n => slices_IndexFunc_ints.l0 n l (l.length : Int) (i + 1) from by
          funext n; rw [all_S1_eq, hf, w64 (by omega) (by omega)]; rfl]
        exact hr
      · rw [hd, List.all_cons, hf, e, Bool.true_and]
    · refine ⟨i, Ev.step (fun k => rfl) (ev_pos (by omega) (ev_pos h0 (ev_pos (by omega) ?_))), ?_⟩
      · have hf' : fitB (rd l i) = false := by simpa using hf
        rw [show (fun n => (quota_all_S1.f (rd l i)).bind fun t102 => if t102 = true then some i else slices_IndexFunc_ints.l0 n l (l.length : Int) (wrap64 (i + 1))) = fun n => some i from by
          funext n; rw [all_S1_eq, hf']; rfl]
        exact Ev.now _
      · have hf' : fitB (rd l i) = false := by simpa using hf
        rw [hd, List.all_cons, hf', decide_eq_true (by omega)]; rfl
theorem ev_all (l : List Int) (hl : (l.length : Int) < 4611686018427387904) : Ev (fun k => quota_all.f k l) (l.all fitB) := by
  obtain ⟨r, hr, e⟩ := ev_index l hl l.length 0 (by omega) (by omega)
  have h : Ev (fun k => slices_ContainsFunc_ints.f k l) (decide (r ≥ 0)) := Ev.bind hr (Ev.now _)
  refine ev_eq (Ev.bind h (Ev.now _)) ?_
  rw [e]; simp
/-- Is a claim valid? -/
def okQ (g s b r v n : Int) : Bool := decide (0 ≤ g ∧ g ≤ 1099511627776 ∧ 0 ≤ s ∧ s ≤ 1099511627776 ∧ 0 ≤ b ∧ b ≤ 1099511627776 ∧ 0 ≤ v ∧ v ≤ 1099511627776 ∧ 0 ≤ n ∧ n ≤ 1099511627776 ∧ 0 ≤ r ∧ r ≤ 9)
theorem okQ_iff {g s b r v n : Int} : okQ g s b r v n = true ↔ 0 ≤ g ∧ g ≤ 1099511627776 ∧ 0 ≤ s ∧ s ≤ 1099511627776 ∧ 0 ≤ b ∧ b ≤ 1099511627776 ∧ 0 ≤ v ∧ v ≤ 1099511627776 ∧ 0 ≤ n ∧ n ≤ 1099511627776 ∧ 0 ≤ r ∧ r ≤ 9 := decide_eq_true_iff
theorem okQ_not {g s b r v n : Int} (h : ¬ (0 ≤ g ∧ g ≤ 1099511627776 ∧ 0 ≤ s ∧ s ≤ 1099511627776 ∧ 0 ≤ b ∧ b ≤ 1099511627776 ∧ 0 ≤ v ∧ v ≤ 1099511627776 ∧ 0 ≤ n ∧ n ≤ 1099511627776 ∧ 0 ≤ r ∧ r ≤ 9)) : okQ g s b r v n = false := decide_eq_false h
theorem ev_valid (g s b r v n : Int) : Ev (fun k => quota_Valid.f k g s b r v n) (okQ g s b r v n) := by
  refine Ev.bind (ev_all [g, s, b, v, n] (by simp)) ?_
  by_cases h : [g, s, b, v, n].all fitB = true
  · have h' := h
    simp only [List.all_cons, List.all_nil, Bool.and_true, Bool.and_eq_true, fitB_iff] at h'
    rw [h]
    refine ev_pos rfl ?_
    by_cases hr : r ≥ 0
    · refine ev_pos hr (ev_eq (Ev.now _) (decide_eq_decide.mpr ?_))
      omega
    · exact ev_neg hr (ev_eq (Ev.now _) (okQ_not (by omega)).symm)
  · refine ev_neg h (ev_eq (Ev.now _) (okQ_not (fun e => h ?_)).symm)
    simp only [List.all_cons, List.all_nil, Bool.and_true, Bool.and_eq_true, fitB_iff]
    omega
/-- What is used beyond the guarantees. -/
def exc (g s v n : Int) : Int := mx 0 (v - g) + mx 0 (n - s)
theorem exc_eq {g s b r v n : Int} (hg : 0 ≤ g ∧ g ≤ 4398046511104) (hs : 0 ≤ s ∧ s ≤ 4398046511104) (hv : 0 ≤ v ∧ v ≤ 4398046511104) (hn : 0 ≤ n ∧ n ≤ 4398046511104) :
    quota_excess.f g s b r v n = some (exc g s v n) := by
  unfold quota_excess.f exc
  rw [w64 (x := v - g) (by omega) (by omega), w64 (x := n - s) (by omega) (by omega), w64 (by unfold mx; split <;> split <;> omega) (by unfold mx; split <;> split <;> omega)]
def overF (g s b r v n : Int) : Int := if okQ g s b r v n then exc g s v n else 0
def needF (g s b r v n : Int) : Int := if okQ g s b r v n then mx g v + mx s n else 0
theorem ev_over (g s b r v n : Int) : Ev (fun k => quota_Over.f k g s b r v n) (overF g s b r v n) := by
  refine Ev.bind (ev_valid g s b r v n) ?_
  unfold overF
  by_cases h : okQ g s b r v n = true
  · have h' := okQ_iff.mp h
    rw [h, exc_eq (by omega) (by omega) (by omega) (by omega)]
    exact ev_pos rfl (Ev.now _)
  · have h' : okQ g s b r v n = false := by simpa using h
    rw [h']
    exact ev_neg (by decide) (Ev.now _)
theorem need_w {g s v n : Int} (hg : 0 ≤ g ∧ g ≤ 4398046511104) (hs : 0 ≤ s ∧ s ≤ 4398046511104) (hv : 0 ≤ v ∧ v ≤ 4398046511104) (hn : 0 ≤ n ∧ n ≤ 4398046511104) : wrap64 (mx g v + mx s n) = mx g v + mx s n :=
  w64 (by unfold mx; split <;> split <;> omega) (by unfold mx; split <;> split <;> omega)
theorem ev_need (g s b r v n : Int) : Ev (fun k => quota_Need.f k g s b r v n) (needF g s b r v n) := by
  refine Ev.bind (ev_valid g s b r v n) ?_
  unfold needF
  by_cases h : okQ g s b r v n = true
  · have h' := okQ_iff.mp h
    rw [h, need_w (by omega) (by omega) (by omega) (by omega)]
    exact ev_pos rfl (Ev.now _)
  · have h' : okQ g s b r v n = false := by simpa using h
    rw [h']
    exact ev_neg (by decide) (Ev.now _)
/-- What a write gets. -/
def decQ (g s b r v n x y a : Int) : Int × Int × Int :=
  if okQ g s b r v n = true ∧ fitB x = true ∧ fitB y = true ∧ fitB a = true then
    (if exc g s (v + x) (n + y) - exc g s v n > 0 ∧ (exc g s (v + x) (n + y) > b ∨ exc g s (v + x) (n + y) - exc g s v n > a) then (0, 0, 16)
     else (x + y - (exc g s (v + x) (n + y) - exc g s v n), exc g s (v + x) (n + y) - exc g s v n, 0))
  else (0, 0, 1)
theorem exc_range {g s v n : Int} (hg : 0 ≤ g ∧ g ≤ 4398046511104) (hs : 0 ≤ s ∧ s ≤ 4398046511104) (hv : 0 ≤ v ∧ v ≤ 4398046511104) (hn : 0 ≤ n ∧ n ≤ 4398046511104) : 0 ≤ exc g s v n ∧ exc g s v n ≤ 8796093022208 := by
  unfold exc mx; split <;> split <;> omega
theorem ev_decide (g s b r v n x y a : Int) : Ev (fun k => quota_Decide.f k g s b r v n x y a) (decQ g s b r v n x y a) := by
  refine Ev.bind (ev_valid g s b r v n) ?_
  have bad : ¬ (okQ g s b r v n = true ∧ fitB x = true ∧ fitB y = true ∧ fitB a = true) → Ev (fun k => quota_Decide.j0 k x y a true g s b r v n) (decQ g s b r v n x y a) := fun h => by
    unfold decQ; rw [if_neg h]
    exact Ev.step (fun k => by rw [quota_Decide.j0]) (ev_pos rfl (Ev.now _))
  by_cases h : okQ g s b r v n = true
  · rw [h]
    refine ev_pos rfl (Ev.bind (ev_all [x, y, a] (by simp)) ?_)
    by_cases hf : [x, y, a].all fitB = true
    · have hf' := hf
      simp only [List.all_cons, List.all_nil, Bool.and_true, Bool.and_eq_true] at hf'
      have h' := okQ_iff.mp h
      have hx := fitB_iff.mp hf'.1
      have hy := fitB_iff.mp hf'.2.1
      have ha := fitB_iff.mp hf'.2.2
      rw [hf]
      unfold decQ; rw [if_pos ⟨h, hf'⟩]
      refine Ev.step (fun k => by rw [quota_Decide.j0, Bool.not_true]) (ev_neg (by decide) ?_)
      rw [exc_eq (by omega) (by omega) (by omega) (by omega), w64 (x := v + x) (by omega) (by omega), w64 (x := n + y) (by omega) (by omega), exc_eq (by omega) (by omega) (by omega) (by omega)]
      refine ev_some (ev_some ?_)
      have r1 := exc_range (g := g) (s := s) (v := v) (n := n) (by omega) (by omega) (by omega) (by omega)
      have r2 := exc_range (g := g) (s := s) (v := v + x) (n := n + y) (by omega) (by omega) (by omega) (by omega)
      generalize exc g s v n = p at r1 ⊢
      generalize exc g s (v + x) (n + y) = q at r2 ⊢
      rw [w64 (x := q - p) (by omega) (by omega), w64 (x := x + y) (by omega) (by omega), w64 (x := x + y - (q - p)) (by omega) (by omega)]
      by_cases c1 : q - p > 0
      · refine ev_pos c1 ?_
        by_cases c2 : q > b
        · exact ev_eq (ev_pos c2 (Ev.now _)) (if_pos ⟨c1, .inl c2⟩).symm
        · refine ev_neg c2 ?_
          by_cases c3 : q - p > a
          · exact ev_eq (ev_pos c3 (Ev.now _)) (if_pos ⟨c1, .inr c3⟩).symm
          · exact ev_eq (ev_neg c3 (Ev.now _)) (if_neg (fun e => by omega)).symm
      · exact ev_eq (ev_neg c1 (Ev.now _)) (if_neg (fun e => by omega)).symm
    · have hf' : [x, y, a].all fitB = false := by simpa using hf
      rw [hf']
      refine bad (fun e => hf ?_)
      simp only [List.all_cons, List.all_nil, Bool.and_true, Bool.and_eq_true]
      exact ⟨e.2.1, e.2.2.1, e.2.2.2⟩
  · have h' : okQ g s b r v n = false := by simpa using h
    rw [h']
    exact ev_neg (by decide) (bad (fun e => h e.1))
theorem sanity32_at : solventlaw32_sanity.f 120 = some true := by decide +kernel
theorem ev_sanity32 : Ev (fun k => solventlaw32_sanity.f k) true := Ev.of (fun k => solventlaw32_sanity.mono k) sanity32_at
end Go.Proofs.Ytdapoclangoobaa.Q
