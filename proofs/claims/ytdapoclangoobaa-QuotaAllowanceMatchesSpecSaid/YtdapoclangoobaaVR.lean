/- The reference's Allowance, in plain words: what it distributes is fair, too. -/
import Derived.Test.YtdapoclangoobaaVA
import Derived.Test.YtdapoclangoobaaQF4
namespace Go.Proofs.Ytdapoclangoobaa.Q
open Go.RowKit Go.Proofs.YtdapoclangoobaaW.PrintWords Go.Proofs.YtdapoclangoobaaW.PrintMore
set_option linter.unusedVariables false
theorem fits4 (a : Int) : solventref32_fits.f a = some (fitB a) := by
  unfold solventref32_fits.f
  by_cases h : a ≥ 0
  · rw [if_pos h]; congr 1; exact decide_eq_decide.mpr ⟨fun h1 => ⟨h, h1⟩, fun h1 => h1.2⟩
  · rw [if_neg h]; congr 1; exact (decide_eq_false (fun h1 => h h1.1)).symm
theorem rvalid4 (g s b r v n : Int) : solventref32_Valid.f g s b r v n = some (okQ g s b r v n) := by
  unfold solventref32_Valid.f
  simp only [fits4, Option.bind_some, fitB_iff]
  by_cases h1 : 0 ≤ g ∧ g ≤ 1099511627776
  · rw [if_pos h1]
    by_cases h2 : 0 ≤ s ∧ s ≤ 1099511627776
    · rw [if_pos h2]
      by_cases h3 : 0 ≤ b ∧ b ≤ 1099511627776
      · rw [if_pos h3]
        by_cases h4 : 0 ≤ v ∧ v ≤ 1099511627776
        · rw [if_pos h4]
          by_cases h5 : 0 ≤ n ∧ n ≤ 1099511627776
          · rw [if_pos h5]
            by_cases h6 : r ≥ 0
            · rw [if_pos h6]; congr 1; exact decide_eq_decide.mpr (by omega)
            · rw [if_neg h6, okQ_not (by omega)]
          · rw [if_neg h5, okQ_not (by omega)]
        · rw [if_neg h4, okQ_not (by omega)]
      · rw [if_neg h3, okQ_not (by omega)]
    · rw [if_neg h2, okQ_not (by omega)]
  · rw [if_neg h1, okQ_not (by omega)]
theorem valid4 (l : List S23) (i : Nat) : solventref32_Valid.f (rd_T23 l (i : Int)).f0 (rd_T23 l (i : Int)).f1 (rd_T23 l (i : Int)).f2 (rd_T23 l (i : Int)).f3 (rd_T23 l (i : Int)).f4 (rd_T23 l (i : Int)).f5 = some (okc (cl l i)) := rvalid4 _ _ _ _ _ _
theorem wish4 {l : List S23} {i : Nat} (h : okc (cl l i) = true) : solventref32_Wish.f (rd_T23 l (i : Int)).f0 (rd_T23 l (i : Int)).f1 (rd_T23 l (i : Int)).f2 (rd_T23 l (i : Int)).f3 (rd_T23 l (i : Int)).f4 (rd_T23 l (i : Int)).f5 = some (Wl l i) := by
  show solventref32_Wish.f (cl l i).f0 (cl l i).f1 (cl l i).f2 (cl l i).f3 (cl l i).f4 (cl l i).f5 = some (wishS (cl l i))
  unfold solventref32_Wish.f
  rw [show solventref32_excess.f (cl l i).f0 (cl l i).f1 (cl l i).f2 (cl l i).f3 (cl l i).f4 (cl l i).f5 = some (exc (cl l i).f0 (cl l i).f1 (cl l i).f4 (cl l i).f5) from exc_c h, Option.bind_some, wish_w h]
/-- A fair distribution comes out. -/
def Res (l : List S23) (f : Int) (g : Nat → Option (List Int)) : Prop := ∃ o : List Int, o.length = l.length ∧ Fair l.length (Wl l) (Rl l) f (fun i => o.getD i 0) ∧ Ev g o
theorem Res.from {l : List S23} {f : Int} {g g' : Nat → Option (List Int)} (h : Res l f g) (k : ∀ o, Ev g o → Ev g' o) : Res l f g' := by
  obtain ⟨o, h1, h2, h3⟩ := h
  exact ⟨o, h1, h2, k o h3⟩
/-- What stays so while one rank is served: p blocks were left at its start. -/
structure Run (l : List S23) (f r p : Int) (o0 : List Int) (q : Int) (o : List Int) : Prop where
  len : o.length = l.length
  nn : 0 ≤ q
  le : q ≤ p
  sum : q + sumF (fun i => o.getD i 0) l.length = f
  same : ∀ i, i < l.length → Rl l i ≠ r → o.getD i 0 = o0.getD i 0
/-- Up to the place t the claims of the rank have the level L + 1, from there on L. -/
structure Lev (l : List S23) (r L : Int) (t : Nat) (o : List Int) : Prop where
  hi : ∀ i, i < l.length → Rl l i = r → i < t → o.getD i 0 = mn (Wl l i) (L + 1)
  lo : ∀ i, i < l.length → Rl l i = r → t ≤ i → o.getD i 0 = mn (Wl l i) L
theorem run_done {l : List S23} (h : okl l) {f r p : Int} {o0 : List Int} (hI : Inv l.length (Wl l) (Rl l) f r p (fun i => o0.getD i 0)) {q L : Int} {o : List Int} {t : Nat} (hR : Run l f r p o0 q o) (hV : Lev l r L t o)
    (hL : -1 ≤ L) (ht : l.length ≤ t ∨ 0 ≤ L) (he : q = 0 ∨ ∀ i, i < l.length → Rl l i = r → o.getD i 0 = Wl l i) : Inv l.length (Wl l) (Rl l) f (r + 1) q (fun i => o.getD i 0) := by
  have hr : ∀ i, i < l.length → Rl l i = r → 0 ≤ o.getD i 0 ∧ o.getD i 0 ≤ Wl l i := fun i hi hr => by
    have w := wl_range h hi
    rcases Nat.lt_or_ge i t with c | c
    · rw [hV.hi i hi hr c]; unfold mn; split <;> omega
    · rw [hV.lo i hi hr c]; unfold mn; split <;> omega
  refine hI.step hR.nn hR.sum hR.same hr (fun i hi hir hlt => ?_) (fun hp => ?_)
  · have hlt : o.getD i 0 < Wl l i := hlt
    refine ⟨?_, fun k hk hkr => ?_⟩
    · rcases he with he | he
      · exact he
      · have := he i hi hir; omega
    · have wk := wl_range h hk
      show o.getD k 0 ≤ o.getD i 0 + 1 ∧ (i < k → o.getD k 0 ≤ o.getD i 0)
      rcases Nat.lt_or_ge i t with c | c
      · have e1 := hV.hi i hi hir c
        have a1 : o.getD i 0 = L + 1 := by rw [e1] at hlt ⊢; unfold mn at hlt ⊢; split at hlt <;> (try split) <;> omega
        have a2 : o.getD k 0 ≤ L + 1 := by
          rcases Nat.lt_or_ge k t with c2 | c2
          · rw [hV.hi k hk hkr c2]; unfold mn; split <;> omega
          · rw [hV.lo k hk hkr c2]; unfold mn; split <;> omega
        exact ⟨by omega, fun _ => by omega⟩
      · have e1 := hV.lo i hi hir c
        have a1 : o.getD i 0 = L := by rw [e1] at hlt ⊢; unfold mn at hlt ⊢; split at hlt <;> (try split) <;> omega
        have a2 : o.getD k 0 ≤ L + 1 := by
          rcases Nat.lt_or_ge k t with c2 | c2
          · rw [hV.hi k hk hkr c2]; unfold mn; split <;> omega
          · rw [hV.lo k hk hkr c2]; unfold mn; split <;> omega
        refine ⟨by omega, fun hik => ?_⟩
        rw [hV.lo k hk hkr (by omega), a1]; unfold mn; split <;> omega
  · have hq : q = 0 := by have := hR.nn; have := hR.le; omega
    refine ⟨hq, fun i hi hir => ?_⟩
    show o.getD i 0 = 0
    have s1 := hR.sum
    have s0 := hI.sum
    have hle : ∀ j, j < l.length → (fun i => o0.getD i 0) j ≤ (fun i => o.getD i 0) j := fun j hj => by
      show o0.getD j 0 ≤ o.getD j 0
      by_cases c : Rl l j = r
      · have z : o0.getD j 0 = 0 := hI.later j hj (by omega)
        have := (hr j hj c).1
        omega
      · rw [hR.same j hj c]; exact Int.le_refl _
    refine Classical.byContradiction fun hne => ?_
    have z : o0.getD i 0 = 0 := hI.later i hi (by omega)
    have := (hr i hi hir).1
    have := sumF_lt l.length hle i hi (by show o0.getD i 0 < o.getD i 0; omega)
    omega
theorem ev_pass {l : List S23} (h : okl l) {f r p : Int} (hf : f ≤ 9223372036854775807) {o0 : List Int} (kkpos : ∀ j, j < l.length → Rl l j ≠ r → 0 ≤ o0.getD j 0) {p1 L : Int} (hL : 0 ≤ L)
    (kk : ∀ q o sm, Run l f r p o0 q o → q ≤ p1 → (sm = true → q < p1) → (∃ t, t ≤ l.length ∧ (t = l.length ∨ q = 0) ∧ Lev l r L t o) → (sm = false → q = 0 ∨ ∀ j, j < l.length → Rl l j = r → o.getD j 0 = Wl l j) → Res l f (fun k => solventref32_Allowance.l2 k l q o r sm)) :
    ∀ (m i t : Nat) (q : Int) (o : List Int) (sm : Bool), i + m = l.length → Run l f r p o0 q o → q ≤ p1 → (sm = true → q < p1) → t ≤ i → (t = i ∨ q = 0) → Lev l r L t o → (sm = false → q = 0 ∨ ∀ j, j < i → Rl l j = r → o.getD j 0 = Wl l j) →
      Res l f (fun k => solventref32_Allowance.l3 k l q o r sm (i : Int))
  | 0, i, t, q, o, sm, hi, hR, hq, hsm, ht, ht2, hV, hs => by
    obtain rfl : i = l.length := by omega
    refine (kk q o sm hR hq hsm ⟨t, ht, ht2, hV⟩ hs).from fun o' hE => ?_
    exact Ev.step (fun k => by rw [solventref32_Allowance.l3]) (ev_neg (Int.lt_irrefl _) hE)
  | m + 1, i, t, q, o, sm, hi, hR, hq, hsm, ht, ht2, hV, hs => by
    have hlt : i < l.length := by omega
    have hl := h.1
    have l1 : (i : Int) < (l.length : Int) := by omega
    have l2 : (0 : Int) ≤ (i : Int) := by omega
    have l3 : (i : Int) < (o.length : Int) := by rw [hR.len]; exact l1
    have w1 : wrap64 ((i : Int) + 1) = ((i + 1 : Nat) : Int) := w64 (by omega) (by omega)
    have e1 : rd o (i : Int) = o.getD i 0 := rfl
    have wr := wl_range h hlt
    have open_ : ∀ (o' : List Int) , Ev (fun k => if Rl l i = r then (if (i : Int) < (o.length : Int) then (if o.getD i 0 < Wl l i then (if q > 0 then solventref32_Allowance.l3 k l (wrap64 (q - 1)) (o.set i (wrap64 (o.getD i 0 + 1))) r true ((i + 1 : Nat) : Int) else solventref32_Allowance.l3 k l q o r sm ((i + 1 : Nat) : Int)) else solventref32_Allowance.l3 k l q o r sm ((i + 1 : Nat) : Int)) else none) else solventref32_Allowance.l3 k l q o r sm ((i + 1 : Nat) : Int)) o' →
        Ev (fun k => solventref32_Allowance.l3 k l q o r sm (i : Int)) o' := fun o' hE => by
      refine Ev.step (fun k => by rw [solventref32_Allowance.l3]) ?_
      refine ev_pos l1 (ev_pos l2 ?_)
      rw [wish4 (h.2 _ (cl_mem hlt)), w1, e1]
      exact hE
    clear w1
    have skip : ∀ t', t' ≤ i + 1 → (t' = i + 1 ∨ q = 0) → Lev l r L t' o → (sm = false → q = 0 ∨ ∀ j, j < i + 1 → Rl l j = r → o.getD j 0 = Wl l j) → Res l f (fun k => solventref32_Allowance.l3 k l q o r sm ((i + 1 : Nat) : Int)) :=
      fun t' a b c d => ev_pass h hf kkpos hL kk m (i + 1) t' q o sm (by omega) hR hq hsm a b c d
    by_cases c1 : Rl l i = r
    · by_cases c2 : o.getD i 0 < Wl l i
      · have eL : o.getD i 0 = L ∧ L < Wl l i := by
          have := hV.lo i hlt c1 ht
          rw [this] at c2 ⊢
          unfold mn at c2 ⊢; split at c2 <;> (try split) <;> omega
        by_cases c3 : q > 0
        · have ht3 : t = i := by omega
          subst ht3
          have hlen : t < o.length := by rw [hR.len]; exact hlt
          have hq2 : q ≤ 9223372036854775807 := by
            have := hR.sum
            have s0 := sumF_nonneg (f := fun i => o.getD i 0) l.length (fun j hj => by
              show 0 ≤ o.getD j 0
              by_cases cj : Rl l j = r
              · have wj := wl_range h hj
                rcases Nat.lt_or_ge j t with c | c
                · rw [hV.hi j hj cj c]; unfold mn; split <;> omega
                · rw [hV.lo j hj cj c]; unfold mn; split <;> omega
              · rw [hR.same j hj cj]; exact kkpos j hj cj)
            omega
          refine (ev_pass h hf kkpos hL kk m (t + 1) (t + 1) (q - 1) (o.set t (o.getD t 0 + 1)) true (by omega) ⟨by rw [List.length_set]; exact hR.len, by omega, by have := hR.le; omega, ?_, fun j hj hjr => ?_⟩ (by omega) (fun _ => by omega) (Nat.le_refl _) (.inl rfl) ⟨fun j hj hjr hjt => ?_, fun j hj hjr hjt => ?_⟩ (fun e => by cases e)).from fun o' hE => open_ o' (ev_pos c1 (ev_pos l3 (ev_pos c2 (ev_pos c3 ?_))))
          · have := hR.sum
            rw [sumF_upd (f := fun i => o.getD i 0) (g := fun i => (o.set t (o.getD t 0 + 1)).getD i 0) (j := t) (d := 1) l.length hlt (fun j _ hne => by
              show (o.set t _).getD j 0 = _
              rw [getD_set hlen, if_neg hne]) (by
              show (o.set t _).getD t 0 = _
              rw [getD_set hlen, if_pos rfl])]
            omega
          · rw [getD_set hlen, if_neg (fun e : j = t => hjr (by rw [e]; exact c1))]; exact hR.same j hj hjr
          · rw [getD_set hlen]
            by_cases e : j = t
            · subst e; rw [if_pos rfl, eL.1]; unfold mn; split <;> omega
            · rw [if_neg e]; exact hV.hi j hj hjr (by omega)
          · rw [getD_set hlen, if_neg (by omega)]; exact hV.lo j hj hjr (by omega)
          · rw [w64 (x := q - 1) (by omega) (by omega), w64 (x := o.getD t 0 + 1) (by omega) (by omega)]; exact hE
        · have hq0 : q = 0 := by have := hR.nn; omega
          exact (skip t (by omega) (.inr hq0) hV (fun _ => .inl hq0)).from fun o' hE => open_ o' (ev_pos c1 (ev_pos l3 (ev_pos c2 (ev_neg c3 hE))))
      · have e2 := hV.lo i hlt c1 ht
        have full : o.getD i 0 = Wl l i := by
          rw [e2] at c2 ⊢; unfold mn at c2 ⊢; split at c2 <;> (try split) <;> omega
        have hs' : sm = false → q = 0 ∨ ∀ j, j < i + 1 → Rl l j = r → o.getD j 0 = Wl l j := fun e => by
          rcases hs e with h1 | h1
          · exact .inl h1
          · refine .inr fun j hj hjr => ?_
            by_cases e : j = i
            · subst e; exact full
            · exact h1 j (by omega) hjr
        refine (?_ : Res l f (fun k => solventref32_Allowance.l3 k l q o r sm ((i + 1 : Nat) : Int))).from fun o' hE => open_ o' (ev_pos c1 (ev_pos l3 (ev_neg c2 hE)))
        by_cases hti : t = i
        · subst hti
          refine skip (t + 1) (Nat.le_refl _) (.inl rfl) ⟨fun j hj hjr hjt => ?_, fun j hj hjr hjt => hV.lo j hj hjr (by omega)⟩ hs'
          by_cases e : j = t
          · subst e; rw [full]; rw [full] at e2; unfold mn at e2 ⊢; split at e2 <;> (try split) <;> omega
          · exact hV.hi j hj hjr (by omega)
        · exact skip t (by omega) (.inr (by rcases ht2 with e | e; exact absurd e hti; exact e)) hV hs'
    · have hs' : sm = false → q = 0 ∨ ∀ j, j < i + 1 → Rl l j = r → o.getD j 0 = Wl l j := fun e => by
        rcases hs e with h1 | h1
        · exact .inl h1
        · refine .inr fun j hj hjr => ?_
          by_cases e : j = i
          · subst e; exact absurd hjr c1
          · exact h1 j (by omega) hjr
      refine (?_ : Res l f (fun k => solventref32_Allowance.l3 k l q o r sm ((i + 1 : Nat) : Int))).from fun o' hE => open_ o' (ev_neg c1 hE)
      by_cases hti : t = i
      · subst hti
        refine skip (t + 1) (Nat.le_refl _) (.inl rfl) ⟨fun j hj hjr hjt => ?_, fun j hj hjr hjt => hV.lo j hj hjr (by omega)⟩ hs'
        by_cases e : j = t
        · subst e; exact absurd hjr c1
        · exact hV.hi j hj hjr (by omega)
      · exact skip t (by omega) (.inr (by rcases ht2 with e | e; exact absurd e hti; exact e)) hV hs'
theorem ev_while {l : List S23} (h : okl l) {f r p : Int} (hf : f ≤ 9223372036854775807) (hr0 : 0 ≤ r) (hr9 : r ≤ 9) {o0 : List Int} (hI : Inv l.length (Wl l) (Rl l) f r p (fun i => o0.getD i 0))
    (next : ∀ q o, o.length = l.length → Inv l.length (Wl l) (Rl l) f (r + 1) q (fun i => o.getD i 0) → Res l f (fun k => solventref32_Allowance.l1 k l q o (r + 1))) :
    ∀ (m : Nat) (q L : Int) (t : Nat) (o : List Int) (sm : Bool), q ≤ m → -1 ≤ L → Run l f r p o0 q o → Lev l r L t o → (t = l.length ∨ (q = 0 ∧ 0 ≤ L)) → (sm = false → q = 0 ∨ ∀ j, j < l.length → Rl l j = r → o.getD j 0 = Wl l j) →
      Res l f (fun k => solventref32_Allowance.l2 k l q o r sm) := by
  have kkpos : ∀ j, j < l.length → Rl l j ≠ r → 0 ≤ o0.getD j 0 := fun j hj _ => (hI.rng j hj).1
  intro m
  induction m with
  | zero =>
    intro q L t o sm hm hL hR hV ht hs
    have hq : q = 0 := by have := hR.nn; omega
    have hD := run_done h hI hR hV hL (by rcases ht with e | e; exact .inl (by omega); exact .inr e.2) (.inl hq)
    refine (next q o hR.len hD).from fun o' hE => ?_
    have hj : Ev (fun k => solventref32_Allowance.j3 k l q o r false) o' := Ev.step (fun k => by rw [solventref32_Allowance.j3]) (ev_neg (by decide) (by rw [w64 (x := r + 1) (by omega) (by omega)]; exact hE))
    refine Ev.step (fun k => by rw [solventref32_Allowance.l2]) ?_
    by_cases c : sm = true
    · refine ev_pos c ?_
      rw [decide_eq_false (by omega)]; exact hj
    · exact ev_neg c hj
  | succ m ih =>
    intro q L t o sm hm hL hR hV ht hs
    have done : (q = 0 ∨ ∀ j, j < l.length → Rl l j = r → o.getD j 0 = Wl l j) → Res l f (fun k => solventref32_Allowance.j3 k l q o r false) := fun he => by
      have hD := run_done h hI hR hV hL (by rcases ht with e | e; exact .inl (by omega); exact .inr e.2) he
      refine (next q o hR.len hD).from fun o' hE => ?_
      exact Ev.step (fun k => by rw [solventref32_Allowance.j3]) (ev_neg (by decide) (by rw [w64 (x := r + 1) (by omega) (by omega)]; exact hE))
    by_cases c : sm = true
    · by_cases c2 : q > 0
      · have htl : t = l.length := by rcases ht with e | e; exact e; omega
        have hV2 : Lev l r (L + 1) 0 o := ⟨fun i _ _ hi => absurd hi (Nat.not_lt_zero _), fun i hi hir _ => hV.hi i hi hir (by omega)⟩
        have hp := ev_pass h hf kkpos (p1 := q) (L := L + 1) (by omega) (fun q' o' sm' hR' hq' hsm' ht' hs' => by
          obtain ⟨t', a1, a2, a3⟩ := ht'
          by_cases d : sm' = true
          · exact ih q' (L + 1) t' o' sm' (by have := hsm' d; omega) (by omega) hR' a3 (by rcases a2 with e | e; exact .inl e; exact .inr ⟨e, by omega⟩) hs'
          · have hs2 := hs' (by simpa using d)
            have hD := run_done h hI hR' a3 (by omega) (.inr (by omega)) hs2
            refine (next q' o' hR'.len hD).from fun o'' hE => ?_
            refine Ev.step (fun k => by rw [solventref32_Allowance.l2]) (ev_neg d ?_)
            exact Ev.step (fun k => by rw [solventref32_Allowance.j3]) (ev_neg (by decide) (by rw [w64 (x := r + 1) (by omega) (by omega)]; exact hE)))
          l.length 0 0 q o false (by omega) hR (Int.le_refl _) (fun e => by cases e) (Nat.le_refl _) (.inl rfl) hV2 (fun _ => .inr fun j hj => absurd hj (Nat.not_lt_zero _))
        refine hp.from fun o' hE => Ev.step (fun k => by rw [solventref32_Allowance.l2]) (ev_pos c ?_)
        rw [decide_eq_true c2]
        have hE : Ev (fun k => solventref32_Allowance.l3 k l q o r false 0) o' := hE
        exact Ev.step (fun k => by rw [solventref32_Allowance.j3]) (ev_pos rfl hE)
      · refine (done (.inl (by have := hR.nn; omega))).from fun o' hE => Ev.step (fun k => by rw [solventref32_Allowance.l2]) (ev_pos c ?_)
        rw [decide_eq_false c2]; exact hE
    · exact (done (hs (by simpa using c))).from fun o' hE => Ev.step (fun k => by rw [solventref32_Allowance.l2]) (ev_neg c hE)
theorem ev_rranks {l : List S23} (h : okl l) {f : Int} (hf : f ≤ 9223372036854775807) : ∀ (m : Nat) (r p : Int) (o : List Int), r + m = 10 → 0 ≤ r → o.length = l.length → Inv l.length (Wl l) (Rl l) f r p (fun i => o.getD i 0) →
    Res l f (fun k => solventref32_Allowance.l1 k l p o r)
  | 0, r, p, o, hm, h0, hlen, hI => ⟨o, hlen, hI.done (fun i hi => by have := rank_lt h hi; omega), Ev.step (fun k => by rw [solventref32_Allowance.l1]) (ev_neg (by omega) (Ev.now _))⟩
  | m + 1, r, p, o, hm, h0, hlen, hI => by
    have hp := hI.h0
    refine (ev_while h hf h0 (by omega) hI (fun q o' hl' hI' => ev_rranks h hf m (r + 1) q o' (by omega) (by omega) hl' hI') p.toNat p (-1) l.length o true (by omega) (Int.le_refl _)
      ⟨hlen, hp, Int.le_refl _, hI.sum, fun _ _ _ => rfl⟩ ⟨fun i hi hir _ => ?_, fun i hi _ hli => by omega⟩ (.inl rfl) (fun e => by cases e)).from fun o' hE => ?_
    · have z : o.getD i 0 = 0 := hI.later i hi (by omega)
      have := wl_range h hi
      rw [z]; unfold mn; split <;> omega
    · exact Ev.step (fun k => by rw [solventref32_Allowance.l1]) (ev_pos (by omega) hE)
theorem ev_rcheck {l : List S23} (h : okl l) {f : Int} {o : List Int} (kk : Ev (fun k => solventref32_Allowance.l1 k l f (List.replicate l.length 0) 0) o) : ∀ (m i : Nat), i + m = l.length → Ev (fun k => solventref32_Allowance.l0 k l f (i : Int)) o
  | 0, i, hi => by
    have hl := h.1
    refine Ev.step (fun k => by rw [solventref32_Allowance.l0]) (ev_neg (by omega) (ev_pos (by omega) (ev_pos (by omega) ?_)))
    rw [show ((l.length : Int)).toNat = l.length from by omega]
    exact kk
  | m + 1, i, hi => by
    have hl := h.1
    have hc := h.2 _ (cl_mem (l := l) (i := i) (by omega))
    refine Ev.step (fun k => by rw [solventref32_Allowance.l0]) (ev_pos (by omega) (ev_pos (by omega) ?_))
    rw [valid4, hc, w64 (x := (i : Int) + 1) (by omega) (by omega)]
    exact ev_some (ev_pos rfl (ev_rcheck h kk m (i + 1) (by omega)))
theorem ev_rallowance {l : List S23} (h : okl l) {f : Int} (h0 : 0 ≤ f) (hf : f ≤ 9223372036854775807) : Res l f (fun k => solventref32_Allowance.f k l f) := by
  have e0 : (fun i => (List.replicate l.length (0 : Int)).getD i 0) = fun _ => 0 := by funext i; exact getD_rep _ _
  refine (ev_rranks h hf 10 0 f (List.replicate l.length 0) (by omega) (by omega) (by simp) (by
    rw [e0]; exact Inv.start h0 (fun i hi => (wl_range h hi).1) (fun i hi => (rank_lt h hi).1))).from fun o hE => ?_
  exact ev_neg (by omega) (ev_rcheck h hE l.length 0 (by omega))
theorem ev_rbad (l : List S23) (hl : l.length ≤ 20) (f : Int) : ∀ (m i : Nat), i + m = l.length → (l.drop i).all okc = false → Ev (fun k => solventref32_Allowance.l0 k l f (i : Int)) []
  | 0, i, hi, hb => by rw [List.drop_eq_nil_of_le (by omega)] at hb; cases hb
  | m + 1, i, hi, hb => by
    rw [drop_cl (l := l) (i := i) (by omega), List.all_cons] at hb
    refine Ev.step (fun k => by rw [solventref32_Allowance.l0]) (ev_pos (by omega) (ev_pos (by omega) ?_))
    rw [valid4, w64 (x := (i : Int) + 1) (by omega) (by omega)]
    by_cases c : okc (cl l i) = true
    · rw [c, Bool.true_and] at hb
      rw [c]
      exact ev_some (ev_pos rfl (ev_rbad l hl f m (i + 1) (by omega) hb))
    · exact ev_some (ev_neg c (Ev.now _))
end Go.Proofs.Ytdapoclangoobaa.Q
