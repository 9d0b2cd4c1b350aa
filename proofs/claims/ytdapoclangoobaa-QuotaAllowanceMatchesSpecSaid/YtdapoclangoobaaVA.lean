/- Allowance, in plain words: what it distributes is fair (the ranks, one by one). -/
import Derived.Test.YtdapoclangoobaaVC
namespace Go.Proofs.Ytdapoclangoobaa.Q
open Go.RowKit Go.Proofs.YtdapoclangoobaaW.PrintWords Go.Proofs.YtdapoclangoobaaW.PrintMore
set_option linter.unusedVariables false
theorem ev_unique {α : Type} {g : Nat → Option α} {a b : α} (h : Ev g a) (k : Ev g b) : a = b := by
  obtain ⟨K, h⟩ := h
  obtain ⟨K', k⟩ := k
  have h1 := h (max K K') (by omega)
  have h2 := k (max K K') (by omega)
  exact Option.some.inj (h1.symm.trans h2)
theorem total_nonneg {s : List Int} (h : ∀ i, i < s.length → 0 ≤ s.getD i 0) : 0 ≤ total s := by
  rw [total_sumF]; exact sumF_nonneg _ h
theorem mem_getD {s : List Int} {v : Int} (h : v ∈ s) : ∃ i, i < s.length ∧ s.getD i 0 = v := by
  obtain ⟨i, hi⟩ := List.mem_iff_getElem?.mp h
  refine ⟨i, (List.getElem?_eq_some_iff.1 hi).1, ?_⟩
  rw [List.getD_eq_getElem?_getD, hi]; rfl
theorem all_zero {s : List Int} (h : ∀ i, i < s.length → 0 ≤ s.getD i 0) (ht : total s ≤ 0) : ∀ i, i < s.length → s.getD i 0 = 0 := fun i hi => by
  refine Classical.byContradiction fun hne => ?_
  have h1 := h i hi
  rw [total_sumF] at ht
  have := sumF_lt (f := fun _ => 0) (g := fun i => s.getD i 0) s.length h i hi (by show 0 < s.getD i 0; omega)
  rw [sumF_zero] at this
  omega
theorem rank_lt {l : List S23} (h : okl l) {i : Nat} (hi : i < l.length) : 0 ≤ Rl l i ∧ Rl l i ≤ 9 := by
  have := okc_iff.mp (h.2 _ (cl_mem hi))
  exact ⟨this.2.2.2.2.2.2.2.2.2.2.1, this.2.2.2.2.2.2.2.2.2.2.2⟩
theorem wl_range {l : List S23} (h : okl l) {i : Nat} (hi : i < l.length) : 0 ≤ Wl l i ∧ Wl l i ≤ 1099511627776 := wish_range (h.2 _ (cl_mem hi))
theorem ev_ranks {l : List S23} (h : okl l) {f : Int} (hf : f ≤ 9223372036854775807) : ∀ (m : Nat) (r p : Int) (o : List Int), r + m = 10 → 0 ≤ r → o.length = l.length → Inv l.length (Wl l) (Rl l) f r p (fun i => o.getD i 0) →
    ∃ o' : List Int, o'.length = l.length ∧ Fair l.length (Wl l) (Rl l) f (fun i => o'.getD i 0) ∧ Ev (fun k => quota_Allowance.l0 k l p o r) o'
  | 0, r, p, o, hm, h0, hlen, hI => by
    refine ⟨o, hlen, hI.done (fun i hi => by have := rank_lt h hi; omega), Ev.step (fun k => by rw [quota_Allowance.l0]) (ev_neg (by omega) (Ev.now _))⟩
  | m + 1, r, p, o, hm, h0, hlen, hI => by
    have hl := h.1
    have hmem : ∀ i, i ∈ atN (Rl l) r l.length ↔ i < l.length ∧ Rl l i = r := fun i => atN_mem
    have hsorted := atN_sorted (Rl l) r l.length
    have hIl := atN_length (Rl l) r l.length
    have hcol := fun q => ev_collect h (f := p) (rank := r) (rank2 := r) (o := o) (q := q)
    generalize atN (Rl l) r l.length = I at hmem hsorted hIl hcol
    have hws : okW (I.map (Wl l)) := ⟨by rw [List.length_map]; omega, fun w hw => by
      obtain ⟨i, hi, rfl⟩ := List.mem_map.mp hw
      exact wl_range h ((hmem i).mp hi).1⟩
    have hsumo : 0 ≤ sumF (fun i => o.getD i 0) l.length := sumF_nonneg _ (fun i hi => (hI.rng i hi).1)
    have hp0 := hI.h0
    have hps := hI.sum
    obtain ⟨L, hL, hS⟩ := ev_share hws hp0 (by omega : p ≤ 9223372036854775807)
    have hlen2 := inc_length L (I.map (Wl l)) (p - cost L (I.map (Wl l)))
    have hts := share_sum hL (fun w hw => (hws.2 w hw).2)
    have heach := inc_each hL.1 (I.map (Wl l)) (p - cost L (I.map (Wl l))) (fun w hw => (hws.2 w hw).1)
    generalize inc L (p - cost L (I.map (Wl l))) (I.map (Wl l)) = s at hS hlen2 hts heach
    rw [List.length_map] at hlen2 heach
    have hs0 : ∀ i, i < s.length → 0 ≤ s.getD i 0 := fun i hi => (heach i (by omega)).1
    have htl : total s ≤ p := by rw [hts]; unfold mn; split <;> omega
    have ht0 := total_nonneg hs0
    have hcolW : ∀ j i, I[j]? = some i → (I.map (Wl l)).getD j 0 = Wl l i := fun j i hj => by
      rw [List.getD_eq_getElem?_getD, List.getElem?_map, hj]; rfl
    have hidx : ∀ i, i < l.length → Rl l i = r → ∃ j, j < I.length ∧ I[j]? = some i := fun i hi hr => by
      obtain ⟨j, hj⟩ := List.mem_iff_getElem?.mp ((hmem i).mpr ⟨hi, hr⟩)
      exact ⟨j, (List.getElem?_eq_some_iff.1 hj).1, hj⟩
    have hin : ∀ q ∈ I, q < o.length := fun q hq => by rw [hlen]; exact ((hmem q).mp hq).1
    have hval := scat_in I s o hin hsorted hlen2.symm
    have hout := scat_out I s o
    have hsum := scat_sum I s o l.length hlen (fun q hq => ((hmem q).mp hq).1) hsorted hlen2.symm (fun q hq => hI.later q ((hmem q).mp hq).1 (by rw [((hmem q).mp hq).2]; exact Int.le_refl _))
    have hstep : Inv l.length (Wl l) (Rl l) f (r + 1) (p - total s) (fun i => (scat I s o).getD i 0) := by
      refine hI.step (by omega) (by rw [hsum]; omega) (fun i hi hne => ?_) (fun i hi hr => ?_) (fun i hi hr hlt => ?_) (fun hz => ?_)
      · exact hout i hin (fun e => hne ((hmem i).mp e).2)
      · obtain ⟨j, hj, hij⟩ := hidx i hi hr
        show 0 ≤ (scat I s o).getD i 0 ∧ (scat I s o).getD i 0 ≤ _
        rw [hval j i hij, ← hcolW j i hij]
        exact ⟨(heach j hj).1, (heach j hj).2.1⟩
      · obtain ⟨j, hj, hij⟩ := hidx i hi hr
        have hlt' : s.getD j 0 < (I.map (Wl l)).getD j 0 := by
          rw [hcolW j i hij, ← hval j i hij]; exact hlt
        have e1 := (heach j hj).2.2.2 hlt'
        refine ⟨?_, fun k hk hkr => ?_⟩
        · have : total s < total (I.map (Wl l)) := by
            rw [total_sumF, total_sumF, hlen2, List.length_map]
            exact sumF_lt I.length (fun i hi => (heach i hi).2.1) j hj hlt'
          rw [hts] at this ⊢
          unfold mn at this ⊢
          split at this <;> split <;> omega
        · obtain ⟨j', hj', hkj⟩ := hidx k hk hkr
          show (scat I s o).getD k 0 ≤ (scat I s o).getD i 0 + 1 ∧ (i < k → (scat I s o).getD k 0 ≤ (scat I s o).getD i 0)
          rw [hval j i hij, hval j' k hkj]
          have e2 := (heach j' hj').2.2.1
          refine ⟨by omega, fun hik => ?_⟩
          by_cases e3 : s.getD j 0 = L
          · have hjj : j < j' := by
              refine Classical.byContradiction fun hn => ?_
              rcases Nat.lt_or_eq_of_le (Nat.le_of_not_lt hn) with hlt2 | heq
              · have := List.pairwise_iff_getElem.mp hsorted j' j hj' hj hlt2
                rw [List.getElem?_eq_getElem hj] at hij
                rw [List.getElem?_eq_getElem hj'] at hkj
                have a1 := Option.some.inj hij
                have a2 := Option.some.inj hkj
                omega
              · subst heq
                rw [hij] at hkj
                have := Option.some.inj hkj
                omega
            have := e1.2 e3 j' hjj hj'
            omega
          · have := e1.1
            omega
      · have hz2 : total s ≤ 0 := by omega
        refine ⟨by omega, fun i hi hr => ?_⟩
        obtain ⟨j, hj, hij⟩ := hidx i hi hr
        show (scat I s o).getD i 0 = 0
        rw [hval j i hij]
        exact all_zero hs0 hz2 j (by omega)
    obtain ⟨o', ho', hF, hE⟩ := ev_ranks h hf m (r + 1) (p - total s) (scat I s o) (by omega) (by omega) (by rw [scat_length, hlen]) hstep
    refine ⟨o', ho', hF, Ev.step (fun k => by rw [quota_Allowance.l0]) (ev_pos (by omega) ?_)⟩
    refine hcol o' l.length 0 (by omega) (fun s' hs' => ?_) ⟨s, hS⟩
    obtain rfl : s = s' := ev_unique hS hs'
    have := ev_scat h0 (by omega : r ≤ 9) (l := l) (q := o') I s [] [] o p hlen2.symm rfl (by simp; omega) hin (fun q hq => by have := ((hmem q).mp hq).1; omega) (fun v hv => by
      obtain ⟨i, hi, rfl⟩ := mem_getD hv
      exact hs0 i hi) htl (by omega) hE
    simpa using this
theorem getD_rep (n i : Nat) : (List.replicate n (0 : Int)).getD i 0 = 0 := by
  rw [List.getD_eq_getElem?_getD, List.getElem?_replicate]
  split <;> rfl
theorem okl_all {l : List S23} (h : okl l) : l.all okc = true := List.all_eq_true.mpr h.2
theorem ev_allowance {l : List S23} (h : okl l) {f : Int} (h0 : 0 ≤ f) (hf : f ≤ 9223372036854775807) :
    ∃ o : List Int, o.length = l.length ∧ Fair l.length (Wl l) (Rl l) f (fun i => o.getD i 0) ∧ Ev (fun k => quota_Allowance.f k l f) o := by
  have hl := h.1
  have e0 : (fun i => (List.replicate l.length (0 : Int)).getD i 0) = fun _ => 0 := by funext i; exact getD_rep _ _
  obtain ⟨o, h1, h2, h3⟩ := ev_ranks h hf 10 0 f (List.replicate l.length 0) (by omega) (by omega) (by simp) (by
    rw [e0]; exact Inv.start h0 (fun i hi => (wl_range h hi).1) (fun i hi => (rank_lt h hi).1))
  refine ⟨o, h1, h2, ev_neg (by omega) (Ev.bind (ev_contains l (by omega)) ?_)⟩
  rw [okl_all h]
  refine Ev.step (fun k => by rw [quota_Allowance.j0, Bool.not_true]) (ev_neg (by decide) (ev_pos (by omega) (ev_pos (by omega) ?_)))
  rw [show ((l.length : Int)).toNat = l.length from by omega]
  exact h3
theorem ev_allowance_bad {l : List S23} (hl : (l.length : Int) < 4611686018427387904) (h : l.all okc = false) (f : Int) : Ev (fun k => quota_Allowance.f k l f) [] := by
  have yes : Ev (fun k => quota_Allowance.j0 k l f true) [] := Ev.step (fun k => by rw [quota_Allowance.j0]) (ev_pos rfl (Ev.now _))
  by_cases hf : f < 0
  · exact ev_pos hf yes
  · refine ev_neg hf (Ev.bind (ev_contains l hl) ?_)
    rw [h]; exact yes
theorem ev_allowance_neg (l : List S23) {f : Int} (hf : f < 0) : Ev (fun k => quota_Allowance.f k l f) [] :=
  ev_pos hf (Ev.step (fun k => by rw [quota_Allowance.j0]) (ev_pos rfl (Ev.now _)))
end Go.Proofs.Ytdapoclangoobaa.Q
