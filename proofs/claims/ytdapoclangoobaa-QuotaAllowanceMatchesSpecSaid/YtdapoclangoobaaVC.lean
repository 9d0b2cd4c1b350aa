/- Allowance, in plain words: what it distributes is fair. -/
import Derived.Test.YtdapoclangoobaaVS
namespace Go.Proofs.Ytdapoclangoobaa.Q
open Go.RowKit Go.Proofs.YtdapoclangoobaaW.PrintWords Go.Proofs.YtdapoclangoobaaW.PrintMore
set_option linter.unusedVariables false
def okc (c : S23) : Bool := okQ c.f0 c.f1 c.f2 c.f3 c.f4 c.f5
def cl (l : List S23) (i : Nat) : S23 := l.getD i z23
def wishS (c : S23) : Int := mx 0 (c.f2 - exc c.f0 c.f1 c.f4 c.f5)
def Wl (l : List S23) (i : Nat) : Int := wishS (cl l i)
def Rl (l : List S23) (i : Nat) : Int := (cl l i).f3
theorem cl_mem {l : List S23} {i : Nat} (h : i < l.length) : cl l i ∈ l := by
  unfold cl
  rw [List.getD_eq_getElem?_getD, List.getElem?_eq_getElem h]
  exact List.getElem_mem _
theorem rdT {l : List S23} {i : Int} : rd_T23 l i = cl l i.toNat := rfl
theorem drop_cl {l : List S23} {i : Nat} (h : i < l.length) : l.drop i = cl l i :: l.drop (i + 1) := by
  rw [List.drop_eq_getElem_cons h]
  congr 1
  unfold cl
  rw [List.getD_eq_getElem?_getD, List.getElem?_eq_getElem h]; rfl
theorem ev_S1 (c : S23) : Ev (fun k => quota_Allowance_S1.f k c.f0 c.f1 c.f2 c.f3 c.f4 c.f5) (!okc c) := Ev.bind (ev_valid _ _ _ _ _ _) (Ev.now _)
theorem ev_S1' (l : List S23) (i : Nat) : Ev (fun k => quota_Allowance_S1.f k (rd_T23 l (i : Int)).f0 (rd_T23 l (i : Int)).f1 (rd_T23 l (i : Int)).f2 (rd_T23 l (i : Int)).f3 (rd_T23 l (i : Int)).f4 (rd_T23 l (i : Int)).f5) (!okc (cl l i)) := ev_S1 (cl l i)
theorem ev_indexc (l : List S23) (hl : (l.length : Int) < 4611686018427387904) : ∀ (n i : Nat), i + n = l.length →
    ∃ r : Int, Ev (fun k => slices_IndexFunc_claims.l0 k l (l.length : Int) (i : Int)) r ∧ decide (r ≥ 0) = !(l.drop i).all okc
  | 0, i, hn => by
    refine ⟨-1, Ev.step (fun k => by rw [slices_IndexFunc_claims.l0]) (ev_neg (by omega) (Ev.now _)), ?_⟩
    rw [List.drop_eq_nil_of_le (by omega)]; rfl
  | n + 1, i, hn => by
    have hd := drop_cl (l := l) (i := i) (by omega)
    by_cases hf : okc (cl l i) = true
    · obtain ⟨r, hr, e⟩ := ev_indexc l hl n (i + 1) (by omega)
      refine ⟨r, Ev.step (fun k => by rw [slices_IndexFunc_claims.l0]) (ev_pos (by omega) (ev_pos (by omega) (ev_pos (by omega) (Ev.bind (ev_S1' l i) ?_)))), ?_⟩
      · rw [hf, w64 (x := (i : Int) + 1) (by omega) (by omega)]
        exact ev_neg (by decide) hr
      · rw [hd, List.all_cons, hf, e, Bool.true_and]
    · have hf' : okc (cl l i) = false := by simpa using hf
      refine ⟨i, Ev.step (fun k => by rw [slices_IndexFunc_claims.l0]) (ev_pos (by omega) (ev_pos (by omega) (ev_pos (by omega) (Ev.bind (ev_S1' l i) ?_)))), ?_⟩
      · rw [hf']; exact ev_pos rfl (Ev.now _)
      · rw [hd, List.all_cons, hf', decide_eq_true (by omega)]; rfl
theorem ev_contains (l : List S23) (hl : (l.length : Int) < 4611686018427387904) : Ev (fun k => slices_ContainsFunc_claims.f k l) (!l.all okc) := by
  obtain ⟨r, hr, e⟩ := ev_indexc l hl l.length 0 (by omega)
  exact ev_eq (Ev.bind hr (Ev.now _)) e
/-! the claims of one rank -/
def atN (R : Nat → Int) (r : Int) (n : Nat) : List Nat := (List.range n).filter (fun i => decide (R i = r))
theorem atN_succ (R : Nat → Int) (r : Int) (n : Nat) : atN R r (n + 1) = if R n = r then atN R r n ++ [n] else atN R r n := by
  unfold atN
  rw [List.range_succ, List.filter_append]
  by_cases h : R n = r <;> simp [h]
theorem atN_mem {R : Nat → Int} {r : Int} {n i : Nat} : i ∈ atN R r n ↔ i < n ∧ R i = r := by
  unfold atN; simp [List.mem_filter]
theorem atN_sorted (R : Nat → Int) (r : Int) (n : Nat) : (atN R r n).Pairwise (· < ·) := List.Pairwise.filter _ List.pairwise_lt_range
theorem atN_length (R : Nat → Int) (r : Int) (n : Nat) : (atN R r n).length ≤ n := by
  have := List.length_filter_le (fun i => decide (R i = r)) (List.range n)
  rw [List.length_range] at this; exact this
def scat : List Nat → List Int → List Int → List Int
  | p :: ps, v :: vs, o => scat ps vs (o.set p v)
  | _, _, o => o
theorem scat_length : ∀ (I : List Nat) (s o : List Int), (scat I s o).length = o.length
  | [], _, _ => by simp [scat]
  | _ :: _, [], _ => by simp [scat]
  | p :: ps, v :: vs, o => by simp only [scat]; rw [scat_length ps vs]; simp
theorem getD_set {o : List Int} {p i : Nat} {v : Int} (hp : p < o.length) : (o.set p v).getD i 0 = if i = p then v else o.getD i 0 := by
  rw [List.getD_eq_getElem?_getD, List.getD_eq_getElem?_getD]
  by_cases h : i = p
  · subst h; rw [if_pos rfl, List.getElem?_set_self hp]; rfl
  · rw [if_neg h, List.getElem?_set_ne (fun e => h e.symm)]
theorem scat_out : ∀ (I : List Nat) (s o : List Int) (i : Nat), (∀ p ∈ I, p < o.length) → i ∉ I → (scat I s o).getD i 0 = o.getD i 0
  | [], _, _, _, _, _ => by simp [scat]
  | _ :: _, [], _, _, _, _ => by simp [scat]
  | p :: ps, v :: vs, o, i, h, hi => by
    have hp := h p (List.mem_cons_self ..)
    have hne : i ≠ p := fun e => hi (e ▸ List.mem_cons_self ..)
    simp only [scat]
    rw [scat_out ps vs _ i (fun q hq => by rw [List.length_set]; exact h q (List.mem_cons_of_mem _ hq)) (fun e => hi (List.mem_cons_of_mem _ e)), getD_set hp, if_neg hne]
theorem scat_in : ∀ (I : List Nat) (s o : List Int), (∀ p ∈ I, p < o.length) → I.Pairwise (· < ·) → I.length = s.length → ∀ j i, I[j]? = some i → (scat I s o).getD i 0 = s.getD j 0
  | [], _, _, _, _, _, j, i, hj => by simp at hj
  | _ :: _, [], _, _, _, hl, _, _, _ => by simp at hl
  | p :: ps, v :: vs, o, h, hs, hl, j, i, hj => by
    have hp := h p (List.mem_cons_self ..)
    have hps : ∀ q ∈ ps, q < (o.set p v).length := fun q hq => by rw [List.length_set]; exact h q (List.mem_cons_of_mem _ hq)
    obtain ⟨h1, h2⟩ := List.pairwise_cons.mp hs
    simp only [scat]
    cases j with
    | zero =>
      obtain rfl : p = i := by simpa using hj
      rw [scat_out ps vs _ p hps (fun e => Nat.lt_irrefl _ (h1 p e)), getD_set hp, if_pos rfl]; rfl
    | succ j =>
      rw [List.getD_cons_succ]
      exact scat_in ps vs _ hps h2 (by simpa using hl) j i (by simpa using hj)
theorem scat_sum : ∀ (I : List Nat) (s o : List Int) (n : Nat), o.length = n → (∀ p ∈ I, p < n) → I.Pairwise (· < ·) → I.length = s.length → (∀ p ∈ I, o.getD p 0 = 0) →
    sumF (fun i => (scat I s o).getD i 0) n = sumF (fun i => o.getD i 0) n + total s
  | [], [], o, n, _, _, _, _, _ => by simp [scat, total]
  | [], _ :: _, _, _, _, _, _, hl, _ => by simp at hl
  | _ :: _, [], _, _, _, _, _, hl, _ => by simp at hl
  | p :: ps, v :: vs, o, n, ho, h, hs, hl, hz => by
    have hp := h p (List.mem_cons_self ..)
    obtain ⟨h1, h2⟩ := List.pairwise_cons.mp hs
    simp only [scat, total]
    rw [scat_sum ps vs (o.set p v) n (by rw [List.length_set]; exact ho) (fun q hq => h q (List.mem_cons_of_mem _ hq)) h2 (by simpa using hl) (fun q hq => by
      rw [getD_set (by omega), if_neg (fun e => by have := h1 q hq; omega)]; exact hz q (List.mem_cons_of_mem _ hq))]
    rw [sumF_upd (f := fun i => o.getD i 0) (g := fun i => (o.set p v).getD i 0) (j := p) (d := v) n hp (fun i _ hne => by
      show (o.set p v).getD i 0 = _
      rw [getD_set (by omega), if_neg hne]) (by
      show (o.set p v).getD p 0 = _
      rw [getD_set (by omega), if_pos rfl, hz p (List.mem_cons_self ..)]; omega)]
    omega
/-- All claims are valid. -/
def okl (l : List S23) : Prop := l.length ≤ 20 ∧ ∀ c ∈ l, okc c = true
theorem okc_iff {c : S23} : okc c = true ↔ 0 ≤ c.f0 ∧ c.f0 ≤ 1099511627776 ∧ 0 ≤ c.f1 ∧ c.f1 ≤ 1099511627776 ∧ 0 ≤ c.f2 ∧ c.f2 ≤ 1099511627776 ∧ 0 ≤ c.f4 ∧ c.f4 ≤ 1099511627776 ∧ 0 ≤ c.f5 ∧ c.f5 ≤ 1099511627776 ∧ 0 ≤ c.f3 ∧ c.f3 ≤ 9 := okQ_iff
theorem wish_range {c : S23} (h : okc c = true) : 0 ≤ wishS c ∧ wishS c ≤ 1099511627776 := by
  have h' := okc_iff.mp h
  have := exc_range (g := c.f0) (s := c.f1) (v := c.f4) (n := c.f5) (by omega) (by omega) (by omega) (by omega)
  unfold wishS mx; split <;> omega
theorem exc_c {c : S23} (h : okc c = true) : quota_excess.f c.f0 c.f1 c.f2 c.f3 c.f4 c.f5 = some (exc c.f0 c.f1 c.f4 c.f5) := by
  have h' := okc_iff.mp h
  exact exc_eq (by omega) (by omega) (by omega) (by omega)
theorem wish_w {c : S23} (h : okc c = true) : mx 0 (wrap64 (c.f2 - exc c.f0 c.f1 c.f4 c.f5)) = wishS c := by
  have h' := okc_iff.mp h
  have := exc_range (g := c.f0) (s := c.f1) (v := c.f4) (n := c.f5) (by omega) (by omega) (by omega) (by omega)
  rw [w64 (by omega) (by omega)]; rfl
theorem ev_collect {l : List S23} (h : okl l) {f rank rank2 : Int} {o : List Int} {q : List Int} : ∀ (n i : Nat), i + n = l.length →
    (∀ s, Ev (fun k => quota_share.f k ((atN (Rl l) rank l.length).map (Wl l)) f) s → Ev (fun k => quota_Allowance.l2 k l f o ((atN (Rl l) rank l.length).map (fun j : Nat => (j : Int))) rank2 s (s.length : Int) 0) q) →
    (∃ s, Ev (fun k => quota_share.f k ((atN (Rl l) rank l.length).map (Wl l)) f) s) →
    Ev (fun k => quota_Allowance.l1 k l f o rank ((atN (Rl l) rank i).map (fun j : Nat => (j : Int))) ((atN (Rl l) rank i).map (Wl l)) rank2 l (l.length : Int) (i : Int)) q
  | 0, i, hn, kk, hs => by
    obtain ⟨s, hs⟩ := hs
    obtain rfl : i = l.length := by omega
    exact Ev.step (fun k => by rw [quota_Allowance.l1]) (ev_neg (by omega) (Ev.bind hs (kk s hs)))
  | n + 1, i, hn, kk, hs => by
    have hc := h.2 _ (cl_mem (l := l) (i := i) (by omega))
    have hl := h.1
    have hi := atN_length (Rl l) rank i
    have ih := ev_collect h n (i + 1) (by omega) kk hs
    refine Ev.step (fun k => by rw [quota_Allowance.l1]) (ev_pos (by omega) (ev_pos (by omega) (ev_pos (by omega) ?_)))
    rw [w64 (x := (i : Int) + 1) (by omega) (by omega)]
    rw [atN_succ] at ih
    by_cases c1 : Rl l i = rank
    · rw [if_pos c1, List.map_append, List.map_append] at ih
      refine ev_pos c1 (ev_pos (by simp; omega) ?_)
      have e : quota_excess.f (rd_T23 l i).f0 (rd_T23 l i).f1 (rd_T23 l i).f2 (rd_T23 l i).f3 (rd_T23 l i).f4 (rd_T23 l i).f5 = some (exc (cl l i).f0 (cl l i).f1 (cl l i).f4 (cl l i).f5) := exc_c hc
      rw [e]
      refine ev_some (ev_pos (by simp; omega) ?_)
      have e2 : mx 0 (wrap64 ((rd_T23 l i).f2 - exc (cl l i).f0 (cl l i).f1 (cl l i).f4 (cl l i).f5)) = Wl l i := wish_w hc
      rw [e2]
      exact ih
    · rw [if_neg c1] at ih
      exact ev_neg c1 ih
theorem ev_scat {l : List S23} {rank : Int} {q : List Int} (h0 : 0 ≤ rank) (h9 : rank ≤ 9) : ∀ (I : List Nat) (s : List Int) (preI : List Nat) (preS o : List Int) (f : Int), I.length = s.length → preI.length = preS.length → (preI.length + I.length ≤ 20) → (∀ p ∈ I, p < o.length) → (∀ p ∈ I, p ≤ 20) →
    (∀ v ∈ s, 0 ≤ v) → total s ≤ f → f ≤ 9223372036854775807 → Ev (fun k => quota_Allowance.l0 k l (f - total s) (scat I s o) (rank + 1)) q →
    Ev (fun k => quota_Allowance.l2 k l f o ((preI ++ I).map (fun j : Nat => (j : Int))) rank (preS ++ s) ((preS ++ s).length : Int) (preS.length : Int)) q
  | [], [], preI, preS, o, f, hl, hp, h20, hi, hi2, hv, ht, hf, kk => by
    refine Ev.step (fun k => by rw [quota_Allowance.l2]) (ev_neg (by simp) ?_)
    rw [w64 (x := rank + 1) (by omega) (by omega)]
    simpa [total, scat] using kk
  | [], _ :: _, _, _, _, _, hl, _, _, _, _, _, _, _, _ => by simp at hl
  | _ :: _, [], _, _, _, _, hl, _, _, _, _, _, _, _, _ => by simp at hl
  | p :: I, v :: s, preI, preS, o, f, hl, hp, h20, hi, hi2, hv, ht, hf, kk => by
    simp only [List.length_cons] at hl h20
    have hpo := hi p (List.mem_cons_self ..)
    have hv0 := hv v (List.mem_cons_self ..)
    have hvs : ∀ x ∈ s, 0 ≤ x := fun x hx => hv x (List.mem_cons_of_mem _ hx)
    have hts : 0 ≤ total s := by
      rw [total_sumF]
      refine sumF_nonneg _ (fun i hi => ?_)
      show 0 ≤ s.getD i 0
      rw [List.getD_eq_getElem?_getD, List.getElem?_eq_getElem hi]
      exact hvs _ (List.getElem_mem _)
    simp only [total] at ht kk
    simp only [scat] at kk
    have e1 : rd (preS ++ v :: s) (preS.length : Int) = v := rd_mid (by omega) (by simp)
    have e2 : rd ((preI ++ p :: I).map (fun j : Nat => (j : Int))) (preS.length : Int) = (p : Int) := by
      rw [List.map_append, List.map_cons]
      exact rd_mid (by omega) (by simp [hp])
    have ih := ev_scat h0 h9 I s (preI ++ [p]) (preS ++ [v]) (o.set p v) (f - v) (by omega) (by simp [hp]) (by simp; omega) (fun q hq => by rw [List.length_set]; exact hi q (List.mem_cons_of_mem _ hq)) (fun q hq => hi2 q (List.mem_cons_of_mem _ hq)) hvs (by omega) (by omega) (by
      rw [show f - v - total s = f - (v + total s) from by omega]; exact kk)
    refine Ev.step (fun k => by rw [quota_Allowance.l2]) (ev_pos (by simp; omega) (ev_pos (by omega) (ev_pos (by simp; omega) (ev_pos (by simp; omega) ?_))))
    rw [e1, e2, w64 (x := f - v) (by omega) (by omega), w64 (x := (preS.length : Int) + 1) (by omega) (by omega)]
    refine ev_pos (by omega) (ev_pos (by omega) ?_)
    have e3 : ((p : Int)).toNat = p := by omega
    rw [e3]
    simpa [List.append_assoc] using ih
end Go.Proofs.Ytdapoclangoobaa.Q
