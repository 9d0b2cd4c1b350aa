/- Arguments that are structs of integers: the value, cell by cell. -/
import Derived.Test.YtdapoclangoobaaRows
import Derived.WalkKit
import Derived.ProofKit
import Derived.OpenShut
import Derived.ChangeOld
import Derived.Below
import Derived.ChangeSame
import Derived.WideShapes
import Derived.Deep.Slices
import Derived.Test.YtdapoclangoobaaQ0
namespace Go.Proofs.Ytdapoclangoobaa.O
open Go.ChangeShapes Go.WideShapes Go.ChangeAt Go.RowKit
section
variable {H : Type} {enc : TypeId × Value → H} {P : Program} {w : World} {base : Nat} {spare : Nat → Bool} {held : Bool}
theorem field_at {t : TypeId} {fs : Array Field} {fuel : Nat} {cs : List Value} {x : DataW H × List MemPlace} (hs : P.underlying t = some (.struct fs)) (h : DataW.trod enc P w base spare held fuel t cs = some x) (j : Nat) (f : Field) (hf : fs[j]? = some f) :
    ∃ (n : Nat) (y : DataW H × List MemPlace), DataW.trod enc P w base spare held n f.type ((cs.drop f.offset).take (P.cellsOf f.type)) = some y := by
  obtain ⟨xs, n, _, _, _, hl, hg⟩ := DataW.trod_struct hs h
  have hj : j < xs.length := by have := (Array.getElem?_eq_some_iff.1 hf).1; omega
  exact ⟨n, xs[j], (hg j f hf).trans (List.getElem?_eq_getElem hj)⟩
theorem leaf_int {t : TypeId} {k : IntKind} {n o : Nat} {cs : List Value} {y : DataW H × List MemPlace} (ht : P.underlying t = some (.int k)) (h : DataW.trod enc P w base spare held n t ((cs.drop o).take 1) = some y) :
    ∃ i, cs[o]? = some (.int k i) ∧ (Lit.int k i).wf = true := by
  obtain ⟨i, e, _, hw⟩ := DataW.trod_int ht h
  refine ⟨i, ?_, hw⟩
  have : ((cs.drop o).take 1)[0]? = some (.int k i) := by rw [e]; rfl
  simpa [List.getElem?_take, List.getElem?_drop] using this
/-- The integer field j of a struct, at offset o. -/
theorem int_field {t : TypeId} {fs : Array Field} {fuel : Nat} {cs : List Value} {x : DataW H × List MemPlace} (hs : P.underlying t = some (.struct fs)) (h : DataW.trod enc P w base spare held fuel t cs = some x) (j o : Nat) (f : Field) (hf : fs[j]? = some f)
    {k : IntKind} (ho : f.offset = o) (ht : P.underlying f.type = some (.int k)) (hc : P.cellsOf f.type = 1) : ∃ i, cs[o]? = some (.int k i) ∧ (Lit.int k i).wf = true := by
  obtain ⟨n, y, hy⟩ := field_at hs h j f hf
  rw [hc, ho] at hy
  exact leaf_int ht hy
end
theorem one3 : Try.prog.cellsOf 3 = 1 := by kernel_rfl
theorem six23 : Try.prog.cellsOf 23 = 6 := by kernel_rfl
section
variable {H : Type} {enc : TypeId × Value → H} {P : Program} {w : World} {base : Nat} {spare : Nat → Bool} {held : Bool}
/-- The struct field j of a struct: its cells. -/
theorem part_field {t : TypeId} {fs : Array Field} {fuel : Nat} {cs : List Value} {x : DataW H × List MemPlace} (hs : P.underlying t = some (.struct fs)) (h : DataW.trod enc P w base spare held fuel t cs = some x) (j o s : Nat) (ft : TypeId) (f : Field) (hf : fs[j]? = some f)
    (ho : f.offset = o) (ht : f.type = ft) (hc : P.cellsOf ft = s) : ∃ (n : Nat) (y : DataW H × List MemPlace), DataW.trod enc P w base spare held n ft ((cs.drop o).take s) = some y := by
  obtain ⟨n, y, hy⟩ := field_at hs h j f hf
  rw [ht, hc, ho] at hy
  exact ⟨n, y, hy⟩
/-- What a part of a list holds, the list holds. -/
theorem part_at {cs : List Value} {a n o : Nat} {v : Value} (h : ((cs.drop a).take n)[o]? = some v) : cs[a + o]? = some v := by
  rw [List.getElem?_take] at h
  split at h
  · simpa [List.getElem?_drop] using h
  · cases h
end
theorem nine25 : Try.prog.cellsOf 25 = 9 := by kernel_rfl
/-- A claim's cells. -/
theorem claim_cells {H : Type} {enc : TypeId × Value → H} {w : World} {base : Nat} {spare : Nat → Bool} {held : Bool} {fuel : Nat} {l : List Value} {x : DataW H × List MemPlace} (hf : DataW.trod enc Try.prog w base spare held fuel 23 l = some x) (hl : l.length = 6) :
    ∃ a b c d e f : Int, l = [.int .i64 a, .int .i64 b, .int .i64 c, .int .i64 d, .int .i64 e, .int .i64 f] := by
  obtain ⟨i0, e0, w0⟩ := int_field Try.underlying23 hf 0 0 _ rfl rfl Try.underlying3 one3
  obtain ⟨i1, e1, w1⟩ := int_field Try.underlying23 hf 1 1 _ rfl rfl Try.underlying3 one3
  obtain ⟨i2, e2, w2⟩ := int_field Try.underlying23 hf 2 2 _ rfl rfl Try.underlying3 one3
  obtain ⟨i3, e3, w3⟩ := int_field Try.underlying23 hf 3 3 _ rfl rfl Try.underlying3 one3
  obtain ⟨i4, e4, w4⟩ := int_field Try.underlying23 hf 4 4 _ rfl rfl Try.underlying3 one3
  obtain ⟨i5, e5, w5⟩ := int_field Try.underlying23 hf 5 5 _ rfl rfl Try.underlying3 one3
  refine ⟨i0, i1, i2, i3, i4, i5, ?_⟩
  match l, hl with
  | [c0, c1, c2, c3, c4, c5], _ =>
    simp at e0 e1 e2 e3 e4 e5
    rw [e0, e1, e2, e3, e4, e5]
/-- A claim, by value. -/
theorem open_claim {H : Type} {enc : TypeId × Value → H} {w : World} {base : Nat} {spare : Nat → Bool} {held : Bool} {r : Reach} {b0 : Nat} {v : Value} {d : DataW H} {p : List MemPlace}
    (hv : Value.okWide Try.prog w r b0 23 v) (h : DataW.Trod enc Try.prog w base spare held 23 v d p) :
    ∃ g s b k u n : Int, v = .agg #[.int .i64 g, .int .i64 s, .int .i64 b, .int .i64 k, .int .i64 u, .int .i64 n] := by
  obtain ⟨cs, rfl, hsz⟩ := okWide_struct Try.underlying23 hv
  obtain ⟨l⟩ := cs
  obtain ⟨fuel, hf⟩ := h
  obtain ⟨a, b, c, d, e, f, hl⟩ := claim_cells (l := l) (by simpa [Value.cells] using hf) (hsz.trans six23)
  exact ⟨a, b, c, d, e, f, by rw [hl]⟩
/-- The arguments of QuotaDecideMatchesSpec. -/
theorem open_in {H : Type} {enc : TypeId × Value → H} {w : World} {base : Nat} {spare : Nat → Bool} {held : Bool} {r : Reach} {b0 : Nat} {v : Value} {d : DataW H} {p : List MemPlace}
    (hv : Value.okWide Try.prog w r b0 25 v) (h : DataW.Trod enc Try.prog w base spare held 25 v d p) :
    ∃ g s b k u n x y z : Int, v = .agg #[.int .i64 g, .int .i64 s, .int .i64 b, .int .i64 k, .int .i64 u, .int .i64 n, .int .i64 x, .int .i64 y, .int .i64 z] := by
  obtain ⟨cs, rfl, hsz⟩ := okWide_struct Try.underlying25 hv
  obtain ⟨l⟩ := cs
  obtain ⟨fuel, hf⟩ := h
  have hl : l.length = 9 := hsz.trans nine25
  obtain ⟨n0, y0, g0⟩ := part_field Try.underlying25 hf 0 0 6 23 _ rfl rfl rfl six23
  obtain ⟨i0, e0, w0⟩ := int_field Try.underlying23 g0 0 0 _ rfl rfl Try.underlying3 one3
  obtain ⟨i1, e1, w1⟩ := int_field Try.underlying23 g0 1 1 _ rfl rfl Try.underlying3 one3
  obtain ⟨i2, e2, w2⟩ := int_field Try.underlying23 g0 2 2 _ rfl rfl Try.underlying3 one3
  obtain ⟨i3, e3, w3⟩ := int_field Try.underlying23 g0 3 3 _ rfl rfl Try.underlying3 one3
  obtain ⟨i4, e4, w4⟩ := int_field Try.underlying23 g0 4 4 _ rfl rfl Try.underlying3 one3
  obtain ⟨i5, e5, w5⟩ := int_field Try.underlying23 g0 5 5 _ rfl rfl Try.underlying3 one3
  obtain ⟨i6, e6, w6⟩ := int_field Try.underlying25 hf 1 6 _ rfl rfl Try.underlying3 one3
  obtain ⟨i7, e7, w7⟩ := int_field Try.underlying25 hf 2 7 _ rfl rfl Try.underlying3 one3
  obtain ⟨i8, e8, w8⟩ := int_field Try.underlying25 hf 3 8 _ rfl rfl Try.underlying3 one3
  have e0 := part_at e0
  have e1 := part_at e1
  have e2 := part_at e2
  have e3 := part_at e3
  have e4 := part_at e4
  have e5 := part_at e5
  refine ⟨i0, i1, i2, i3, i4, i5, i6, i7, i8, ?_⟩
  match l, hl with
  | [c0, c1, c2, c3, c4, c5, c6, c7, c8], _ =>
    simp [Value.cells] at e0 e1 e2 e3 e4 e5 e6 e7 e8
    rw [e0, e1, e2, e3, e4, e5, e6, e7, e8]
theorem rows_of {α : Type} {R : Nat → α → Prop} : ∀ n : Nat, (∀ i, i < n → ∃ x, R i x) → ∃ l : List α, l.length = n ∧ ∀ j x, l[j]? = some x → R j x
  | 0, _ => ⟨[], rfl, fun j x h => by simp at h⟩
  | n + 1, h => by
    obtain ⟨l, hl, hr⟩ := rows_of n (fun i hi => h i (by omega))
    obtain ⟨x, hx⟩ := h n (by omega)
    refine ⟨l ++ [x], by simp [hl], fun j y hj => ?_⟩
    by_cases hlt : j < n
    · rw [List.getElem?_append_left (by omega)] at hj; exact hr j y hj
    · have hj' := hj
      rw [List.getElem?_append_right (by omega)] at hj
      have h1 := (List.getElem?_eq_some_iff.1 hj').1
      rw [List.length_append, hl, List.length_singleton] at h1
      obtain rfl : j = n := by omega
      rw [hl, Nat.sub_self] at hj
      obtain rfl : x = y := by simpa using hj
      exact hx
/-- A list of claims. -/
theorem open_claims {H : Type} {enc : TypeId × Value → H} {w : World} {base : Nat} {spare : Nat → Bool} {held : Bool} {r : Reach} {b0 : Nat} {v : Value} {d : DataW H} {p : List MemPlace}
    (hv : Value.okWide Try.prog w r b0 35 v) (h : DataW.Trod enc Try.prog w base spare held 35 v d p) :
    ∃ (A : Option Addr) (c : Nat) (l : List Q.S23), v = .slice A l.length c ∧ YtdapoclangoobaaW.PrintWords.Kd.C Q.k23 w A l.length l ∧ l.length ≤ c := by
  obtain ⟨fuel, hf⟩ := h
  obtain ⟨a0, n0, c0, hv0⟩ := okWide_slice Try.underlying35 hv
  have hone : v.cells.toList = [v] := by rw [hv0]; rfl
  rw [hone] at hf
  rcases Go.Deep.open_slice Try.underlying35 hf with ⟨e, _⟩ | ⟨a, len, cap, m, n, D, Pl, e, _, hl, hm, hmm, _, hi⟩
  · obtain rfl : v = .slice none 0 0 := by simpa using e
    exact ⟨none, 0, [], rfl, ⟨rfl, by simp, fun h => by simp at h⟩, by simp⟩
  · obtain rfl : v = .slice (some a) len cap := by simpa using e
    have hle : len ≤ m := by rw [hmm]; split <;> omega
    obtain ⟨l, hll, hr⟩ := rows_of (α := Q.S23) (R := fun j x => ∃ c, c.length = 6 ∧ Q.k23.K w x c ∧ ∀ i u, c[i]? = some u → w.cell? (a.add (j * 6 + i)) = some u) len (fun i hi' => by
      obtain ⟨cs', hc, ht⟩ := hi i (by omega)
      rw [six23] at hc
      obtain ⟨_, hcl, hat⟩ := World.cells?_some hc
      obtain ⟨c0, c1, c2, c3, c4, c5, rfl⟩ := claim_cells ht hcl
      refine ⟨⟨c0, c1, c2, c3, c4, c5⟩, _, rfl, Q.k23_mk w _, fun j u hu => ?_⟩
      have hj : j < 6 := (List.getElem?_eq_some_iff.1 hu).1
      have := hat j hj
      rw [← Go.Deep.add_add, this]
      exact hu)
    refine ⟨some a, cap, l, by rw [hll], ⟨rfl, ?_, fun _ => ⟨a, rfl, hr⟩⟩, by omega⟩
    have : maxLen ≤ 9223372036854775807 := by decide
    omega
end Go.Proofs.Ytdapoclangoobaa.O
