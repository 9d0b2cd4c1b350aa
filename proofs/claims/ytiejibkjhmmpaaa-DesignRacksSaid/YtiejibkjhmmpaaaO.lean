/- Arguments that are structs of integers: the value, cell by cell. -/
import Derived.Test.YtiejibkjhmmpaaaRows
import Derived.WalkKit
import Derived.ProofKit
import Derived.OpenShut
import Derived.ChangeOld
import Derived.Below
import Derived.ChangeSame
import Derived.WideShapes
namespace Go.Proofs.Ytiejibkjhmmpaaa.O
open Go.ChangeShapes Go.WideShapes Go.ChangeAt Go.RowKit
section
variable {H : Type} {enc : TypeId × Value → H} {P : Program} {w : World} {base : Nat} {spare : Nat → Bool} {held : Bool}
theorem field_at {t : TypeId} {fs : Array Field} {fuel : Nat} {cs : List Value} {x : DataW H × List MemPlace} (hs : P.underlying t = some (.struct fs)) (h : DataW.trod enc P w base spare held fuel t cs = some x) (j : Nat) (f : Field) (hf : fs[j]? = some f) :
    ∃ (n : Nat) (y : DataW H × List MemPlace), DataW.trod enc P w base spare held n f.type ((cs.drop f.offset).take (P.cellsOf f.type)) = some y := by
  obtain ⟨xs, n, _, _, _, hl, hg⟩ := DataW.trod_struct hs h
  have hj : j < xs.length := by have := (Array.getElem?_eq_some_iff.1 hf).1; omega
  exact ⟨n, xs[j], (hg j f hf).trans (List.getElem?_eq_getElem hj)⟩
theorem leaf_int {t : TypeId} {k : IntKind} {n o : Nat} {cs : List Value} {y : DataW H × List MemPlace} (ht : P.underlying t = some (.int k)) (h : DataW.trod enc P w base spare held n t ((cs.drop o).take 1) = some y) :
    ∃ i, cs[o]? = some (.int k i) ∧ (Lit.int k i).wf = true := by
  obtain ⟨i, e, _, hw⟩ := DataW.trod_int ht h
  refine ⟨i, ?_, hw⟩
  have : ((cs.drop o).take 1)[0]? = some (.int k i) := by rw [e]; rfl
  simpa [List.getElem?_take, List.getElem?_drop] using this
/-- The integer field j of a struct, at offset o. -/
theorem int_field {t : TypeId} {fs : Array Field} {fuel : Nat} {cs : List Value} {x : DataW H × List MemPlace} (hs : P.underlying t = some (.struct fs)) (h : DataW.trod enc P w base spare held fuel t cs = some x) (j o : Nat) (f : Field) (hf : fs[j]? = some f)
    {k : IntKind} (ho : f.offset = o) (ht : P.underlying f.type = some (.int k)) (hc : P.cellsOf f.type = 1) : ∃ i, cs[o]? = some (.int k i) ∧ (Lit.int k i).wf = true := by
  obtain ⟨n, y, hy⟩ := field_at hs h j f hf
  rw [hc, ho] at hy
  exact leaf_int ht hy
end
theorem one3 : Try.prog.cellsOf 3 = 1 := by kernel_rfl
theorem six23 : Try.prog.cellsOf 23 = 6 := by kernel_rfl
/-- A configuration. -/
theorem open_cfg {H : Type} {enc : TypeId × Value → H} {w : World} {base : Nat} {spare : Nat → Bool} {held : Bool} {r : Reach} {b0 : Nat} {v : Value} {d : DataW H} {p : List MemPlace}
    (hv : Value.okWide Try.prog w r b0 23 v) (h : DataW.Trod enc Try.prog w base spare held 23 v d p) :
    ∃ D R N S L I : Int, v = .agg #[.int .i64 D, .int .i64 R, .int .i64 N, .int .i64 S, .int .i64 L, .int .i64 I] ∧
      (Lit.int .i64 D).wf = true ∧ (Lit.int .i64 R).wf = true ∧ (Lit.int .i64 N).wf = true ∧ (Lit.int .i64 S).wf = true ∧ (Lit.int .i64 L).wf = true ∧ (Lit.int .i64 I).wf = true := by
  obtain ⟨cs, rfl, hsz⟩ := okWide_struct Try.underlying23 hv
  obtain ⟨l⟩ := cs
  obtain ⟨fuel, hf⟩ := h
  have hl : l.length = 6 := hsz.trans six23
  obtain ⟨i0, e0, w0⟩ := int_field Try.underlying23 hf 0 0 _ rfl rfl Try.underlying3 one3
  obtain ⟨i1, e1, w1⟩ := int_field Try.underlying23 hf 1 1 _ rfl rfl Try.underlying3 one3
  obtain ⟨i2, e2, w2⟩ := int_field Try.underlying23 hf 2 2 _ rfl rfl Try.underlying3 one3
  obtain ⟨i3, e3, w3⟩ := int_field Try.underlying23 hf 3 3 _ rfl rfl Try.underlying3 one3
  obtain ⟨i4, e4, w4⟩ := int_field Try.underlying23 hf 4 4 _ rfl rfl Try.underlying3 one3
  obtain ⟨i5, e5, w5⟩ := int_field Try.underlying23 hf 5 5 _ rfl rfl Try.underlying3 one3
  refine ⟨i0, i1, i2, i3, i4, i5, ?_, w0, w1, w2, w3, w4, w5⟩
  match l, hl with
  | [c0, c1, c2, c3, c4, c5], _ =>
    simp [Value.cells] at e0 e1 e2 e3 e4 e5
    rw [e0, e1, e2, e3, e4, e5]
theorem one5 : Try.prog.cellsOf 5 = 1 := by kernel_rfl
theorem four41 : Try.prog.cellsOf 41 = 4 := by kernel_rfl
/-- The arguments of LayoutDeclusters. -/
theorem open_dec {H : Type} {enc : TypeId × Value → H} {w : World} {base : Nat} {spare : Nat → Bool} {held : Bool} {r : Reach} {b0 : Nat} {v : Value} {d : DataW H} {p : List MemPlace}
    (hv : Value.okWide Try.prog w r b0 41 v) (h : DataW.Trod enc Try.prog w base spare held 41 v d p) :
    ∃ a b c e : Int, v = .agg #[.int .u8 a, .int .u8 b, .int .u8 c, .int .u8 e] ∧ (Lit.int .u8 a).wf = true ∧ (Lit.int .u8 b).wf = true ∧ (Lit.int .u8 c).wf = true ∧ (Lit.int .u8 e).wf = true := by
  obtain ⟨cs, rfl, hsz⟩ := okWide_struct Try.underlying41 hv
  obtain ⟨l⟩ := cs
  obtain ⟨fuel, hf⟩ := h
  have hl : l.length = 4 := hsz.trans four41
  obtain ⟨i0, e0, w0⟩ := int_field Try.underlying41 hf 0 0 _ rfl rfl Try.underlying5 one5
  obtain ⟨i1, e1, w1⟩ := int_field Try.underlying41 hf 1 1 _ rfl rfl Try.underlying5 one5
  obtain ⟨i2, e2, w2⟩ := int_field Try.underlying41 hf 2 2 _ rfl rfl Try.underlying5 one5
  obtain ⟨i3, e3, w3⟩ := int_field Try.underlying41 hf 3 3 _ rfl rfl Try.underlying5 one5
  refine ⟨i0, i1, i2, i3, ?_, w0, w1, w2, w3⟩
  match l, hl with
  | [c0, c1, c2, c3], _ =>
    simp [Value.cells] at e0 e1 e2 e3
    rw [e0, e1, e2, e3]
theorem three45 : Try.prog.cellsOf 45 = 3 := by kernel_rfl
theorem two43 : Try.prog.cellsOf 43 = 2 := by kernel_rfl
theorem twelve57 : Try.prog.cellsOf 57 = 12 := by kernel_rfl
section
variable {H : Type} {enc : TypeId × Value → H} {P : Program} {w : World} {base : Nat} {spare : Nat → Bool} {held : Bool}
/-- The struct field j of a struct: its cells. -/
theorem part_field {t : TypeId} {fs : Array Field} {fuel : Nat} {cs : List Value} {x : DataW H × List MemPlace} (hs : P.underlying t = some (.struct fs)) (h : DataW.trod enc P w base spare held fuel t cs = some x) (j o s : Nat) (ft : TypeId) (f : Field) (hf : fs[j]? = some f)
    (ho : f.offset = o) (ht : f.type = ft) (hc : P.cellsOf ft = s) : ∃ (n : Nat) (y : DataW H × List MemPlace), DataW.trod enc P w base spare held n ft ((cs.drop o).take s) = some y := by
  obtain ⟨n, y, hy⟩ := field_at hs h j f hf
  rw [ht, hc, ho] at hy
  exact ⟨n, y, hy⟩
/-- What a part of a list holds, the list holds. -/
theorem part_at {cs : List Value} {a n o : Nat} {v : Value} (h : ((cs.drop a).take n)[o]? = some v) : cs[a + o]? = some v := by
  rw [List.getElem?_take] at h
  split at h
  · simpa [List.getElem?_drop] using h
  · cases h
end
/-- The arguments of LayoutMatchesSpec. -/
theorem open_spec {H : Type} {enc : TypeId × Value → H} {w : World} {base : Nat} {spare : Nat → Bool} {held : Bool} {r : Reach} {b0 : Nat} {v : Value} {d : DataW H} {p : List MemPlace}
    (hv : Value.okWide Try.prog w r b0 57 v) (h : DataW.Trod enc Try.prog w base spare held 57 v d p) :
    ∃ D R N S L I wd row g u disk rows : Int, v = .agg #[.int .i64 D, .int .i64 R, .int .i64 N, .int .i64 S, .int .i64 L, .int .i64 I, .int .i64 wd, .int .i64 row, .int .i64 g, .int .i64 u, .int .i64 disk, .int .i64 rows] ∧
      (Lit.int .i64 wd).wf = true ∧ (Lit.int .i64 row).wf = true ∧ (Lit.int .i64 g).wf = true ∧ (Lit.int .i64 u).wf = true ∧ (Lit.int .i64 disk).wf = true ∧ (Lit.int .i64 rows).wf = true := by
  obtain ⟨cs, rfl, hsz⟩ := okWide_struct Try.underlying57 hv
  obtain ⟨l⟩ := cs
  obtain ⟨fuel, hf⟩ := h
  have hl : l.length = 12 := hsz.trans twelve57
  obtain ⟨n0, y0, g0⟩ := part_field Try.underlying57 hf 0 0 6 23 _ rfl rfl rfl six23
  obtain ⟨i0, e0, w0⟩ := int_field Try.underlying23 g0 0 0 _ rfl rfl Try.underlying3 one3
  obtain ⟨i1, e1, w1⟩ := int_field Try.underlying23 g0 1 1 _ rfl rfl Try.underlying3 one3
  obtain ⟨i2, e2, w2⟩ := int_field Try.underlying23 g0 2 2 _ rfl rfl Try.underlying3 one3
  obtain ⟨i3, e3, w3⟩ := int_field Try.underlying23 g0 3 3 _ rfl rfl Try.underlying3 one3
  obtain ⟨i4, e4, w4⟩ := int_field Try.underlying23 g0 4 4 _ rfl rfl Try.underlying3 one3
  obtain ⟨i5, e5, w5⟩ := int_field Try.underlying23 g0 5 5 _ rfl rfl Try.underlying3 one3
  obtain ⟨i6, e6, w6⟩ := int_field Try.underlying57 hf 1 6 _ rfl rfl Try.underlying3 one3
  obtain ⟨n2, y2, g2⟩ := part_field Try.underlying57 hf 2 7 3 45 _ rfl rfl rfl three45
  obtain ⟨n3, y3, g3⟩ := part_field Try.underlying45 g2 0 0 2 43 _ rfl rfl rfl two43
  obtain ⟨i7, e7, w7⟩ := int_field Try.underlying43 g3 0 0 _ rfl rfl Try.underlying3 one3
  obtain ⟨i8, e8, w8⟩ := int_field Try.underlying43 g3 1 1 _ rfl rfl Try.underlying3 one3
  obtain ⟨i9, e9, w9⟩ := int_field Try.underlying45 g2 1 2 _ rfl rfl Try.underlying3 one3
  obtain ⟨i10, e10, w10⟩ := int_field Try.underlying57 hf 3 10 _ rfl rfl Try.underlying3 one3
  obtain ⟨i11, e11, w11⟩ := int_field Try.underlying57 hf 4 11 _ rfl rfl Try.underlying3 one3
  refine ⟨i0, i1, i2, i3, i4, i5, i6, i7, i8, i9, i10, i11, ?_, w6, w7, w8, w9, w10, w11⟩
  have e0 := part_at e0
  have e1 := part_at e1
  have e2 := part_at e2
  have e3 := part_at e3
  have e4 := part_at e4
  have e5 := part_at e5
  have e7 := part_at (part_at e7)
  have e8 := part_at (part_at e8)
  have e9 := part_at e9
  match l, hl with
  | [c0, c1, c2, c3, c4, c5, c6, c7, c8, c9, c10, c11], _ =>
    simp [Value.cells] at e0 e1 e2 e3 e4 e5 e6 e7 e8 e9 e10 e11
    rw [e0, e1, e2, e3, e4, e5, e6, e7, e8, e9, e10, e11]
end Go.Proofs.Ytiejibkjhmmpaaa.O
