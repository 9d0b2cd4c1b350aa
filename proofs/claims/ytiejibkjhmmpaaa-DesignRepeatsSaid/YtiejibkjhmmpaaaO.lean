/- Arguments that are structs of integers: the value, cell by cell. -/
import Derived.Test.YtiejibkjhmmpaaaRows
import Derived.WalkKit
import Derived.ProofKit
import Derived.OpenShut
import Derived.ChangeOld
import Derived.Below
import Derived.ChangeSame
import Derived.WideShapes
namespace Go.Proofs.Ytiejibkjhmmpaaa.O
open Go.ChangeShapes Go.WideShapes Go.ChangeAt Go.RowKit
section
variable {H : Type} {enc : TypeId × Value → H} {P : Program} {w : World} {base : Nat} {spare : Nat → Bool} {held : Bool}
theorem field_at {t : TypeId} {fs : Array Field} {fuel : Nat} {cs : List Value} {x : DataW H × List MemPlace} (hs : P.underlying t = some (.struct fs)) (h : DataW.trod enc P w base spare held fuel t cs = some x) (j : Nat) (f : Field) (hf : fs[j]? = some f) :
    ∃ (n : Nat) (y : DataW H × List MemPlace), DataW.trod enc P w base spare held n f.type ((cs.drop f.offset).take (P.cellsOf f.type)) = some y := by
  obtain ⟨xs, n, _, _, _, hl, hg⟩ := DataW.trod_struct hs h
  have hj : j < xs.length := by have := (Array.getElem?_eq_some_iff.1 hf).1; omega
  exact ⟨n, xs[j], (hg j f hf).trans (List.getElem?_eq_getElem hj)⟩
theorem leaf_int {t : TypeId} {k : IntKind} {n o : Nat} {cs : List Value} {y : DataW H × List MemPlace} (ht : P.underlying t = some (.int k)) (h : DataW.trod enc P w base spare held n t ((cs.drop o).take 1) = some y) :
    ∃ i, cs[o]? = some (.int k i) ∧ (Lit.int k i).wf = true := by
  obtain ⟨i, e, _, hw⟩ := DataW.trod_int ht h
  refine ⟨i, ?_, hw⟩
  have : ((cs.drop o).take 1)[0]? = some (.int k i) := by rw [e]; rfl
  simpa [List.getElem?_take, List.getElem?_drop] using this
/-- The integer field j of a struct, at offset o. -/
theorem int_field {t : TypeId} {fs : Array Field} {fuel : Nat} {cs : List Value} {x : DataW H × List MemPlace} (hs : P.underlying t = some (.struct fs)) (h : DataW.trod enc P w base spare held fuel t cs = some x) (j o : Nat) (f : Field) (hf : fs[j]? = some f)
    {k : IntKind} (ho : f.offset = o) (ht : P.underlying f.type = some (.int k)) (hc : P.cellsOf f.type = 1) : ∃ i, cs[o]? = some (.int k i) ∧ (Lit.int k i).wf = true := by
  obtain ⟨n, y, hy⟩ := field_at hs h j f hf
  rw [hc, ho] at hy
  exact leaf_int ht hy
end
theorem one3 : Try.prog.cellsOf 3 = 1 := by kernel_rfl
theorem six23 : Try.prog.cellsOf 23 = 6 := by kernel_rfl
/-- A configuration. -/
theorem open_cfg {H : Type} {enc : TypeId × Value → H} {w : World} {base : Nat} {spare : Nat → Bool} {held : Bool} {r : Reach} {b0 : Nat} {v : Value} {d : DataW H} {p : List MemPlace}
    (hv : Value.okWide Try.prog w r b0 23 v) (h : DataW.Trod enc Try.prog w base spare held 23 v d p) :
    ∃ D R N S L I : Int, v = .agg #[.int .i64 D, .int .i64 R, .int .i64 N, .int .i64 S, .int .i64 L, .int .i64 I] ∧
      (Lit.int .i64 D).wf = true ∧ (Lit.int .i64 R).wf = true ∧ (Lit.int .i64 N).wf = true ∧ (Lit.int .i64 S).wf = true ∧ (Lit.int .i64 L).wf = true ∧ (Lit.int .i64 I).wf = true := by
  obtain ⟨cs, rfl, hsz⟩ := okWide_struct Try.underlying23 hv
  obtain ⟨l⟩ := cs
  obtain ⟨fuel, hf⟩ := h
  have hl : l.length = 6 := hsz.trans six23
  obtain ⟨i0, e0, w0⟩ := int_field Try.underlying23 hf 0 0 _ rfl rfl Try.underlying3 one3
  obtain ⟨i1, e1, w1⟩ := int_field Try.underlying23 hf 1 1 _ rfl rfl Try.underlying3 one3
  obtain ⟨i2, e2, w2⟩ := int_field Try.underlying23 hf 2 2 _ rfl rfl Try.underlying3 one3
  obtain ⟨i3, e3, w3⟩ := int_field Try.underlying23 hf 3 3 _ rfl rfl Try.underlying3 one3
  obtain ⟨i4, e4, w4⟩ := int_field Try.underlying23 hf 4 4 _ rfl rfl Try.underlying3 one3
  obtain ⟨i5, e5, w5⟩ := int_field Try.underlying23 hf 5 5 _ rfl rfl Try.underlying3 one3
  refine ⟨i0, i1, i2, i3, i4, i5, ?_, w0, w1, w2, w3, w4, w5⟩
  match l, hl with
  | [c0, c1, c2, c3, c4, c5], _ =>
    simp [Value.cells] at e0 e1 e2 e3 e4 e5
    rw [e0, e1, e2, e3, e4, e5]
end Go.Proofs.Ytiejibkjhmmpaaa.O
