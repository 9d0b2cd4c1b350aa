/- DesignMatchesSpec, in plain words: the two sides reckon the same. -/
import Derived.Test.YtiejibkjhmmpaaaS2
import Derived.Test.YtiejibkjhmmpaaaQF3
namespace Go.Proofs.Ytiejibkjhmmpaaa.Q
open Go.RowKit Go.Proofs.YtiejibkjhmmpaaaW.PrintWords
set_option linter.unusedVariables false
theorem pure3 (D R N S L I row disk position : Int) (_ : (Lit.int .i64 D).wf = true) (_ : (Lit.int .i64 R).wf = true) (_ : (Lit.int .i64 N).wf = true) (_ : (Lit.int .i64 S).wf = true) (_ : (Lit.int .i64 L).wf = true) (_ : (Lit.int .i64 I).wf = true)
    (_ : (Lit.int .i64 row).wf = true) (_ : (Lit.int .i64 disk).wf = true) (_ : (Lit.int .i64 position).wf = true) : ∃ k, solventlaw13_DesignMatchesSpec.f k D R N S L I row disk position = some true := by
  refine Ev.rounds (r := true) ?_
  unfold solventlaw13_DesignMatchesSpec.f
  have hm : (if okB D R N S L I then mulL D R else []).length ≤ 1000 := by
    have := mulL_len D R
    split
    · omega
    · simp
  have ho : (if rowB D R N S L I row then orderL D R row else []).length ≤ 1000 := by
    have := @ordOf_len D R N S L I row
    unfold ordOf at this
    omega
  refine Ev.bind ev_sanity13 (ev_pos rfl ?_)
  refine Ev.bind (ev_check D R N S L I) (Ev.bind (ev_rcheck D R N S L I) (ev_pos rfl ?_))
  refine Ev.bind (ev_mul D R N S L I) (Ev.bind (ev_rmul D R N S L I) (Ev.bind (ev_refl _ hm) (ev_pos rfl ?_)))
  refine Ev.bind (ev_per D R N S L I) (Ev.bind (ev_rper D R N S L I) (ev_pos rfl ?_))
  refine Ev.bind (ev_order D R N S L I row) (Ev.bind (ev_rorder D R N S L I row) (Ev.bind (ev_refl _ ho) (ev_pos rfl ?_)))
  refine Ev.bind (ev_pos_design D R N S L I row disk) (Ev.bind (ev_pos_ref D R N S L I row disk) (ev_pos rfl ?_))
  exact Ev.bind (ev_rack D R N S L I row position) (Ev.bind (ev_rrack D R N S L I row position) (ev_eq (Ev.now _) (by simp)))
end Go.Proofs.Ytiejibkjhmmpaaa.Q
