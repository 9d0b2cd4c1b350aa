/- Arrays of a law's own in memory, told as rows of their own (their blocks bear the array's type): how they are made, read whole and indexed. -/
import Derived.Test.YtiejibkjhmmpaaaQ0
import Derived.Deep.MidRow
import Derived.Test.YtiejibkjhmmpaaaS1
import Derived.Test.YtiejibkjhmmpaaaQV
namespace Go.Proofs.Ytiejibkjhmmpaaa.Q
open Go.RowKit Go.Proofs.YtiejibkjhmmpaaaW.PrintWords
set_option linter.unusedVariables false
section
variable {α : Type} {enc : α → Value} {h1 : ∀ x, (enc x).oneCell' = true}
/-- A variable of an array type, just made, is a row of its own. -/
theorem arr_made {w1 : World} {base g n : Nat} {t : TypeId} {z : α} {ok : Nat → Prop} (hb : w1.heap[g]? = some (.cells (List.replicate n (enc z)).toArray t (0, 0))) (hg : base ≤ g) (hok : ok g) (hn : n ≤ maxLen) :
    (Kd.scalar enc h1).R t w1 base ok (.slice (some ⟨g, 0, none⟩) n n) (List.replicate n z) := by
  refine Kd.R_of_own ?_ (fun k hk => ?_)
  · refine ⟨by simp [encs], .inr ⟨g, n, _, by simp, hg, hb, by simp, hn, by simp, by simp [encs]⟩⟩
  · have : g = k := by simpa [Value.ownBlock] using hk
    rw [← this]; exact hok
end
theorem run_alloc_ {P : Program} (W : World) (t : TypeId) {cs : Array Value} (hi : (P.info? t).bind (fun i => i.zero.map Value.cells) = some cs) :
    (Instr.alloc t true (.tuple #[])).run P W = .ok (.pointer (some ⟨W.heap.size, 0, none⟩)) (W.alloc (.cells cs t (0, 0))) := by
  obtain ⟨i0, h0, hz⟩ := Option.bind_eq_some_iff.1 hi
  obtain ⟨z, hz1, rfl⟩ := Option.map_eq_some_iff.1 hz
  clear hz hi
  simp [Instr.alloc, zeroValue, typeInfo, newVar, newRow, h0, hz1]
section
variable {P : Program} {ops : Array Oper} {rest : List Oper} {o : Oper} {a : Act} {Q : Exit → Act → World → Prop}
theorem alloc_event {W : World} (hgd : o.guard = none) {N : Tmp} (hd : o.dst = some N) {t : TypeId} (ho : o.op = .alloc t) {cs : Array Value} (hi : (P.info? t).bind (fun i => i.zero.map Value.cells) = some cs)
    (h : ∀ g, g = W.heap.size → ∀ w1, w1.heap[g]? = some (.cells cs t (0, 0)) → Below W.heap.size W w1 → wpList P ops Q rest (a.put o.dst (.pointer (some ⟨g, 0, none⟩))) w1) : wpList P ops Q (o :: rest) a W :=
  box_event hgd hd (by simp [execOp, ho, run_alloc_ W t hi]) h
end
theorem zero36 : (Try.prog.info? 36).bind (fun i => i.zero.map Value.cells) = some (List.replicate 8 (Value.int .i64 0)).toArray := by kernel_rfl
theorem zero39 : (Try.prog.info? 39).bind (fun i => i.zero.map Value.cells) = some (List.replicate 4096 (Value.bool false)).toArray := by kernel_rfl
theorem wrap64_mid {x : Int} (h0 : -9223372036854775808 ≤ x) (h1 : x ≤ 9223372036854775807) : wrap64 x = x := w64 h0 h1
theorem Kd.R_lo {α : Type} {d : Kd α} {e base g n c : Nat} {W : World} {ok : Nat → Prop} {xs : List α} (h : d.R e W base ok (.slice (some ⟨g, 0, none⟩) n c) xs) : base ≤ g := by
  obtain ⟨_, inner, ho, _⟩ := h
  exact own_base ho g rfl
/-- What a valid configuration's number of disks is. -/
theorem valid_le {k : Nat} {D R N S L I : Int} (h : solventlaw13_valid.f k D R N S L I = some true) : okB D R N S L I = true := by
  have e1 : Ev (fun k => solventlaw13_valid.f k D R N S L I) true := Ev.of (solventlaw13_valid.mono D R N S L I) h
  have e2 : Ev (fun k => solventlaw13_valid.f k D R N S L I) (okB D R N S L I) := by
    unfold solventlaw13_valid.f
    refine Ev.bind (ev_rcheck D R N S L I) (ev_eq (Ev.now _) ?_)
    cases okB D R N S L I <;> rfl
  obtain ⟨K1, h1⟩ := e1
  obtain ⟨K2, h2⟩ := e2
  have a := h1 (max K1 K2) (Nat.le_max_left _ _)
  have b := h2 (max K1 K2) (Nat.le_max_right _ _)
  exact Option.some.inj (b.symm.trans a)
theorem valid_disks {k : Nat} {D R N S L I : Int} (h : solventlaw13_valid.f k D R N S L I = some true) : D ≤ 64 := by
  have := okB_iff.mp (valid_le h)
  omega
end Go.Proofs.Ytiejibkjhmmpaaa.Q
