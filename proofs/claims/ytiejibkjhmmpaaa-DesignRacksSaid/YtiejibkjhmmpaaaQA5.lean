/- Arrays of a law's own in memory, told as rows of their own (their blocks bear the array's type): how they are made, read whole and indexed. -/
import Derived.Test.YtiejibkjhmmpaaaQ0
import Derived.Deep.MidRow
import Derived.Test.YtiejibkjhmmpaaaS1
import Derived.Test.YtiejibkjhmmpaaaQV
namespace Go.Proofs.Ytiejibkjhmmpaaa.Q
open Go.RowKit Go.Proofs.YtiejibkjhmmpaaaW.PrintWords
set_option linter.unusedVariables false
section
variable {α : Type} {enc : α → Value} {h1 : ∀ x, (enc x).oneCell' = true}
/-- A variable of an array type, just made, is a row of its own. -/
theorem arr_made {w1 : World} {base g n : Nat} {t : TypeId} {z : α} {ok : Nat → Prop} (hb : w1.heap[g]? = some (.cells (List.replicate n (enc z)).toArray t (0, 0))) (hg : base ≤ g) (hok : ok g) (hn : n ≤ maxLen) :
    (Kd.scalar enc h1).R t w1 base ok (.slice (some ⟨g, 0, none⟩) n n) (List.replicate n z) := by
  refine Kd.R_of_own ?_ (fun k hk => ?_)
  · refine ⟨by simp [encs], .inr ⟨g, n, _, by simp, hg, hb, by simp, hn, by simp, by simp [encs]⟩⟩
  · have : g = k := by simpa [Value.ownBlock] using hk
    rw [← this]; exact hok
end
theorem run_alloc_ {P : Program} (W : World) (t : TypeId) {cs : Array Value} (hi : (P.info? t).bind (fun i => i.zero.map Value.cells) = some cs) :
    (Instr.alloc t true (.tuple #[])).run P W = .ok (.pointer (some ⟨W.heap.size, 0, none⟩)) (W.alloc (.cells cs t (0, 0))) := by
  obtain ⟨i0, h0, hz⟩ := Option.bind_eq_some_iff.1 hi
  obtain ⟨z, hz1, rfl⟩ := Option.map_eq_some_iff.1 hz
  clear hz hi
  simp [Instr.alloc, zeroValue, typeInfo, newVar, newRow, h0, hz1]
section
variable {P : Program} {ops : Array Oper} {rest : List Oper} {o : Oper} {a : Act} {Q : Exit → Act → World → Prop}
theorem alloc_event {W : World} (hgd : o.guard = none) {N : Tmp} (hd : o.dst = some N) {t : TypeId} (ho : o.op = .alloc t) {cs : Array Value} (hi : (P.info? t).bind (fun i => i.zero.map Value.cells) = some cs)
    (h : ∀ g, g = W.heap.size → ∀ w1, w1.heap[g]? = some (.cells cs t (0, 0)) → Below W.heap.size W w1 → wpList P ops Q rest (a.put o.dst (.pointer (some ⟨g, 0, none⟩))) w1) : wpList P ops Q (o :: rest) a W :=
  box_event hgd hd (by simp [execOp, ho, run_alloc_ W t hi]) h
end
theorem arr_range {W : World} {α : Type} {enc : α → Value} {h1 : ∀ x, (enc x).oneCell' = true} {base g n c : Nat} {t : TypeId} {xs : List α} {ok : Nat → Prop} (h : (Kd.scalar enc h1).R t W base ok (.slice (some ⟨g, 0, none⟩) n c) xs) :
    W.rangeAt g 0 (encs enc xs) := by
  intro j v hv
  unfold encs at hv
  rw [List.getElem?_map] at hv
  obtain ⟨x, hx, rfl⟩ := Option.map_eq_some_iff.1 hv
  have hj : j < xs.length := (List.getElem?_eq_some_iff.1 hx).1
  have hn := (Kd.R_reads' h).1
  have e := (Kd.R_celln x h (j : Int) (by omega) (by omega)).1
  have ex : rdOf x xs (j : Int) = x := by
    unfold rdOf
    rw [show ((j : Int)).toNat = j from rfl, List.getD_eq_getElem?_getD, hx]; rfl
  rw [ex, show ((j : Int)).toNat = j from rfl] at e
  rw [Nat.zero_add]
  exact e
theorem arr_index (w : World) (xs : List Int) (hl : xs.length = 8) (i : Int) (h0 : 0 ≤ i) (h8 : i < 8) : (Instr.index 36 (.agg (encs (Value.int .i64) xs).toArray) (.int .i64 i)).run Try.prog w = .ok (.int .i64 (rd xs i)) w := by
  obtain ⟨k, rfl⟩ := Int.eq_ofNat_of_zero_le h0
  have hk : k < xs.length := by omega
  have e : (encs (Value.int .i64) xs)[k]? = some (.int .i64 (rd xs (k : Int))) := by
    unfold encs rd
    rw [show ((k : Int)).toNat = k from rfl, List.getD_eq_getElem?_getD]
    simp [hk]
  have h8' : k < 8 := by omega
  simp [Instr.index, run_underlying Try.underlying36, run_underlying Try.underlying3, asIntOf, h8', part, isAgg, e]
/-- The array is read as a whole. -/
theorem arr_load {ops : Array Oper} {rest : List Oper} {o : Oper} {a : Act} {Q : Exit → Act → World → Prop} {W : World} (hgd : o.guard = none) {x : Operand} (ho : o.op = .load 36 x) {base g : Nat} {xs : List Int} {ok : Nat → Prop} (hx : a.eval x = .pointer (some ⟨g, 0, none⟩))
    (HO : (Kd.int .i64).R 36 W base ok (.slice (some ⟨g, 0, none⟩) 8 8) xs)
    (h : ∀ ar : Array Value, (∀ i : Int, 0 ≤ i → i < 8 → ∀ w, (Instr.index 36 (.agg ar) (.int .i64 i)).run Try.prog w = .ok (.int .i64 (rd xs i)) w) → wpList Try.prog ops Q rest (a.put o.dst (.agg ar)) W) : wpList Try.prog ops Q (o :: rest) a W := by
  have hl := (Kd.R_reads' HO).1
  refine wpList_load_mid hgd 36 x ho g 0 hx (encs (Value.int .i64) xs) _ (arr_range HO) Try.underlying36 rfl ?_ (h _ (fun i h0 h8 w => arr_index w xs hl.symm i h0 h8))
  unfold encs
  rw [List.length_map, ← hl]
  kernel_rfl
theorem zero36 : (Try.prog.info? 36).bind (fun i => i.zero.map Value.cells) = some (List.replicate 8 (Value.int .i64 0)).toArray := by kernel_rfl
theorem zero39 : (Try.prog.info? 39).bind (fun i => i.zero.map Value.cells) = some (List.replicate 4096 (Value.bool false)).toArray := by kernel_rfl
theorem wrap64_mid {x : Int} (h0 : -9223372036854775808 ≤ x) (h1 : x ≤ 9223372036854775807) : wrap64 x = x := w64 h0 h1
theorem Kd.R_lo {α : Type} {d : Kd α} {e base g n c : Nat} {W : World} {ok : Nat → Prop} {xs : List α} (h : d.R e W base ok (.slice (some ⟨g, 0, none⟩) n c) xs) : base ≤ g := by
  obtain ⟨_, inner, ho, _⟩ := h
  exact own_base ho g rfl
/-- What a valid configuration's number of disks is. -/
theorem valid_le {k : Nat} {D R N S L I : Int} (h : solventlaw13_valid.f k D R N S L I = some true) : okB D R N S L I = true := by
  have e1 : Ev (fun k => solventlaw13_valid.f k D R N S L I) true := Ev.of (solventlaw13_valid.mono D R N S L I) h
  have e2 : Ev (fun k => solventlaw13_valid.f k D R N S L I) (okB D R N S L I) := by
    unfold solventlaw13_valid.f
    refine Ev.bind (ev_rcheck D R N S L I) (ev_eq (Ev.now _) ?_)
    cases okB D R N S L I <;> rfl
  obtain ⟨K1, h1⟩ := e1
  obtain ⟨K2, h2⟩ := e2
  have a := h1 (max K1 K2) (Nat.le_max_left _ _)
  have b := h2 (max K1 K2) (Nat.le_max_right _ _)
  exact Option.some.inj (b.symm.trans a)
theorem valid_disks {k : Nat} {D R N S L I : Int} (h : solventlaw13_valid.f k D R N S L I = some true) : D ≤ 64 := by
  have := okB_iff.mp (valid_le h)
  omega
end Go.Proofs.Ytiejibkjhmmpaaa.Q
