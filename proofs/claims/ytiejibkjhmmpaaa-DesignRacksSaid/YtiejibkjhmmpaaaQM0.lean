/- What slices.DeleteFunc does to the multipliers' row (the shelf's contract, laid at this program), the closure's walk, and the row behind it as a row of the call's own. -/
import Derived.Test.YtiejibkjhmmpaaaQA
import Derived.Shelf.SlicesE.DeleteFunc
namespace Go.Proofs.Ytiejibkjhmmpaaa.Q
open Go.RowKit Go.Proofs.YtiejibkjhmmpaaaW.PrintWords Go.Proofs.YtiejibkjhmmpaaaW.PrintLast Go.Proofs.YtiejibkjhmmpaaaW.PrintMore Go.Shelf
set_option linter.unusedVariables false
set_option linter.unusedSimpArgs false
def laysDel_ren : Go.Shelf.Ren := ⟨fun | 10 => 56 | 6 => 59 | n => n, fun | 22 => 28 | 23 => 3 | 25 => 54 | 3 => 3 | 4 => 4 | 0 => 0 | n => n, fun | n => n⟩
theorem laysDel : Go.Proofs.SlLaysH.n10 Try.prog laysDel_ren := {
  mixed := by kernel_rfl
  f6 := ⟨Try.f59.name, by decide, Try.func59.trans (congrArg some (by kernel_rfl))⟩
  f10 := ⟨Try.f56.name, by decide, Try.func56.trans (congrArg some (by kernel_rfl))⟩
  t0 := Try.underlying0
  a0 := Try.isAgg0
  z0 := Try.sizeOf0
  v0 := Try.zeroValue0
  t3 := Try.underlying3
  a3 := Try.isAgg3
  z3 := Try.sizeOf3
  v3 := Try.zeroValue3
  t4 := Try.underlying4
  a4 := Try.isAgg4
  z4 := Try.sizeOf4
  v4 := Try.zeroValue4
  t22 := Try.underlying28
  a22 := Try.isAgg28
  z22 := Try.sizeOf28
  v22 := Try.zeroValue28
  a23 := Try.isAgg3
  z23 := Try.sizeOf3
  t25 := Try.underlying54
  a25 := Try.isAgg54
  z25 := Try.sizeOf54
  v25 := Try.zeroValue54 }

/-- The greatest common divisor as the program reckons it. -/
def cval (a b : Int) : Int := (design_common.f (b.toNat + 1) a b).getD 0
theorem common_some : ∀ (n : Nat) (a b : Int), b.toNat < n → ∃ g, design_common.l0 n a b = some g
  | 0, _, _, h => absurd h (Nat.not_lt_zero _)
  | n + 1, a, b, h => by
    simp only [design_common.l0]
    by_cases h0 : b > 0
    · rw [if_pos h0, if_neg (by omega)]
      refine common_some n b (Int.tmod a b) ?_
      have h1 : Int.tmod a b < b := Int.tmod_lt_of_pos a h0
      omega
    · rw [if_neg h0]; exact ⟨a, rfl⟩
theorem common_at (a b : Int) : design_common.f (b.toNat + 1) a b = some (cval a b) := by
  obtain ⟨g, hg⟩ := common_some (b.toNat + 1) a b (Nat.lt_succ_self _)
  unfold cval design_common.f
  rw [hg]; rfl
/-- Is a number struck from the multipliers? -/
def strikes (d x : Int) : Bool := decide (cval x d > 1)
/-- The multipliers that stay. -/
def keptOf (d : Int) (l : List Int) : List Int := l.filter fun x => !strikes d x
theorem gives57 (d x : Int) (B : Nat) (W : World) (hc : W.cell? ⟨B, 0, none⟩ = some (.int .i64 d)) :
    FnGives Try.prog 57 #[.pointer (some ⟨B, 0, none⟩)] #[.int .i64 x] (.bool (strikes d x)) W := by
  show Calls Try.prog 57 #[.int .i64 x, .pointer (some ⟨B, 0, none⟩)] W _
  have hcom := common_at x d
  have HC := Aside0.mk hcom
  clear hcom
  go_enter Try.func57, Try.ntmps57
  go_wp2_with (go_at_call 58; (with_reducible refine (design_common.calls (d.toNat + 1) x d (cval x d) _ HC.out).mono ?_); rintro e w' ⟨rfl, ⟨nd, rfl⟩⟩)
  go_ret
  exact ⟨rfl, _, rfl⟩
theorem pred57 (d : Int) (B : Nat) (w : World) (hB : B < w.heap.size) (hc : w.cell? ⟨B, 0, none⟩ = some (.int .i64 d)) :
    PredAt Try.prog 57 #[.pointer (some ⟨B, 0, none⟩)] (Value.int .i64) (strikes d) w :=
  fun W x hb => gives57 d x B W ((hb.cell (p := ⟨B, 0, none⟩) hB).trans hc)
theorem over57 (d : Int) (B blk off size : Nat) (w : World) (hB : B < w.heap.size) (hne : B ≠ blk) (hc : w.cell? ⟨B, 0, none⟩ = some (.int .i64 d)) :
    PredOver Try.prog 57 #[.pointer (some ⟨B, 0, none⟩)] (Value.int .i64) (strikes d) blk off size w :=
  fun n os dk x _ => gives57 d x B _ (by
    unfold sortWorld
    rw [Go.Sort.cell?_grow _ _ _ (by show B < (Go.Sort.putRow _ _ _ _ _).heap.size; rw [Go.Sort.size_putRow]; exact hB), Go.Sort.cell?_putRow_other _ _ blk off _ _ (Or.inl hne)]
    exact hc)
theorem getElem!_of_toArray (l : List Int) (j : Nat) (h : j < l.length) : l.toArray[j]! = l[j] := by
  rw [getElem!_pos l.toArray j (by simpa using h)]; simp
theorem holds_of_row {w : World} {base : Nat} {ok : Nat → Prop} {g cap : Nat} {l : List Int} (h : Kd.R (Kd.int .i64) 3 w base ok (.slice (some ⟨g, 0, none⟩) l.length cap) l) :
    Go.Sort.Holds (Value.int .i64) w g 0 l.toArray := by
  obtain ⟨_, inner, ho, hr⟩ := h
  intro j hj
  have hj' : j < l.length := by simpa using hj
  have hin : inner[j]? = some (.int .i64 l[j]) := by
    have h2 := hr.2 j l[j] (List.getElem?_eq_getElem hj')
    have h3 : (inner.drop (j * 1)).take 1 = [.int .i64 l[j]] := h2
    have h4 : ((inner.drop (j * 1)).take 1)[0]? = some (.int .i64 l[j]) := by rw [h3]; rfl
    simpa using h4
  rw [getElem!_of_toArray l j hj', Nat.zero_add]
  rcases ho.2 with ⟨h1, _⟩ | ⟨g', cap', cur, hv, hb, hh, hn, hcap, hs, ht⟩
  · cases h1
  · have hg : g' = g := by injection hv with h1 _ _; injection h1 with h1; injection h1 with h1; exact h1.symm
    subst hg
    have hcur : cur[j]? = some (.int .i64 l[j]) := by
      have : (cur.toList.take (l.length * 1))[j]? = some (.int .i64 l[j]) := by
        have e : cur.toList.take (l.length * 1) = inner := ht
        rw [e]; exact hin
      rw [List.getElem?_take] at this
      split at this
      · simpa using this
      · cases this
    exact ⟨(blk_cell hh j).trans hcur, blk_frozen hh j⟩
/-- The row behind DeleteFunc: the first cells hold what stayed. -/
theorem row_of_put {w : World} {base : Nat} {ok : Nat → Prop} {g cap q : Nat} {l r : List Int} (tail : List Int) (h : Kd.R (Kd.int .i64) 3 w base ok (.slice (some ⟨g, 0, none⟩) l.length cap) l) (hr : r.length ≤ l.length) (ht : (r ++ tail).length = l.length) :
    Kd.R (Kd.int .i64) 3 (Go.Sort.putRow (Value.int .i64) (Go.Sort.ahead w q) g 0 (r ++ tail).toArray) base ok (.slice (some ⟨g, 0, none⟩) r.length cap) r := by
  obtain ⟨h0, inner, ho, _⟩ := h
  refine ⟨fun k hk => h0 k (by simpa [Value.ownBlock] using hk), nums .i64 r, ⟨?_, ?_⟩, ?_⟩
  · show (nums .i64 r).length = r.length * 1
    rw [nums_length, Nat.mul_one]
  · rcases ho.2 with ⟨h1, _⟩ | ⟨g', cap', cur, hv, hb, hh, hn, hcap, hs, hin⟩
    · cases h1
    · have hg : g' = g ∧ cap' = cap := by injection hv with h1 h2 h3; injection h1 with h1; injection h1 with h1; exact ⟨h1.symm, h3.symm⟩
      obtain ⟨rfl, rfl⟩ := hg
      refine .inr ⟨g', cap', Go.Sort.putCells (Value.int .i64) 0 (r ++ tail).toArray cur, rfl, hb, ?_, by omega, hcap, ?_, ?_⟩
      · show (Go.Sort.mapBlock (Go.Sort.ahead w q) g' _).heap[g']? = _
        unfold Go.Sort.mapBlock
        rw [Array.getElem?_modify, if_pos rfl]
        have : (Go.Sort.ahead w q).heap[g']? = some (.cells cur 3 (0, 0)) := hh
        rw [this]; rfl
      · unfold Go.Sort.putCells
        rw [Array.size_mapIdx]; exact hs
      · have hcs : cur.size = cap' * 1 := hs
        show (Go.Sort.putCells (Value.int .i64) 0 (r ++ tail).toArray cur).toList.take (r.length * 1) = nums .i64 r
        apply List.ext_getElem?
        intro j
        rw [Nat.mul_one, List.getElem?_take]
        by_cases hj : j < r.length
        · rw [if_pos hj]
          have hjc : j < cur.size := by omega
          have hja : j < (r ++ tail).toArray.size := by simp; omega
          have e1 : (Go.Sort.putCells (Value.int .i64) 0 (r ++ tail).toArray cur).toList[j]? = some (.int .i64 (r ++ tail).toArray[j]!) := by
            rw [Array.getElem?_toList]
            unfold Go.Sort.putCells
            rw [Array.getElem?_mapIdx, Array.getElem?_eq_getElem hjc, Option.map_some, if_pos ⟨Nat.zero_le _, by omega⟩]
            rfl
          rw [e1, getElem!_of_toArray _ j (by simp; omega), List.getElem_append_left hj]
          unfold nums
          rw [List.getElem?_map, List.getElem?_eq_getElem hj]; rfl
        · rw [if_neg hj]
          exact (List.getElem?_eq_none (by rw [nums_length]; omega)).symm
  · refine ⟨?_, fun j p hj => ?_⟩
    · show (nums .i64 r).length = r.length * 1
      rw [nums_length, Nat.mul_one]
    · have hjr := (List.getElem?_eq_some_iff.1 hj).1
      have hv := (List.getElem?_eq_some_iff.1 hj).2
      show ((nums .i64 r).drop (j * 1)).take 1 = [.int .i64 p]
      rw [Nat.mul_one, List.drop_eq_getElem_cons (by rw [nums_length]; exact hjr)]
      simp [nums, hv]
theorem below_put {w W : World} {g q : Nat} {d : Array Int} (h : Below w.heap.size w W) (hg : w.heap.size ≤ g) : Below w.heap.size w (Go.Sort.putRow (Value.int .i64) (Go.Sort.ahead W q) g 0 d) := by
  refine ⟨h.os, h.tape, h.output, ?_, fun i hi => ?_⟩
  · rw [Go.Sort.size_putRow]; exact h.size
  · have : (Go.Sort.putRow (Value.int .i64) (Go.Sort.ahead W q) g 0 d).heap[i]? = W.heap[i]? := by
      show (Go.Sort.mapBlock (Go.Sort.ahead W q) g _).heap[i]? = _
      unfold Go.Sort.mapBlock
      rw [Array.getElem?_modify, if_neg (by omega)]; rfl
    rw [this]; exact h.block i hi
/-- slices.DeleteFunc over the multipliers. -/
theorem deleted {w0 w : World} {ok : Nat → Prop} {v : Value} {l : List Int} {B : Nat} {d e : Int} (hne : l ≠ []) (h : Kd.R (Kd.int .i64) 3 w w0.heap.size ok v l) (hB : w.heap[B]? = some (.cells #[.int .i64 d, .int .i64 e] 66 (0, 0))) (hb : Below w0.heap.size w0 w) :
    Calls Try.prog 56 #[v, .func (.func 57) #[] #[.pointer (some ⟨B, 0, none⟩)]] w fun e w' => ∃ v' : Value, e = .returned v' ∧ Kd.R (Kd.int .i64) 3 w' w0.heap.size ok v' (keptOf d l) ∧ Below w0.heap.size w0 w' := by
  have hne' : some B ≠ v.ownBlock := Kd.R_ne h hB (by decide)
  obtain ⟨inner, ho⟩ := Kd.R_own h
  rcases ho.2 with ⟨_, h1⟩ | ⟨g, cap, cur, rfl, hg, hh, hn, hcap, hs, _⟩
  · exact absurd (List.length_eq_zero_iff.mp h1) hne
  · have hBg : B ≠ g := fun e => hne' (by simp [Value.ownBlock, e])
    have hcB : w.cell? ⟨B, 0, none⟩ = some (.int .i64 d) := (blk_cell hB 0).trans rfl
    have hlt := blk_lt hB
    have eg : ∀ args w, (callFunc 57 args).run Try.prog w = .ok (.enter 57 args) w := enters_of Try.func57 (by kernel_rfl) rfl
    have hm : cap ≤ 9223372036854775807 := hcap
    have hl : (keptOf d l).length ≤ l.length := List.length_filter_le _ _
    have hcon := AnyE.slices_DeleteFunc laysDel (Value.int .i64) (fun _ => rfl) (strikes d) 57 #[.pointer (some ⟨B, 0, none⟩)] eg 0 Try.zeroValue3 g 0 cap l.toArray w
      (pred57 d B w hlt hcB) (over57 d B g 0 l.toArray.size w hlt hBg hcB) (holds_of_row h) (by simp; omega) (by simpa using hn)
    have e1 : l.toArray.toList = l := rfl
    have e2 : l.toArray.size = l.length := by simp
    rw [e1, e2] at hcon
    refine Calls.mono hcon ?_
    rintro e W ⟨rfl, q, rfl⟩
    exact ⟨_, rfl, row_of_put _ h hl (by simp only [List.length_append, List.length_replicate]; exact Nat.add_sub_cancel' hl), below_put hb hg⟩

end Go.Proofs.Ytiejibkjhmmpaaa.Q
