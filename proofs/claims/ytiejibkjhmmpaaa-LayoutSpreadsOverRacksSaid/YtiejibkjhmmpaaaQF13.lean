/- Printed by a program of this session (wip/tools) out of the translation: Lean functions that answer as the Go functions do, and the proofs of that; turned by hand where the program calls closures or cuts with three indexes. -/
import Derived.Test.YtiejibkjhmmpaaaQ0
import Derived.Test.YtiejibkjhmmpaaaQL
import Derived.Test.YtiejibkjhmmpaaaQP
import Derived.Test.YtiejibkjhmmpaaaQK
import Derived.Test.YtiejibkjhmmpaaaQU
namespace Go.Proofs.Ytiejibkjhmmpaaa.Q
open Go.RowKit Go.Proofs.YtiejibkjhmmpaaaW.PrintWords Go.Proofs.YtiejibkjhmmpaaaW.PrintLast Go.Proofs.YtiejibkjhmmpaaaW.PrintMore
attribute [local go_sem] max2_int min2_int max_two min_two max_three min_three max_four min_four   -- for this text's walks alone
set_option linter.unusedVariables false
set_option linter.unusedSimpArgs false

/-! ### solventlaw14_LayoutSpreadsOverRacks: function 13 -/
mutual
def solventlaw14_LayoutSpreadsOverRacks.j0 : Nat → Int → Int → Bool → Bool → Int → Int → Int → Int → Int → Int → Option (Bool)
  | 0, _, _, _, _, _, _, _, _, _, _ => none
  | k + 1, x1, x2, x7, x23, x542000, x542001, x542002, x542003, x542004, x542005 => if x23 = true then (some x7) else (if x542002 = 0 then (none) else ((layout_Crowd.f k x542000 x542001 x542002 x542003 x542004 x542005 x1).bind fun t544 => (solventlaw14_LayoutSpreadsOverRacks.l0 k x1 x7 (Int.tmod (wrap64 (x2)) x542002) t544 0 x542000 x542001 x542002 x542003 x542004 x542005)))
def solventlaw14_LayoutSpreadsOverRacks.l0 : Nat → Int → Bool → Int → Int → Int → Int → Int → Int → Int → Int → Int → Option (Bool)
  | 0, _, _, _, _, _, _, _, _, _, _, _ => none
  | k + 1, x1, x7, x8, x9, x10, x542000, x542001, x542002, x542003, x542004, x542005 => (layout_Groups.f k x542000 x542001 x542002 x542003 x542004 x542005 x1).bind fun t545 => (if x10 < t545 then ((layout_Place.f k x542000 x542001 x542002 x542003 x542004 x542005 x8 x1 x10).bind fun t546 => (if 0 ≤ x542001 then (if (x542001 : Int).toNat ≤ 35184372088832 then (solventlaw14_LayoutSpreadsOverRacks.l1 k x1 x7 x8 x9 x10 t546 (List.replicate (x542001 : Int).toNat 0) 0 0 x542000 x542001 x542002 x542003 x542004 x542005) else (none)) else (none))) else (some x7))
def solventlaw14_LayoutSpreadsOverRacks.l1 : Nat → Int → Bool → Int → Int → Int → List Int → List Int → Int → Int → Int → Int → Int → Int → Int → Int → Option (Bool)
  | 0, _, _, _, _, _, _, _, _, _, _, _, _, _, _, _ => none
  | k + 1, x1, x7, x8, x9, x10, x11, x12, x13, x14, x542000, x542001, x542002, x542003, x542004, x542005 => if x14 < (x11.length : Int) then (if 0 ≤ x14 then (if x542001 = 0 then (none) else (if 0 ≤ (Int.tmod (rd x11 x14) x542001) then (if (Int.tmod (rd x11 x14) x542001) < (x12.length : Int) then ((some (x12.set ((Int.tmod (rd x11 x14) x542001) : Int).toNat (wrap64 ((rd x12 (Int.tmod (rd x11 x14) x542001)) + 1)) : List Int)).bind fun y554 => (solventlaw14_LayoutSpreadsOverRacks.l1 k x1 x7 x8 x9 x10 x11 y554 (mx x13 (rd y554 (Int.tmod (rd x11 x14) x542001))) (wrap64 (x14 + 1)) x542000 x542001 x542002 x542003 x542004 x542005)) else (none)) else (none))) else (none)) else (if x13 = x9 then (solventlaw14_LayoutSpreadsOverRacks.l0 k x1 x7 x8 x9 (wrap64 (x10 + 1)) x542000 x542001 x542002 x542003 x542004 x542005) else (none))
end
def solventlaw14_LayoutSpreadsOverRacks.f (k : Nat) (a0_0 : Int) (a0_1 : Int) (a0_2 : Int) (a0_3 : Int) (a0_4 : Int) (a0_5 : Int) (a1 : Int) (a2 : Int) : Option (Bool) := (solventlaw14_sanity.f k).bind fun t542 => (if t542 = true then ((solventlaw14_proper.f k a0_0 a0_1 a0_2 a0_3 a0_4 a0_5 a1).bind fun t543 => (solventlaw14_LayoutSpreadsOverRacks.j0 k a1 a2 t542 (!t543) a0_0 a0_1 a0_2 a0_3 a0_4 a0_5)) else (solventlaw14_LayoutSpreadsOverRacks.j0 k a1 a2 t542 true a0_0 a0_1 a0_2 a0_3 a0_4 a0_5))
theorem solventlaw14_LayoutSpreadsOverRacks.mono_l : ∀ k, (∀ y0 y1 y2 y3 y4 y5 y6 y7 y8 y9, LeO (solventlaw14_LayoutSpreadsOverRacks.j0 k y0 y1 y2 y3 y4 y5 y6 y7 y8 y9) (solventlaw14_LayoutSpreadsOverRacks.j0 (k + 1) y0 y1 y2 y3 y4 y5 y6 y7 y8 y9)) ∧ (∀ y0 y1 y2 y3 y4 y5 y6 y7 y8 y9 y10, LeO (solventlaw14_LayoutSpreadsOverRacks.l0 k y0 y1 y2 y3 y4 y5 y6 y7 y8 y9 y10) (solventlaw14_LayoutSpreadsOverRacks.l0 (k + 1) y0 y1 y2 y3 y4 y5 y6 y7 y8 y9 y10)) ∧ (∀ y0 y1 y2 y3 y4 y5 y6 y7 y8 y9 y10 y11 y12 y13 y14, LeO (solventlaw14_LayoutSpreadsOverRacks.l1 k y0 y1 y2 y3 y4 y5 y6 y7 y8 y9 y10 y11 y12 y13 y14) (solventlaw14_LayoutSpreadsOverRacks.l1 (k + 1) y0 y1 y2 y3 y4 y5 y6 y7 y8 y9 y10 y11 y12 y13 y14))
  | 0 => ⟨fun _ _ _ _ _ _ _ _ _ _ r h => by simp [solventlaw14_LayoutSpreadsOverRacks.j0] at h, fun _ _ _ _ _ _ _ _ _ _ _ r h => by simp [solventlaw14_LayoutSpreadsOverRacks.l0] at h, fun _ _ _ _ _ _ _ _ _ _ _ _ _ _ _ r h => by simp [solventlaw14_LayoutSpreadsOverRacks.l1] at h⟩
  | k + 1 => by
    obtain ⟨ih0, ih1, ih2⟩ := solventlaw14_LayoutSpreadsOverRacks.mono_l k
    refine ⟨?_, ?_, ?_⟩
    · intro y0 y1 y2 y3 y4 y5 y6 y7 y8 y9
      unfold solventlaw14_LayoutSpreadsOverRacks.j0
      repeat' first
      | (with_reducible exact ih0 _ _ _ _ _ _ _ _ _ _)
      | (with_reducible exact ih1 _ _ _ _ _ _ _ _ _ _ _)
      | (with_reducible exact ih2 _ _ _ _ _ _ _ _ _ _ _ _ _ _ _)
      | (with_reducible exact layout_Crowd.mono _ _ _ _ _ _ _ _)
      | (with_reducible exact layout_Groups.mono _ _ _ _ _ _ _ _)
      | (with_reducible exact layout_Place.mono _ _ _ _ _ _ _ _ _ _)
      | (with_reducible exact solventlaw14_proper.mono _ _ _ _ _ _ _ _)
      | (with_reducible exact solventlaw14_sanity.mono _)
      | (with_reducible exact LeO.refl _)
      | (with_reducible exact LeO.none _)
      | (with_reducible refine LeO.ite ?_ ?_)
      | (with_reducible refine LeO.bind ?_ (fun _ => ?_))
      | exact ih0 _ _ _ _ _ _ _ _ _ _
      | exact ih1 _ _ _ _ _ _ _ _ _ _ _
      | exact ih2 _ _ _ _ _ _ _ _ _ _ _ _ _ _ _
      | exact layout_Crowd.mono _ _ _ _ _ _ _ _
      | exact layout_Groups.mono _ _ _ _ _ _ _ _
      | exact layout_Place.mono _ _ _ _ _ _ _ _ _ _
      | exact solventlaw14_proper.mono _ _ _ _ _ _ _ _
      | exact solventlaw14_sanity.mono _
      | exact LeO.none _
      | refine LeO.ite ?_ ?_
      | refine LeO.bind ?_ (fun _ => ?_)
    · intro y0 y1 y2 y3 y4 y5 y6 y7 y8 y9 y10
      unfold solventlaw14_LayoutSpreadsOverRacks.l0
      repeat' first
      | (with_reducible exact ih0 _ _ _ _ _ _ _ _ _ _)
      | (with_reducible exact ih1 _ _ _ _ _ _ _ _ _ _ _)
      | (with_reducible exact ih2 _ _ _ _ _ _ _ _ _ _ _ _ _ _ _)
      | (with_reducible exact layout_Crowd.mono _ _ _ _ _ _ _ _)
      | (with_reducible exact layout_Groups.mono _ _ _ _ _ _ _ _)
      | (with_reducible exact layout_Place.mono _ _ _ _ _ _ _ _ _ _)
      | (with_reducible exact solventlaw14_proper.mono _ _ _ _ _ _ _ _)
      | (with_reducible exact solventlaw14_sanity.mono _)
      | (with_reducible exact LeO.refl _)
      | (with_reducible exact LeO.none _)
      | (with_reducible refine LeO.ite ?_ ?_)
      | (with_reducible refine LeO.bind ?_ (fun _ => ?_))
      | exact ih0 _ _ _ _ _ _ _ _ _ _
      | exact ih1 _ _ _ _ _ _ _ _ _ _ _
      | exact ih2 _ _ _ _ _ _ _ _ _ _ _ _ _ _ _
      | exact layout_Crowd.mono _ _ _ _ _ _ _ _
      | exact layout_Groups.mono _ _ _ _ _ _ _ _
      | exact layout_Place.mono _ _ _ _ _ _ _ _ _ _
      | exact solventlaw14_proper.mono _ _ _ _ _ _ _ _
      | exact solventlaw14_sanity.mono _
      | exact LeO.none _
      | refine LeO.ite ?_ ?_
      | refine LeO.bind ?_ (fun _ => ?_)
    · intro y0 y1 y2 y3 y4 y5 y6 y7 y8 y9 y10 y11 y12 y13 y14
      unfold solventlaw14_LayoutSpreadsOverRacks.l1
      repeat' first
      | (with_reducible exact ih0 _ _ _ _ _ _ _ _ _ _)
      | (with_reducible exact ih1 _ _ _ _ _ _ _ _ _ _ _)
      | (with_reducible exact ih2 _ _ _ _ _ _ _ _ _ _ _ _ _ _ _)
      | (with_reducible exact layout_Crowd.mono _ _ _ _ _ _ _ _)
      | (with_reducible exact layout_Groups.mono _ _ _ _ _ _ _ _)
      | (with_reducible exact layout_Place.mono _ _ _ _ _ _ _ _ _ _)
      | (with_reducible exact solventlaw14_proper.mono _ _ _ _ _ _ _ _)
      | (with_reducible exact solventlaw14_sanity.mono _)
      | (with_reducible exact LeO.refl _)
      | (with_reducible exact LeO.none _)
      | (with_reducible refine LeO.ite ?_ ?_)
      | (with_reducible refine LeO.bind ?_ (fun _ => ?_))
      | exact ih0 _ _ _ _ _ _ _ _ _ _
      | exact ih1 _ _ _ _ _ _ _ _ _ _ _
      | exact ih2 _ _ _ _ _ _ _ _ _ _ _ _ _ _ _
      | exact layout_Crowd.mono _ _ _ _ _ _ _ _
      | exact layout_Groups.mono _ _ _ _ _ _ _ _
      | exact layout_Place.mono _ _ _ _ _ _ _ _ _ _
      | exact solventlaw14_proper.mono _ _ _ _ _ _ _ _
      | exact solventlaw14_sanity.mono _
      | exact LeO.none _
      | refine LeO.ite ?_ ?_
      | refine LeO.bind ?_ (fun _ => ?_)
theorem solventlaw14_LayoutSpreadsOverRacks.mono : ∀ a0 a1 a2 a3 a4 a5 a6 a7 k, LeO (solventlaw14_LayoutSpreadsOverRacks.f k a0 a1 a2 a3 a4 a5 a6 a7) (solventlaw14_LayoutSpreadsOverRacks.f (k + 1) a0 a1 a2 a3 a4 a5 a6 a7) := by
  intro a0 a1 a2 a3 a4 a5 a6 a7 k
  obtain ⟨ih0, ih1, ih2⟩ := solventlaw14_LayoutSpreadsOverRacks.mono_l k
  unfold solventlaw14_LayoutSpreadsOverRacks.f
  repeat' first
      | (with_reducible exact ih0 _ _ _ _ _ _ _ _ _ _)
      | (with_reducible exact ih1 _ _ _ _ _ _ _ _ _ _ _)
      | (with_reducible exact ih2 _ _ _ _ _ _ _ _ _ _ _ _ _ _ _)
      | (with_reducible exact layout_Crowd.mono _ _ _ _ _ _ _ _)
      | (with_reducible exact layout_Groups.mono _ _ _ _ _ _ _ _)
      | (with_reducible exact layout_Place.mono _ _ _ _ _ _ _ _ _ _)
      | (with_reducible exact solventlaw14_proper.mono _ _ _ _ _ _ _ _)
      | (with_reducible exact solventlaw14_sanity.mono _)
      | (with_reducible exact LeO.refl _)
      | (with_reducible exact LeO.none _)
      | (with_reducible refine LeO.ite ?_ ?_)
      | (with_reducible refine LeO.bind ?_ (fun _ => ?_))
      | exact ih0 _ _ _ _ _ _ _ _ _ _
      | exact ih1 _ _ _ _ _ _ _ _ _ _ _
      | exact ih2 _ _ _ _ _ _ _ _ _ _ _ _ _ _ _
      | exact layout_Crowd.mono _ _ _ _ _ _ _ _
      | exact layout_Groups.mono _ _ _ _ _ _ _ _
      | exact layout_Place.mono _ _ _ _ _ _ _ _ _ _
      | exact solventlaw14_proper.mono _ _ _ _ _ _ _ _
      | exact solventlaw14_sanity.mono _
      | exact LeO.none _
      | refine LeO.ite ?_ ?_
      | refine LeO.bind ?_ (fun _ => ?_)
def solventlaw14_LayoutSpreadsOverRacks.T15 : Bool × List (List Nat × List Nat) := (true, [([], []), ([], []), ([], []), ([1, 2], [1, 2]), ([3], [3]), ([], []), ([5], [5]), ([4, 6], [4, 6]), ([0, 7], [0, 7]), ([8], [8]), ([9], [9]), ([0, 7, 0, 1, 2, 3, 4, 5, 6, 7, 8, 9, 10], [0, 7]), ([11, 10, 0, 1, 2, 3, 4, 5, 6, 7, 8, 9, 10], [10, 11])])
def solventlaw14_LayoutSpreadsOverRacks.B15 : List Nat := [0, 0, 0, 6, 14, 0, 32, 126, 255, 511, 1023, 2047, 4095]
theorem solventlaw14_LayoutSpreadsOverRacks.tab15 : rtab .any (opsOf Try.f13 15) = solventlaw14_LayoutSpreadsOverRacks.T15 := by kernel_rfl
theorem solventlaw14_LayoutSpreadsOverRacks.bits15 : waitsOk solventlaw14_LayoutSpreadsOverRacks.T15.2 solventlaw14_LayoutSpreadsOverRacks.B15 = true := by kernel_rfl
def solventlaw14_LayoutSpreadsOverRacks.T16 : Bool × List (List Nat × List Nat) := (true, [([], []), ([], []), ([], []), ([], []), ([2, 3], [2, 3]), ([4], [4]), ([], []), ([6], [6]), ([5, 7], [5, 7]), ([1, 8], [1, 8]), ([9], [9]), ([0, 10], [0, 10]), ([11, 0, 1, 2, 3, 4, 5, 6, 7, 8, 9, 10, 11], [0, 11])])
def solventlaw14_LayoutSpreadsOverRacks.B16 : List Nat := [0, 0, 0, 0, 12, 28, 0, 64, 252, 510, 1022, 2047, 4095]
theorem solventlaw14_LayoutSpreadsOverRacks.tab16 : rtab .any (opsOf Try.f13 16) = solventlaw14_LayoutSpreadsOverRacks.T16 := by kernel_rfl
theorem solventlaw14_LayoutSpreadsOverRacks.bits16 : waitsOk solventlaw14_LayoutSpreadsOverRacks.T16.2 solventlaw14_LayoutSpreadsOverRacks.B16 = true := by kernel_rfl
set_option maxHeartbeats 8000000 in
set_option maxRecDepth 100000 in
theorem solventlaw14_LayoutSpreadsOverRacks.calls (k : Nat) (a0_0 : Int) (a0_1 : Int) (a0_2 : Int) (a0_3 : Int) (a0_4 : Int) (a0_5 : Int) (a1 : Int) (a2 : Int) (r : Bool) (w : World) (h : solventlaw14_LayoutSpreadsOverRacks.f k a0_0 a0_1 a0_2 a0_3 a0_4 a0_5 a1 a2 = some r) :
    Calls Try.prog 13 #[.agg #[.int .i64 a0_0, .int .i64 a0_1, .int .i64 a0_2, .int .i64 a0_3, .int .i64 a0_4, .int .i64 a0_5], .int .i64 a1, .int .u16 a2] w fun e w' => e = .returned (.bool r) ∧ Below w.heap.size w w' := by
  have hu23 := Try.underlying23
  have HB := Aside0.mk (Below.refl w.heap.size w)
  have H : ((solventlaw14_sanity.f k).bind fun t542 => (if t542 = true then ((solventlaw14_proper.f k a0_0 a0_1 a0_2 a0_3 a0_4 a0_5 a1).bind fun t543 => (solventlaw14_LayoutSpreadsOverRacks.j0 k a1 a2 t542 (!t543) a0_0 a0_1 a0_2 a0_3 a0_4 a0_5)) else (solventlaw14_LayoutSpreadsOverRacks.j0 k a1 a2 t542 true a0_0 a0_1 a0_2 a0_3 a0_4 a0_5))) = some r := h
  clear h
  replace H := Option.bind_eq_some_iff.mp H
  obtain ⟨t542, A40, H⟩ := H
  replace H : (if t542 = true then ((solventlaw14_proper.f k a0_0 a0_1 a0_2 a0_3 a0_4 a0_5 a1).bind fun t543 => (solventlaw14_LayoutSpreadsOverRacks.j0 k a1 a2 t542 (!t543) a0_0 a0_1 a0_2 a0_3 a0_4 a0_5)) else (solventlaw14_LayoutSpreadsOverRacks.j0 k a1 a2 t542 true a0_0 a0_1 a0_2 a0_3 a0_4 a0_5)) = some r := H
  have A4 := Aside0.mk A40
  clear A40
  have HC5 := Aside0.mk H
  clear H
  go_enter Try.func13, Try.ntmps13
  go_upto_region 2 with (first | ((with_reducible refine gate_dst (N := 3) rfl ?_); refine box_event ?hg (N := 3) ?hd (cs := #[.int .i64 a0_0, .int .i64 a0_1, .int .i64 a0_2, .int .i64 a0_3, .int .i64 a0_4, .int .i64 a0_5]) (t := 23) ?hr ?_; (case hd => rfl); (case hg => rfl); (case hr => first | (go_simp; done) | (go_simp; rfl)); intro gb541 hg w6 hbox hb; have n0_ := Aside0.mk (below_step (by repeat (first | (with_reducible first | exact HB.out | apply below_alloc | apply pw_below_drewN | apply below_drew1) | exact HB.out)) hb); have n1_ := Aside0.mk (hbox); have n2_ := Aside0.mk ((by rw [hg]; exact (below_size (by repeat (first | (with_reducible first | exact HB.out | apply below_alloc | apply pw_below_drewN | apply below_drew1) | exact HB.out))) : w.heap.size ≤ gb541)); have n3_ := Aside0.mk ((by rw [hg]; exact (below_size (by repeat (first | (with_reducible first | exact HB.out | apply below_alloc | apply pw_below_drewN | apply below_drew1) | exact HB.out))) : w.heap.size ≤ gb541)); clear HB; have HB := n0_; have BK541 := n1_; have GW541 := n2_; have GE541 := n3_; clear n0_ n1_ n2_ n3_; clear hb hbox hg) | ((with_reducible refine gate_callee (f := 30) rfl ?_); refine goesL_ (some 15) rfl rfl Try.func30 (by kernel_rfl) rfl #[] rfl (by (try simp only [List.map_toArray, List.map_cons, List.map_nil]); first | done | rfl | (simp only [List.length_drop, List.length_take]; rfl)) ?_; (with_reducible refine (solventlaw14_sanity.calls k  t542 _ A4.out).mono ?_); rintro e w7 ⟨rfl, hb⟩; refine ⟨_, rfl, ?_⟩; have n0_ := Aside0.mk (blk_below (g := gb541) (o := .cells #[.int .i64 a0_0, .int .i64 a0_1, .int .i64 a0_2, .int .i64 a0_3, .int .i64 a0_4, .int .i64 a0_5] 23 (0, 0)) (by (with_reducible repeat (first | refine blk_drewN ?_ _ | refine blk_drew ?_ | refine blk_alloc ?_ _)); exact BK541.out) hb); have n1_ := Aside0.mk (below_step (by repeat (first | (with_reducible first | exact HB.out | apply below_alloc | apply pw_below_drewN | apply below_drew1 | refine below_set ?_ GE541.out) | exact HB.out)) hb); clear BK541; clear HB; have BK541 := n0_; have HB := n1_; clear n0_ n1_; (try clear hb); (try clear hb2); (try clear hk); (try clear hi)))
  (try simp only [Act.put, List.setIfInBounds_toArray, List.set_cons_zero, List.set_cons_succ])
  go_cut [23] (fun v23 wc => ∃ (kq : Nat) (x23_4 : Bool), v23 = .bool x23_4 ∧ Aside0 (solventlaw14_LayoutSpreadsOverRacks.j0 kq a1 a2 t542 x23_4 a0_0 a0_1 a0_2 a0_3 a0_4 a0_5 = some r) ∧ Aside0 (kq ≤ k) ∧ Aside0 (wc.heap[gb541]? = some (.cells #[.int .i64 a0_0, .int .i64 a0_1, .int .i64 a0_2, .int .i64 a0_3, .int .i64 a0_4, .int .i64 a0_5] 23 (0, 0))) ∧ Aside0 (Below w.heap.size w wc))
  case first =>
    have H := HC5.out
    clear HC5
    by_cases c8 : t542 = true
    · subst c8
      have H1 : ((solventlaw14_proper.f k a0_0 a0_1 a0_2 a0_3 a0_4 a0_5 a1).bind fun t543 => (solventlaw14_LayoutSpreadsOverRacks.j0 k a1 a2 true (!t543) a0_0 a0_1 a0_2 a0_3 a0_4 a0_5)) = some r := by rw [if_pos rfl] at H; exact H
      clear H
      have H := H1
      clear H1
      replace H := Option.bind_eq_some_iff.mp H
      obtain ⟨t543, A90, H⟩ := H
      replace H : (solventlaw14_LayoutSpreadsOverRacks.j0 k a1 a2 true (!t543) a0_0 a0_1 a0_2 a0_3 a0_4 a0_5) = some r := H
      have A9 := Aside0.mk A90
      clear A90
      have H' := Aside0.mk H
      clear H
      have hcz10_0 : w7.cell? ⟨gb541, 0, none⟩ = some (.int .i64 a0_0) := (blk_cell BK541.out 0).trans rfl
      have hcz10_1 : w7.cell? ⟨gb541, 1, none⟩ = some (.int .i64 a0_1) := (blk_cell BK541.out 1).trans rfl
      have hcz10_2 : w7.cell? ⟨gb541, 2, none⟩ = some (.int .i64 a0_2) := (blk_cell BK541.out 2).trans rfl
      have hcz10_3 : w7.cell? ⟨gb541, 3, none⟩ = some (.int .i64 a0_3) := (blk_cell BK541.out 3).trans rfl
      have hcz10_4 : w7.cell? ⟨gb541, 4, none⟩ = some (.int .i64 a0_4) := (blk_cell BK541.out 4).trans rfl
      have hcz10_5 : w7.cell? ⟨gb541, 5, none⟩ = some (.int .i64 a0_5) := (blk_cell BK541.out 5).trans rfl
      have hfz10_0 := blk_frozen BK541.out 0
      have hfz10_1 := blk_frozen BK541.out 1
      have hfz10_2 := blk_frozen BK541.out 2
      have hfz10_3 := blk_frozen BK541.out 3
      have hfz10_4 := blk_frozen BK541.out 4
      have hfz10_5 := blk_frozen BK541.out 5
      go_wp2_with (first | (go_at_call 33; (with_reducible refine (solventlaw14_proper.calls k a0_0 a0_1 a0_2 a0_3 a0_4 a0_5 a1 t543 _ A9.out).mono ?_); rintro e w11 ⟨rfl, hb⟩; have n0_ := Aside0.mk (blk_below (g := gb541) (o := .cells #[.int .i64 a0_0, .int .i64 a0_1, .int .i64 a0_2, .int .i64 a0_3, .int .i64 a0_4, .int .i64 a0_5] 23 (0, 0)) (by (with_reducible repeat (first | refine blk_drewN ?_ _ | refine blk_drew ?_ | refine blk_alloc ?_ _)); exact BK541.out) hb); have n1_ := Aside0.mk (below_step (by repeat (first | (with_reducible first | exact HB.out | apply below_alloc | apply pw_below_drewN | apply below_drew1 | refine below_set ?_ GE541.out) | exact HB.out)) hb); clear BK541; clear HB; have BK541 := n0_; have HB := n1_; clear n0_ n1_; (try clear hb); (try clear hb2); (try clear hk); (try clear hi)))
      go_meet
      case rel => exact ⟨_, (!t543), (by first | rfl | (simp; done) | (simp [*]; done)), H', ⟨by first | omega | exact Nat.le_refl _⟩, ⟨by (with_reducible repeat (first | refine blk_drewN ?_ _ | refine blk_drew ?_ | refine blk_alloc ?_ _)); exact BK541.out⟩, ⟨by repeat (first | (with_reducible first | exact HB.out | apply below_alloc | apply pw_below_drewN | apply below_drew1 | refine below_set ?_ GE541.out) | exact HB.out)⟩⟩
    · replace c8 := Bool.eq_false_iff.mpr c8
      subst c8
      have H1 : (solventlaw14_LayoutSpreadsOverRacks.j0 k a1 a2 false true a0_0 a0_1 a0_2 a0_3 a0_4 a0_5) = some r := by rw [if_neg (show ¬ (false = true) by decide)] at H; exact H
      clear H
      have H := H1
      clear H1
      have H' := Aside0.mk H
      clear H
      go_wp2
      go_meet
      case rel => exact ⟨_, (true), (by first | rfl | (simp; done) | (simp [*]; done)), H', ⟨by first | omega | exact Nat.le_refl _⟩, ⟨by (with_reducible repeat (first | refine blk_drewN ?_ _ | refine blk_drew ?_ | refine blk_alloc ?_ _)); exact BK541.out⟩, ⟨by repeat (first | (with_reducible first | exact HB.out | apply below_alloc | apply pw_below_drewN | apply below_drew1 | refine below_set ?_ GE541.out) | exact HB.out)⟩⟩
  case rest =>
    clear HC5
    try clear c1
    try clear p2
    try clear c3
    try clear c8
    try clear hcz10_0
    try clear hcz10_1
    try clear hcz10_2
    try clear hcz10_3
    try clear hcz10_4
    try clear hcz10_5
    try clear hfz10_0
    try clear hfz10_1
    try clear hfz10_2
    try clear hfz10_3
    try clear hfz10_4
    try clear hfz10_5
    obtain ⟨kq, x23_4, rfl, HA, HJ4, BK541, HB⟩ := hcut
    cases kq with
    | zero => exact absurd HA.out (by simp [solventlaw14_LayoutSpreadsOverRacks.j0])
    | succ kj4 =>
      have H := HA.out
      clear HA
      simp only [solventlaw14_LayoutSpreadsOverRacks.j0] at H
      by_cases c12 : x23_4 = true
      · subst c12
        have H1 : (some t542) = some r := by rw [if_pos rfl] at H; exact H
        clear H
        have H := H1
        clear H1
        obtain rfl := Option.some.inj H
        go_wp2
        go_ret
        exact ⟨by first | rfl | (simp [errW_none, errW_some] <;> rfl) | (simp [*, errW_none, errW_some] <;> rfl), by repeat (first | (with_reducible first | exact HB.out | apply below_alloc | apply pw_below_drewN | apply below_drew1 | refine below_set ?_ GE541.out) | exact HB.out)⟩
      · replace c12 := Bool.eq_false_iff.mpr c12
        subst c12
        have H1 : (if a0_2 = 0 then (none) else ((layout_Crowd.f kj4 a0_0 a0_1 a0_2 a0_3 a0_4 a0_5 a1).bind fun t544 => (solventlaw14_LayoutSpreadsOverRacks.l0 kj4 a1 t542 (Int.tmod (wrap64 (a2)) a0_2) t544 0 a0_0 a0_1 a0_2 a0_3 a0_4 a0_5))) = some r := by rw [if_neg (show ¬ (false = true) by decide)] at H; exact H
        clear H
        have H := H1
        clear H1
        by_cases c13 : a0_2 = 0
        · rw [if_pos c13] at H
          exact absurd H (by simp)
        · rw [if_neg c13] at H
          have c13b0 : (a0_2 == 0) = false := beq_eq_false_iff_ne.mpr c13
          have c13b1 : (a0_2 != 0) = true := bne_iff_ne.mpr c13
          replace H := Option.bind_eq_some_iff.mp H
          obtain ⟨t544, A140, H⟩ := H
          replace H : (solventlaw14_LayoutSpreadsOverRacks.l0 kj4 a1 t542 (Int.tmod (wrap64 (a2)) a0_2) t544 0 a0_0 a0_1 a0_2 a0_3 a0_4 a0_5) = some r := H
          have A14 := Aside0.mk A140
          clear A140
          have H' := Aside0.mk H
          clear H
          have hcz15_0 : wc.cell? ⟨gb541, 0, none⟩ = some (.int .i64 a0_0) := (blk_cell BK541.out 0).trans rfl
          have hcz15_1 : wc.cell? ⟨gb541, 1, none⟩ = some (.int .i64 a0_1) := (blk_cell BK541.out 1).trans rfl
          have hcz15_2 : wc.cell? ⟨gb541, 2, none⟩ = some (.int .i64 a0_2) := (blk_cell BK541.out 2).trans rfl
          have hcz15_3 : wc.cell? ⟨gb541, 3, none⟩ = some (.int .i64 a0_3) := (blk_cell BK541.out 3).trans rfl
          have hcz15_4 : wc.cell? ⟨gb541, 4, none⟩ = some (.int .i64 a0_4) := (blk_cell BK541.out 4).trans rfl
          have hcz15_5 : wc.cell? ⟨gb541, 5, none⟩ = some (.int .i64 a0_5) := (blk_cell BK541.out 5).trans rfl
          have hfz15_0 := blk_frozen BK541.out 0
          have hfz15_1 := blk_frozen BK541.out 1
          have hfz15_2 := blk_frozen BK541.out 2
          have hfz15_3 := blk_frozen BK541.out 3
          have hfz15_4 := blk_frozen BK541.out 4
          have hfz15_5 := blk_frozen BK541.out 5
          go_wp2_with (first | ((with_reducible refine gate_callee (f := 46) rfl ?_); refine goesL_ (some 32) rfl rfl Try.func46 (by kernel_rfl) rfl #[.agg #[.int .i64 a0_0, .int .i64 a0_1, .int .i64 a0_2, .int .i64 a0_3, .int .i64 a0_4, .int .i64 a0_5], .int .i64 a1] rfl (by (try simp only [List.map_toArray, List.map_cons, List.map_nil]); first | done | rfl | (simp only [List.length_drop, List.length_take]; rfl)) ?_; (with_reducible refine (layout_Crowd.calls kj4 a0_0 a0_1 a0_2 a0_3 a0_4 a0_5 a1 t544 _ A14.out).mono ?_); rintro e w16 ⟨rfl, hb⟩; refine ⟨_, rfl, ?_⟩; have n0_ := Aside0.mk (blk_below (g := gb541) (o := .cells #[.int .i64 a0_0, .int .i64 a0_1, .int .i64 a0_2, .int .i64 a0_3, .int .i64 a0_4, .int .i64 a0_5] 23 (0, 0)) (by (with_reducible repeat (first | refine blk_drewN ?_ _ | refine blk_drew ?_ | refine blk_alloc ?_ _)); exact BK541.out) hb); have n1_ := Aside0.mk (below_step (by repeat (first | (with_reducible first | exact HB.out | apply below_alloc | apply pw_below_drewN | apply below_drew1 | refine below_set ?_ GE541.out) | exact HB.out)) hb); clear BK541; clear HB; have BK541 := n0_; have HB := n1_; clear n0_ n1_; (try clear hb); (try clear hb2); (try clear hk); (try clear hi)))
          go_loopg [10] kj4 (fun kq v10 w' => ∃ (x10_2 : Int), v10 = .int .i64 x10_2 ∧ Aside0 (solventlaw14_LayoutSpreadsOverRacks.l0 kq a1 t542 (Int.tmod (wrap64 (a2)) a0_2) t544 x10_2 a0_0 a0_1 a0_2 a0_3 a0_4 a0_5 = some r) ∧ Aside0 (kq ≤ kj4) ∧ Aside0 (w'.heap[gb541]? = some (.cells #[.int .i64 a0_0, .int .i64 a0_1, .int .i64 a0_2, .int .i64 a0_3, .int .i64 a0_4, .int .i64 a0_5] 23 (0, 0))) ∧ Aside0 (Below w.heap.size w w'))
          case atStart => exact ⟨(0), (by first | rfl | (simp; done) | (simp [*]; done)), H', ⟨Nat.le_refl _⟩, ⟨by (with_reducible repeat (first | refine blk_drewN ?_ _ | refine blk_drew ?_ | refine blk_alloc ?_ _)); exact BK541.out⟩, ⟨by repeat (first | (with_reducible first | exact HB.out | apply below_alloc | apply pw_below_drewN | apply below_drew1 | refine below_set ?_ GE541.out) | exact HB.out)⟩⟩
          case round =>
            clear H'
            try clear c1
            try clear p2
            try clear c3
            try clear c4
            try clear p6
            try clear c8
            try clear c12
            try clear c13
            try clear c13b0
            try clear c13b1
            try clear hcz10_0
            try clear hcz10_1
            try clear hcz10_2
            try clear hcz10_3
            try clear hcz10_4
            try clear hcz10_5
            try clear hcz15_0
            try clear hcz15_1
            try clear hcz15_2
            try clear hcz15_3
            try clear hcz15_4
            try clear hcz15_5
            try clear hfz10_0
            try clear hfz10_1
            try clear hfz10_2
            try clear hfz10_3
            try clear hfz10_4
            try clear hfz10_5
            try clear hfz15_0
            try clear hfz15_1
            try clear hfz15_2
            try clear hfz15_3
            try clear hfz15_4
            try clear hfz15_5
            try clear p2
            obtain ⟨x10_2, rfl, HA, HK2, BK541, HB⟩ := hrel
            cases gk with
            | zero => exact absurd HA.out (by simp [solventlaw14_LayoutSpreadsOverRacks.l0])
            | succ k2 =>
              have H := HA.out
              clear HA
              simp only [solventlaw14_LayoutSpreadsOverRacks.l0] at H
              replace H := Option.bind_eq_some_iff.mp H
              obtain ⟨t545, A170, H⟩ := H
              replace H : (if x10_2 < t545 then ((layout_Place.f k2 a0_0 a0_1 a0_2 a0_3 a0_4 a0_5 (Int.tmod (wrap64 (a2)) a0_2) a1 x10_2).bind fun t546 => (if 0 ≤ a0_1 then (if (a0_1 : Int).toNat ≤ 35184372088832 then (solventlaw14_LayoutSpreadsOverRacks.l1 k2 a1 t542 (Int.tmod (wrap64 (a2)) a0_2) t544 x10_2 t546 (List.replicate (a0_1 : Int).toNat 0) 0 0 a0_0 a0_1 a0_2 a0_3 a0_4 a0_5) else (none)) else (none))) else (some t542)) = some r := H
              have A17 := Aside0.mk A170
              clear A170
              by_cases c18 : x10_2 < t545
              · rw [if_pos c18] at H
                have c18b0 : decide (x10_2 < t545) = true := decide_eq_true c18
                clear c18
                replace H := Option.bind_eq_some_iff.mp H
                obtain ⟨t546, A190, H⟩ := H
                replace H : (if 0 ≤ a0_1 then (if (a0_1 : Int).toNat ≤ 35184372088832 then (solventlaw14_LayoutSpreadsOverRacks.l1 k2 a1 t542 (Int.tmod (wrap64 (a2)) a0_2) t544 x10_2 t546 (List.replicate (a0_1 : Int).toNat 0) 0 0 a0_0 a0_1 a0_2 a0_3 a0_4 a0_5) else (none)) else (none)) = some r := H
                have A19 := Aside0.mk A190
                clear A190
                by_cases c20 : 0 ≤ a0_1
                · rw [if_pos c20] at H
                  have c20b0 := eq_true c20
                  have c20b1 : decide (0 ≤ a0_1) = true := decide_eq_true c20
                  clear c20
                  by_cases c21 : (a0_1 : Int).toNat ≤ 35184372088832
                  · rw [if_pos c21] at H
                    have c21b0 := eq_true c21
                    have c21b1 : decide ((a0_1 : Int).toNat ≤ 35184372088832) = true := decide_eq_true c21
                    clear c21
                    obtain ⟨y549, hy549⟩ : ∃ y_ : List Int, y_ = (List.replicate (a0_1 : Int).toNat 0) := ⟨_, rfl⟩
                    replace H : (solventlaw14_LayoutSpreadsOverRacks.l1 k2 a1 t542 (Int.tmod (wrap64 (a2)) a0_2) t544 x10_2 t546 y549 0 0 a0_0 a0_1 a0_2 a0_3 a0_4 a0_5) = some r := by first | (rw [hy549]; with_reducible exact H) | (have H2_ := (Option.bind_some _ _).symm.trans H; rw [hy549]; with_reducible exact H2_) | (have H2_ := (Option.bind_some _ _).symm.trans H; with_reducible exact H2_) | with_reducible exact H | (rw [hy549]; exact H) | exact H
                    have Ny549 := Aside0.mk hy549
                    clear hy549
                    have H' := Aside0.mk H
                    clear H
                    have hcz22_0 : wr.cell? ⟨gb541, 0, none⟩ = some (.int .i64 a0_0) := (blk_cell BK541.out 0).trans rfl
                    have hcz22_1 : wr.cell? ⟨gb541, 1, none⟩ = some (.int .i64 a0_1) := (blk_cell BK541.out 1).trans rfl
                    have hcz22_2 : wr.cell? ⟨gb541, 2, none⟩ = some (.int .i64 a0_2) := (blk_cell BK541.out 2).trans rfl
                    have hcz22_3 : wr.cell? ⟨gb541, 3, none⟩ = some (.int .i64 a0_3) := (blk_cell BK541.out 3).trans rfl
                    have hcz22_4 : wr.cell? ⟨gb541, 4, none⟩ = some (.int .i64 a0_4) := (blk_cell BK541.out 4).trans rfl
                    have hcz22_5 : wr.cell? ⟨gb541, 5, none⟩ = some (.int .i64 a0_5) := (blk_cell BK541.out 5).trans rfl
                    have hfz22_0 := blk_frozen BK541.out 0
                    have hfz22_1 := blk_frozen BK541.out 1
                    have hfz22_2 := blk_frozen BK541.out 2
                    have hfz22_3 := blk_frozen BK541.out 3
                    have hfz22_4 := blk_frozen BK541.out 4
                    have hfz22_5 := blk_frozen BK541.out 5
                    go_wp2_with (first | ((with_reducible refine gate_callee (f := 32) rfl ?_); refine goesL_ (some 36) rfl rfl Try.func32 (by kernel_rfl) rfl #[.agg #[.int .i64 a0_0, .int .i64 a0_1, .int .i64 a0_2, .int .i64 a0_3, .int .i64 a0_4, .int .i64 a0_5], .int .i64 a1] rfl (by (try simp only [List.map_toArray, List.map_cons, List.map_nil]); first | done | rfl | (simp only [List.length_drop, List.length_take]; rfl)) ?_; (with_reducible refine (layout_Groups.calls k2 a0_0 a0_1 a0_2 a0_3 a0_4 a0_5 a1 t545 _ A17.out).mono ?_); rintro e w23 ⟨rfl, hb⟩; refine ⟨_, rfl, ?_⟩; have n0_ := Aside0.mk (blk_below (g := gb541) (o := .cells #[.int .i64 a0_0, .int .i64 a0_1, .int .i64 a0_2, .int .i64 a0_3, .int .i64 a0_4, .int .i64 a0_5] 23 (0, 0)) (by (with_reducible repeat (first | refine blk_drewN ?_ _ | refine blk_drew ?_ | refine blk_alloc ?_ _)); exact BK541.out) hb); have n1_ := Aside0.mk (below_step (by repeat (first | (with_reducible first | exact HB.out | apply below_alloc | apply pw_below_drewN | apply below_drew1 | refine below_set ?_ GE541.out) | exact HB.out)) hb); clear BK541; clear HB; have BK541 := n0_; have HB := n1_; clear n0_ n1_; (try clear hb); (try clear hb2); (try clear hk); (try clear hi); have hcz24_0 : w23.cell? ⟨gb541, 0, none⟩ = some (.int .i64 a0_0) := (blk_cell BK541.out 0).trans rfl; have hcz24_1 : w23.cell? ⟨gb541, 1, none⟩ = some (.int .i64 a0_1) := (blk_cell BK541.out 1).trans rfl; have hcz24_2 : w23.cell? ⟨gb541, 2, none⟩ = some (.int .i64 a0_2) := (blk_cell BK541.out 2).trans rfl; have hcz24_3 : w23.cell? ⟨gb541, 3, none⟩ = some (.int .i64 a0_3) := (blk_cell BK541.out 3).trans rfl; have hcz24_4 : w23.cell? ⟨gb541, 4, none⟩ = some (.int .i64 a0_4) := (blk_cell BK541.out 4).trans rfl; have hcz24_5 : w23.cell? ⟨gb541, 5, none⟩ = some (.int .i64 a0_5) := (blk_cell BK541.out 5).trans rfl; have hfz24_0 := blk_frozen BK541.out 0; have hfz24_1 := blk_frozen BK541.out 1; have hfz24_2 := blk_frozen BK541.out 2; have hfz24_3 := blk_frozen BK541.out 3; have hfz24_4 := blk_frozen BK541.out 4; have hfz24_5 := blk_frozen BK541.out 5) | ((with_reducible refine gate_callee (f := 35) rfl ?_); refine goesL_ (some 44) rfl rfl Try.func35 (by kernel_rfl) rfl #[.agg #[.int .i64 a0_0, .int .i64 a0_1, .int .i64 a0_2, .int .i64 a0_3, .int .i64 a0_4, .int .i64 a0_5], .int .i64 (Int.tmod (wrap64 (a2)) a0_2), .int .i64 a1, .int .i64 x10_2] rfl (by (try simp only [List.map_toArray, List.map_cons, List.map_nil]); first | done | rfl | (simp only [List.length_drop, List.length_take]; rfl)) ?_; (with_reducible refine (layout_Place.calls k2 a0_0 a0_1 a0_2 a0_3 a0_4 a0_5 (Int.tmod (wrap64 (a2)) a0_2) a1 x10_2 t546 _ A19.out).mono ?_); rintro e w25 ⟨v547, rfl, ho0, hb⟩; refine ⟨_, rfl, ?_⟩; have n0_ := Aside0.mk (Kd.V_lower (Kd.V_mono (ok' := fun k_ => k_ ≠ gb541) ho0 (fun k_ hk_ => (Kd.freshB (g := gb541) (o := .cells #[.int .i64 a0_0, .int .i64 a0_1, .int .i64 a0_2, .int .i64 a0_3, .int .i64 a0_4, .int .i64 a0_5] 23 (0, 0)) (by (with_reducible repeat (first | refine blk_drewN ?_ _ | refine blk_drew ?_ | refine blk_alloc ?_ _)); exact BK541.out) k_ hk_))) (below_size (by repeat (first | (with_reducible first | exact HB.out | apply below_alloc | apply pw_below_drewN | apply below_drew1 | refine below_set ?_ GE541.out) | exact HB.out)))); have n1_ := Aside0.mk (blk_below (g := gb541) (o := .cells #[.int .i64 a0_0, .int .i64 a0_1, .int .i64 a0_2, .int .i64 a0_3, .int .i64 a0_4, .int .i64 a0_5] 23 (0, 0)) (by (with_reducible repeat (first | refine blk_drewN ?_ _ | refine blk_drew ?_ | refine blk_alloc ?_ _)); exact BK541.out) hb); have n2_ := Aside0.mk (below_step (by repeat (first | (with_reducible first | exact HB.out | apply below_alloc | apply pw_below_drewN | apply below_drew1 | refine below_set ?_ GE541.out) | exact HB.out)) hb); clear BK541; clear HB; have HO548 := n0_; have BK541 := n1_; have HB := n2_; clear n0_ n1_ n2_; (try clear hb); (try clear hb2); (try clear hk); (try clear hi); (try clear ho0); have hcz26_0 : w25.cell? ⟨gb541, 0, none⟩ = some (.int .i64 a0_0) := (blk_cell BK541.out 0).trans rfl; have hcz26_1 : w25.cell? ⟨gb541, 1, none⟩ = some (.int .i64 a0_1) := (blk_cell BK541.out 1).trans rfl; have hcz26_2 : w25.cell? ⟨gb541, 2, none⟩ = some (.int .i64 a0_2) := (blk_cell BK541.out 2).trans rfl; have hcz26_3 : w25.cell? ⟨gb541, 3, none⟩ = some (.int .i64 a0_3) := (blk_cell BK541.out 3).trans rfl; have hcz26_4 : w25.cell? ⟨gb541, 4, none⟩ = some (.int .i64 a0_4) := (blk_cell BK541.out 4).trans rfl; have hcz26_5 : w25.cell? ⟨gb541, 5, none⟩ = some (.int .i64 a0_5) := (blk_cell BK541.out 5).trans rfl; have hfz26_0 := blk_frozen BK541.out 0; have hfz26_1 := blk_frozen BK541.out 1; have hfz26_2 := blk_frozen BK541.out 2; have hfz26_3 := blk_frozen BK541.out 3; have hfz26_4 := blk_frozen BK541.out 4; have hfz26_5 := blk_frozen BK541.out 5) | ((with_reducible refine gate_dst (N := 47) rfl ?_); refine Kd.R_make (Kd.int .i64) _ 3 rfl (N := 47) rfl 28 _ _ rfl a0_1 rfl rfl Try.underlying28 (.int .i64 0) 8 info3 rfl (by decide) (by omega) 0 (ok := fun _ => True) (okp := fun _ => True) rfl (fun _ hk => hk) trivial (of_decide_eq_true (by first | (with_reducible assumption) | assumption)) (Nat.le_trans (Nat.mul_le_mul_right _ (of_decide_eq_true (by first | (with_reducible assumption) | assumption) : a0_1.toNat ≤ 35184372088832)) (by omega)) (Below.refl _ _) (Nat.le_refl _) ?_; intro v550 w27 ho28 hb hg_ hnew_; clear hg_ hnew_; (first | rw [← Ny549.out] at ho28 | (simp only [Int.reduceToNat] at ho28; rw [← Ny549.out] at ho28)); have n0_ := Aside0.mk (Kd.V_elder' (by (with_reducible repeat (first | apply Kd.V_alloc | apply Kd.V_drewN | apply Kd.V_drew)); exact HO548.out) (Kd.R_base ho28) hb); have n1_ := Aside0.mk (Kd.R_lower ho28 (below_size (by repeat (first | (with_reducible first | exact HB.out | apply below_alloc | apply pw_below_drewN | apply below_drew1 | refine below_set ?_ GE541.out) | exact HB.out)))); have n2_ := Aside0.mk (blk_below (g := gb541) (o := .cells #[.int .i64 a0_0, .int .i64 a0_1, .int .i64 a0_2, .int .i64 a0_3, .int .i64 a0_4, .int .i64 a0_5] 23 (0, 0)) (by (with_reducible repeat (first | refine blk_drewN ?_ _ | refine blk_drew ?_ | refine blk_alloc ?_ _)); exact BK541.out) hb); have n3_ := Aside0.mk (below_step (by repeat (first | (with_reducible first | exact HB.out | apply below_alloc | apply pw_below_drewN | apply below_drew1 | refine below_set ?_ GE541.out) | exact HB.out)) hb); clear HO548; clear BK541; clear HB; have HO548 := n0_; have HO551 := n1_; have BK541 := n2_; have HB := n3_; clear n0_ n1_ n2_ n3_; clear hb ho28))
                    go_loopg [13, 14] k2 (fun kq v13 v14 w' => ∃ (x12_3 : List Int) (x13_3 : Int) (x14_3 : Int), v13 = .int .i64 x13_3 ∧ v14 = .int .i64 x14_3 ∧ Aside0 (solventlaw14_LayoutSpreadsOverRacks.l1 kq a1 t542 (Int.tmod (wrap64 (a2)) a0_2) t544 x10_2 t546 x12_3 x13_3 x14_3 a0_0 a0_1 a0_2 a0_3 a0_4 a0_5 = some r) ∧ Aside0 (kq ≤ k2) ∧ Aside0 (Kd.V (Kd.int .i64) 3 w' w.heap.size (fun k_ => some k_ ≠ (v550 : Value).ownBlock ∧ k_ ≠ gb541) v547 t546) ∧ Aside0 (Kd.R (Kd.int .i64) 3 w' w.heap.size (fun _ => True) v550 x12_3) ∧ Aside0 (w'.heap[gb541]? = some (.cells #[.int .i64 a0_0, .int .i64 a0_1, .int .i64 a0_2, .int .i64 a0_3, .int .i64 a0_4, .int .i64 a0_5] 23 (0, 0))) ∧ Aside0 (Below w.heap.size w w'))
                    case atStart => exact ⟨(y549), (0), (0), (by first | rfl | (simp; done) | (simp [*]; done)), (by first | rfl | (simp; done) | (simp [*]; done)), H', ⟨Nat.le_refl _⟩, ⟨by (with_reducible repeat (first | apply Kd.V_alloc | apply Kd.V_drewN | apply Kd.V_drew)); exact Kd.V_mono HO548.out (fun _ hk => ⟨hk.2, hk.1⟩)⟩, ⟨by (with_reducible repeat (first | apply Kd.R_alloc | apply Kd.R_drewN | apply Kd.R_drew)); exact HO551.out⟩, ⟨by (with_reducible repeat (first | refine blk_drewN ?_ _ | refine blk_drew ?_ | refine blk_alloc ?_ _)); exact BK541.out⟩, ⟨by repeat (first | (with_reducible first | exact HB.out | apply below_alloc | apply pw_below_drewN | apply below_drew1 | refine below_set ?_ GE541.out) | exact HB.out)⟩⟩
                    case round =>
                      clear H'
                      try clear c1
                      try clear c2
                      try clear p2
                      try clear c3
                      try clear c4
                      try clear p6
                      try clear c8
                      try clear c12
                      try clear c13
                      try clear c13b0
                      try clear c13b1
                      try clear c18
                      try clear c18b0
                      try clear c20
                      try clear c20b0
                      try clear c20b1
                      try clear c21
                      try clear c21b0
                      try clear c21b1
                      try clear hcz10_0
                      try clear hcz10_1
                      try clear hcz10_2
                      try clear hcz10_3
                      try clear hcz10_4
                      try clear hcz10_5
                      try clear hcz15_0
                      try clear hcz15_1
                      try clear hcz15_2
                      try clear hcz15_3
                      try clear hcz15_4
                      try clear hcz15_5
                      try clear hcz22_0
                      try clear hcz22_1
                      try clear hcz22_2
                      try clear hcz22_3
                      try clear hcz22_4
                      try clear hcz22_5
                      try clear hcz24_0
                      try clear hcz24_1
                      try clear hcz24_2
                      try clear hcz24_3
                      try clear hcz24_4
                      try clear hcz24_5
                      try clear hcz26_0
                      try clear hcz26_1
                      try clear hcz26_2
                      try clear hcz26_3
                      try clear hcz26_4
                      try clear hcz26_5
                      try clear hfz10_0
                      try clear hfz10_1
                      try clear hfz10_2
                      try clear hfz10_3
                      try clear hfz10_4
                      try clear hfz10_5
                      try clear hfz15_0
                      try clear hfz15_1
                      try clear hfz15_2
                      try clear hfz15_3
                      try clear hfz15_4
                      try clear hfz15_5
                      try clear hfz22_0
                      try clear hfz22_1
                      try clear hfz22_2
                      try clear hfz22_3
                      try clear hfz22_4
                      try clear hfz22_5
                      try clear hfz24_0
                      try clear hfz24_1
                      try clear hfz24_2
                      try clear hfz24_3
                      try clear hfz24_4
                      try clear hfz24_5
                      try clear hfz26_0
                      try clear hfz26_1
                      try clear hfz26_2
                      try clear hfz26_3
                      try clear hfz26_4
                      try clear hfz26_5
                      try clear p2
                      try clear p6
                      obtain ⟨x12_3, x13_3, x14_3, rfl, rfl, HA, HK3, HO_11, HO_12, BK541, HB⟩ := hrel
                      cases gk with
                      | zero => exact absurd HA.out (by simp [solventlaw14_LayoutSpreadsOverRacks.l1])
                      | succ k3 =>
                        have H := HA.out
                        clear HA
                        simp only [solventlaw14_LayoutSpreadsOverRacks.l1] at H
                        by_cases c29 : x14_3 < (t546.length : Int)
                        · rw [if_pos c29] at H
                          have c29b0 : decide (x14_3 < (t546.length : Int)) = true := decide_eq_true c29
                          clear c29
                          by_cases c30 : 0 ≤ x14_3
                          · rw [if_pos c30] at H
                            have c30b0 : decide (0 ≤ x14_3) = true := decide_eq_true c30
                            clear c30
                            by_cases c31 : a0_1 = 0
                            · rw [if_pos c31] at H
                              exact absurd H (by simp)
                            · rw [if_neg c31] at H
                              have c31b0 : (a0_1 == 0) = false := beq_eq_false_iff_ne.mpr c31
                              have c31b1 : (a0_1 != 0) = true := bne_iff_ne.mpr c31
                              obtain ⟨ji32, hji32⟩ : ∃ j_ : Int, (Int.tmod (rd t546 x14_3) a0_1) = j_ := ⟨_, rfl⟩
                              replace H : (if 0 ≤ (ji32) then (if (ji32) < (x12_3.length : Int) then ((some (x12_3.set ((ji32) : Int).toNat (wrap64 ((rd x12_3 (ji32)) + 1)) : List Int)).bind fun y554 => (solventlaw14_LayoutSpreadsOverRacks.l1 k3 a1 t542 (Int.tmod (wrap64 (a2)) a0_2) t544 x10_2 t546 y554 (mx x13_3 (rd y554 (ji32))) (wrap64 (x14_3 + 1)) a0_0 a0_1 a0_2 a0_3 a0_4 a0_5)) else (none)) else (none)) = some r := by first | (rw [hji32] at H; exact H) | (simp only [hji32] at H ⊢; exact H)
                              by_cases c33 : 0 ≤ (ji32)
                              · rw [if_pos c33] at H
                                have c33b0 : decide (0 ≤ (ji32)) = true := decide_eq_true c33
                                clear c33
                                by_cases c34 : (ji32) < (x12_3.length : Int)
                                · rw [if_pos c34] at H
                                  have c34b0 : decide ((ji32) < (x12_3.length : Int)) = true := decide_eq_true c34
                                  clear c34
                                  obtain ⟨y554, hy554⟩ : ∃ y_ : List Int, y_ = (x12_3.set ((ji32) : Int).toNat (wrap64 ((rd x12_3 (ji32)) + 1))) := ⟨_, rfl⟩
                                  replace H : (solventlaw14_LayoutSpreadsOverRacks.l1 k3 a1 t542 (Int.tmod (wrap64 (a2)) a0_2) t544 x10_2 t546 y554 (mx x13_3 (rd y554 (ji32))) (wrap64 (x14_3 + 1)) a0_0 a0_1 a0_2 a0_3 a0_4 a0_5) = some r := by first | (rw [hy554]; with_reducible exact H) | (have H2_ := (Option.bind_some _ _).symm.trans H; rw [hy554]; with_reducible exact H2_) | (have H2_ := (Option.bind_some _ _).symm.trans H; with_reducible exact H2_) | with_reducible exact H | (rw [hy554]; exact H) | exact H
                                  have Ny554 := Aside0.mk hy554
                                  clear hy554
                                  obtain ⟨ji36, hji36⟩ : ∃ j_ : Int, (mx x13_3 (rd y554 (ji32))) = j_ := ⟨_, rfl⟩
                                  replace H : (solventlaw14_LayoutSpreadsOverRacks.l1 k3 a1 t542 (Int.tmod (wrap64 (a2)) a0_2) t544 x10_2 t546 y554 ji36 (wrap64 (x14_3 + 1)) a0_0 a0_1 a0_2 a0_3 a0_4 a0_5) = some r := by first | (rw [hji36] at H; exact H) | (simp only [hji36] at H ⊢; exact H)
                                  have hji36_ : (if x13_3 < (rd y554 (ji32)) then (rd y554 (ji32)) else x13_3) = ji36 := hji36
                                  have H' := Aside0.mk H
                                  clear H
                                  obtain ⟨Ao37, co37, eo37⟩ := Kd.V_slice HO_11.out
                                  subst eo37
                                  try go_wp2
                                  have n0_ := Aside0.mk (Kd.V_drew HO_11.out)
                                  have n1_ := Aside0.mk (Kd.R_drew HO_12.out)
                                  have n2_ := Aside0.mk (blk_drew BK541.out)
                                  have n3_ := Aside0.mk (below_drew1 HB.out)
                                  clear HO_11
                                  clear HO_12
                                  clear BK541
                                  clear HB
                                  have HO_11 := n0_
                                  have HO_12 := n1_
                                  have BK541 := n2_
                                  have HB := n3_
                                  clear n0_ n1_ n2_ n3_
                                  have p552 : 0 ≤ (x14_3 : Int) := of_decide_eq_true (by first | (with_reducible assumption) | assumption)
                                  have q552 : x14_3 < (t546.length : Int) := of_decide_eq_true (by first | (with_reducible assumption) | assumption)
                                  obtain ⟨ad552, e552, hx552_0⟩ := Kd.at_int (Kd.V_reads' HO_11.out).2.2 x14_3 p552 q552
                                  cases e552
                                  replace p552 := eq_true p552
                                  replace q552 := eq_true q552
                                  obtain ⟨Ao39, co39, eo39⟩ := Kd.R_slice HO_12.out
                                  (first | subst eo39 | (injection eo39 with f1_ f2_ f3_; have f4_ := f1_.symm; have f5_ := f3_.symm; clear f1_ f2_ f3_; subst f4_; subst f5_))
                                  have p553 : 0 ≤ ((ji32) : Int) := of_decide_eq_true (by first | (with_reducible assumption) | assumption)
                                  have q553 : (ji32) < (x12_3.length : Int) := of_decide_eq_true (by first | (with_reducible assumption) | assumption)
                                  obtain ⟨ad553, e553, hx553_0⟩ := Kd.at_int (Kd.R_reads' HO_12.out).2.2 (ji32) p553 q553
                                  cases e553
                                  replace p553 := eq_true p553
                                  replace q553 := eq_true q553
                                  have p35 : 0 ≤ ((ji32) : Int) := of_decide_eq_true (by first | (with_reducible assumption) | assumption)
                                  have q35 : ((ji32) : Int) < ((x12_3.length : Int) : Int) := of_decide_eq_true (by first | (with_reducible assumption) | assumption)
                                  obtain ⟨go35, co35, eo35, gb35, gl35, cl35, HG35⟩ := Kd.R_form HO_12.out (by omega)
                                  (first | cases eo35 | (injection eo35 with ea_ en_ ec_; (first | subst ea_ | (injection ea_ with ea_; subst ea_)); subst ec_; clear en_))
                                  have GB35 := Aside0.mk gb35
                                  have GG35 := Aside0.mk HG35
                                  clear gb35 gl35 HG35
                                  (first | simp only [add_plain] at hx553_0 | skip)
                                  obtain ⟨hx35_0, hf35_0⟩ := Kd.R_celln 0 HO_12.out ((ji32) : Int) p35 q35
                                  replace p35 := eq_true p35
                                  replace q35 := eq_true q35
                                  have HP40 := Kd.R_putn HO_12.out ((ji32) : Int) (wrap64 ((rd x12_3 (ji32)) + 1))
                                  rw [← Ny554.out] at HP40
                                  have HQ40 := Aside0.mk HP40
                                  clear HP40
                                  refine start_ (n := 13) (S := fun w' => w'.cell? ⟨gb541, 0, none⟩ = some (.int .i64 a0_0) ∧ w'.cell? ⟨gb541, 1, none⟩ = some (.int .i64 a0_1) ∧ w'.cell? ⟨gb541, 2, none⟩ = some (.int .i64 a0_2) ∧ w'.cell? ⟨gb541, 3, none⟩ = some (.int .i64 a0_3) ∧ w'.cell? ⟨gb541, 4, none⟩ = some (.int .i64 a0_4) ∧ w'.cell? ⟨gb541, 5, none⟩ = some (.int .i64 a0_5) ∧ w'.cell? (ad552.add (x14_3).toNat) = some (.int .i64 (rd t546 x14_3)) ∧ w'.cell? ⟨go35, ((ji32)).toNat, none⟩ = some (.int .i64 (rd x12_3 (ji32)))) (ds := [12]) #[false, false, false, false, false, false, false, false, false, false, false, false, false] (by kernel_rfl) rfl rfl ⟨(blk_cell BK541.out 0).trans rfl, (blk_cell BK541.out 1).trans rfl, (blk_cell BK541.out 2).trans rfl, (blk_cell BK541.out 3).trans rfl, (blk_cell BK541.out 4).trans rfl, (blk_cell BK541.out 5).trans rfl, hx552_0, hx553_0⟩ (fun hHeld => ?_); refine with_tabW solventlaw14_LayoutSpreadsOverRacks.tab15 solventlaw14_LayoutSpreadsOverRacks.bits15 (fun HT_ HW_ => ?_)
                                  generalize wr.drew = w38 at HO_11 HO_12 BK541 HB GG35 HQ40 hf35_0 hx35_0 hx552_0 hx553_0 hHeld ⊢
                                  refine pure_ (i := 0) (N := some 54) (v := ?_) (a' := ?_) #[true, false, false, false, false, false, false, false, false, false, false, false, false] rfl rfl (any_of HT_.out (by kernel_rfl)) (fun _ _ _ h => h) (Or.inl ⟨by rfl, ?_⟩) ?_ ?_
                                  rotate_left
                                  · intro w'
                                    go_simp
                                    with_reducible rfl
                                  rotate_left
                                  · simp only [Act.put, List.setIfInBounds_toArray, List.set_cons_zero, List.set_cons_succ, i64_w, i32_w]
                                    rfl
                                  refine pure_ (i := 1) (N := some 55) (v := ?_) (a' := ?_) #[true, true, false, false, false, false, false, false, false, false, false, false, false] rfl rfl (any_of HT_.out (by kernel_rfl)) (fun _ _ _ h => h) (Or.inl ⟨by rfl, ?_⟩) ?_ ?_
                                  rotate_left
                                  · intro w'
                                    go_simp
                                    with_reducible rfl
                                  rotate_left
                                  · simp only [Act.put, List.setIfInBounds_toArray, List.set_cons_zero, List.set_cons_succ, i64_w, i32_w]
                                    rfl
                                  refine pure_ (i := 2) (N := some 56) (v := ?_) (a' := ?_) #[true, true, true, false, false, false, false, false, false, false, false, false, false] rfl rfl (any_of HT_.out (by kernel_rfl)) (fun _ _ _ h => h) (Or.inl ⟨by rfl, ?_⟩) ?_ ?_
                                  rotate_left
                                  · intro w'
                                    go_simp
                                    with_reducible rfl
                                  rotate_left
                                  · simp only [Act.put, List.setIfInBounds_toArray, List.set_cons_zero, List.set_cons_succ, i64_w, i32_w]
                                    rfl
                                  refine pure_ (i := 3) (N := some 57) (v := ?_) (a' := ?_) #[true, true, true, true, false, false, false, false, false, false, false, false, false] rfl rfl (any_of HT_.out (by kernel_rfl)) (fun _ _ _ h => h) (Or.inl ⟨by rfl, ?_⟩) ?_ ?_
                                  rotate_left
                                  · intro w'
                                    go_simp
                                    with_reducible rfl
                                  rotate_left
                                  · simp only [Act.put, List.setIfInBounds_toArray, List.set_cons_zero, List.set_cons_succ, i64_w, i32_w]
                                    rfl
                                  refine pure_ (i := 5) (N := some 59) (v := ?_) (a' := ?_) #[true, true, true, true, false, true, false, false, false, false, false, false, false] rfl rfl (any_of HT_.out (by kernel_rfl)) (fun _ _ _ h => h) (Or.inl ⟨by rfl, ?_⟩) ?_ ?_
                                  rotate_left
                                  · intro w'
                                    go_simp
                                    with_reducible rfl
                                  rotate_left
                                  · simp only [Act.put, List.setIfInBounds_toArray, List.set_cons_zero, List.set_cons_succ, i64_w, i32_w]
                                    rfl
                                  refine take_ (i := 4) (N := some 58) (v := ?_) (a' := ?_) #[true, true, true, true, true, true, false, false, false, false, false, false, false] rfl rfl (take_ofW HT_.out HW_.out (by kernel_rfl)) (fun _ _ _ h => h) (Or.inl ⟨by rfl, ?_⟩) hHeld ?_ ?_
                                  rotate_left
                                  · rintro w' ⟨s0, s1, s2, s3, s4, s5, s6, s7⟩
                                    go_simp
                                    with_reducible rfl
                                  rotate_left
                                  · simp only [Act.put, List.setIfInBounds_toArray, List.set_cons_zero, List.set_cons_succ, i64_w, i32_w]
                                    rfl
                                  refine take_ (i := 6) (N := some 60) (v := ?_) (a' := ?_) #[true, true, true, true, true, true, true, false, false, false, false, false, false] rfl rfl (take_ofW HT_.out HW_.out (by kernel_rfl)) (fun _ _ _ h => h) (Or.inl ⟨by rfl, ?_⟩) hHeld ?_ ?_
                                  rotate_left
                                  · rintro w' ⟨s0, s1, s2, s3, s4, s5, s6, s7⟩
                                    go_simp
                                    with_reducible rfl
                                  rotate_left
                                  · simp only [Act.put, List.setIfInBounds_toArray, List.set_cons_zero, List.set_cons_succ, i64_w, i32_w]
                                    rfl
                                  refine pure_ (i := 7) (N := some 61) (v := ?_) (a' := ?_) #[true, true, true, true, true, true, true, true, false, false, false, false, false] rfl rfl (any_of HT_.out (by kernel_rfl)) (fun _ _ _ h => h) (Or.inl ⟨by rfl, ?_⟩) ?_ ?_
                                  rotate_left
                                  · intro w'
                                    go_simp
                                    with_reducible rfl
                                  rotate_left
                                  · simp only [Act.put, List.setIfInBounds_toArray, List.set_cons_zero, List.set_cons_succ, i64_w, i32_w]
                                    rfl
                                  refine pure_ (i := 8) (N := some 62) (v := ?_) (a' := ?_) #[true, true, true, true, true, true, true, true, true, false, false, false, false] rfl rfl (any_of HT_.out (by kernel_rfl)) (fun _ _ _ h => h) (Or.inl ⟨by rfl, ?_⟩) ?_ ?_
                                  rotate_left
                                  · intro w'
                                    go_simp
                                    with_reducible rfl
                                  rotate_left
                                  · simp only [Act.put, List.setIfInBounds_toArray, List.set_cons_zero, List.set_cons_succ, i64_w, i32_w]
                                    rfl
                                  refine take_ (i := 9) (N := some 63) (v := ?_) (a' := ?_) #[true, true, true, true, true, true, true, true, true, true, false, false, false] rfl rfl (take_ofW HT_.out HW_.out (by kernel_rfl)) (fun _ _ _ h => h) (Or.inl ⟨by rfl, ?_⟩) hHeld ?_ ?_
                                  rotate_left
                                  · rintro w' ⟨s0, s1, s2, s3, s4, s5, s6, s7⟩
                                    go_simp
                                    with_reducible rfl
                                  rotate_left
                                  · simp only [Act.put, List.setIfInBounds_toArray, List.set_cons_zero, List.set_cons_succ, i64_w, i32_w]
                                    rfl
                                  refine pure_ (i := 10) (N := some 64) (v := ?_) (a' := ?_) #[true, true, true, true, true, true, true, true, true, true, true, false, false] rfl rfl (any_of HT_.out (by kernel_rfl)) (fun _ _ _ h => h) (Or.inl ⟨by rfl, ?_⟩) ?_ ?_
                                  rotate_left
                                  · intro w'
                                    go_simp
                                    with_reducible rfl
                                  rotate_left
                                  · simp only [Act.put, List.setIfInBounds_toArray, List.set_cons_zero, List.set_cons_succ, i64_w, i32_w]
                                    rfl
                                  refine pure_ (i := 11) (N := some 65) (v := ?_) (a' := ?_) #[true, true, true, true, true, true, true, true, true, true, true, true, false] rfl rfl (any_of HT_.out (by kernel_rfl)) (fun _ _ _ h => h) (Or.inl ⟨by rfl, ?_⟩) ?_ ?_
                                  rotate_left
                                  · intro w'
                                    go_simp
                                    with_reducible rfl
                                  rotate_left
                                  · simp only [Act.put, List.setIfInBounds_toArray, List.set_cons_zero, List.set_cons_succ, i64_w, i32_w]
                                    rfl
                                  refine last_ (i := 12) (N := none) #[true, true, true, true, true, true, true, true, true, true, true, true, true] rfl rfl (one_of HT_.out (by kernel_rfl)) (by decide) (fun K hK => ?_)
                                  refine skip_ (w1 := ?_) (by rfl) rfl ?_ ?_
                                  rotate_left
                                  · go_simp
                                    rfl
                                  refine hK.out _ _ ?_
                                  clear hK K
                                  refine done_ (done_of HT_.out (by kernel_rfl)) ?_
                                  try go_wp2
                                  have n0_ : Aside0 (Kd.V (Kd.int .i64) 3 (w38.setCell ⟨go35, ((ji32) : Int).toNat, none⟩ (.int .i64 (wrap64 ((rd x12_3 (ji32)) + 1)))) w.heap.size (fun k_ => some k_ ≠ (.slice (some ⟨go35, 0, none⟩) x12_3.length co39 : Value).ownBlock ∧ k_ ≠ gb541) (.slice (some ad552) t546.length co37) t546) := ⟨by (with_reducible repeat (first | apply Kd.V_alloc | apply Kd.V_drewN | apply Kd.V_drew)); exact Kd.V_mono (Kd.V_far (p := ⟨go35, ((ji32) : Int).toNat, none⟩) (Kd.V_mono HO_11.out (fun k_ hk => (⟨hk, fun e_ => hk.1 (by rw [e_]; rfl)⟩ : _ ∧ k_ ≠ go35))) (fun _ hk => hk.2) (.int .i64 (wrap64 ((rd x12_3 (ji32)) + 1)))) (fun _ hk => ⟨hk.1.1, hk.1.2⟩)⟩
                                  have n1_ : Aside0 (Kd.R (Kd.int .i64) 3 (w38.setCell ⟨go35, ((ji32) : Int).toNat, none⟩ (.int .i64 (wrap64 ((rd x12_3 (ji32)) + 1)))) w.heap.size (fun _ => True) (.slice (some ⟨go35, 0, none⟩) x12_3.length co39) y554) := ⟨by (with_reducible repeat (first | apply Kd.R_alloc | apply Kd.R_drewN | apply Kd.R_drew)); exact HQ40.out⟩
                                  have n2_ : Aside0 ((w38.setCell ⟨go35, ((ji32) : Int).toNat, none⟩ (.int .i64 (wrap64 ((rd x12_3 (ji32)) + 1)))).heap[gb541]? = some (.cells #[.int .i64 a0_0, .int .i64 a0_1, .int .i64 a0_2, .int .i64 a0_3, .int .i64 a0_4, .int .i64 a0_5] 23 (0, 0))) := ⟨by (with_reducible repeat (first | refine blk_drewN ?_ _ | refine blk_drew ?_ | refine blk_alloc ?_ _)); refine blk_far ?_ (by have h_ := Kd.R_ne HO_12.out BK541.out (by decide); intro e_; exact h_ (by rw [e_]; rfl)) _; (with_reducible repeat (first | refine blk_drewN ?_ _ | refine blk_drew ?_ | refine blk_alloc ?_ _)); exact BK541.out⟩
                                  have n3_ : Aside0 (Below w.heap.size w (w38.setCell ⟨go35, ((ji32) : Int).toNat, none⟩ (.int .i64 (wrap64 ((rd x12_3 (ji32)) + 1))))) := ⟨by repeat (first | (with_reducible first | exact HB.out | apply below_alloc | apply pw_below_drewN | apply below_drew1 | refine below_set ?_ GB35.out | refine below_set ?_ GE541.out) | exact HB.out)⟩
                                  (try clear HO_11)
                                  (try clear HO_12)
                                  (try clear BK541)
                                  (try clear HB)
                                  generalize (w38.setCell ⟨go35, ((ji32) : Int).toNat, none⟩ (.int .i64 (wrap64 ((rd x12_3 (ji32)) + 1)))) = w41 at n0_ n1_ n2_ n3_ ⊢
                                  have HO_11 := n0_
                                  have HO_12 := n1_
                                  have BK541 := n2_
                                  have HB := n3_
                                  clear n0_ n1_ n2_ n3_
                                  have n0_ := Aside0.mk (Kd.V_drew HO_11.out)
                                  have n1_ := Aside0.mk (Kd.R_drew HO_12.out)
                                  have n2_ := Aside0.mk (blk_drew BK541.out)
                                  have n3_ := Aside0.mk (below_drew1 HB.out)
                                  clear HO_11
                                  clear HO_12
                                  clear BK541
                                  clear HB
                                  have HO_11 := n0_
                                  have HO_12 := n1_
                                  have BK541 := n2_
                                  have HB := n3_
                                  clear n0_ n1_ n2_ n3_
                                  have p555 : 0 ≤ (x14_3 : Int) := of_decide_eq_true (by first | (with_reducible assumption) | assumption)
                                  have q555 : x14_3 < (t546.length : Int) := of_decide_eq_true (by first | (with_reducible assumption) | assumption)
                                  obtain ⟨ad555, e555, hx555_0⟩ := Kd.at_int (Kd.V_reads' HO_11.out).2.2 x14_3 p555 q555
                                  obtain rfl : ad552 = ad555 := (by injection e555)
                                  replace p555 := eq_true p555
                                  replace q555 := eq_true q555
                                  have p556 : 0 ≤ ((ji32) : Int) := of_decide_eq_true (by first | (with_reducible assumption) | assumption)
                                  have q556 : (ji32) < (y554.length : Int) := (by have h_ : ((ji32) : Int) < ((x12_3.length : Int) : Int) := of_decide_eq_true (by first | (with_reducible assumption) | assumption); first | (have e_ := (Kd.R_reads' HO_12.out).1; omega) | simpa only [Ny554.out, List.length_set] using h_)
                                  have ql556 : (((ji32) : Int) < ((x12_3.length : Int) : Int)) = True := eq_true (of_decide_eq_true (by first | (with_reducible assumption) | assumption))
                                  obtain ⟨ad556, e556, hx556_0⟩ := Kd.at_int (Kd.R_reads' HO_12.out).2.2 (ji32) p556 q556
                                  obtain rfl : (⟨go35, 0, none⟩ : Addr) = ad556 := (by injection e556)
                                  (first | simp only [add_plain] at hx556_0 | simp only [add_at] at hx556_0 | simp only [Addr.add, Nat.zero_add] at hx556_0 | skip)
                                  replace p556 := eq_true p556
                                  replace q556 := eq_true q556
                                  refine start_ (n := 13) (S := fun w' => w'.cell? ⟨gb541, 0, none⟩ = some (.int .i64 a0_0) ∧ w'.cell? ⟨gb541, 1, none⟩ = some (.int .i64 a0_1) ∧ w'.cell? ⟨gb541, 2, none⟩ = some (.int .i64 a0_2) ∧ w'.cell? ⟨gb541, 3, none⟩ = some (.int .i64 a0_3) ∧ w'.cell? ⟨gb541, 4, none⟩ = some (.int .i64 a0_4) ∧ w'.cell? ⟨gb541, 5, none⟩ = some (.int .i64 a0_5) ∧ w'.cell? (ad552.add (x14_3).toNat) = some (.int .i64 (rd t546 x14_3)) ∧ w'.cell? ⟨go35, ((ji32)).toNat, none⟩ = some (.int .i64 (rd y554 (ji32)))) (ds := []) #[false, false, false, false, false, false, false, false, false, false, false, false, false] (by kernel_rfl) rfl rfl ⟨(blk_cell BK541.out 0).trans rfl, (blk_cell BK541.out 1).trans rfl, (blk_cell BK541.out 2).trans rfl, (blk_cell BK541.out 3).trans rfl, (blk_cell BK541.out 4).trans rfl, (blk_cell BK541.out 5).trans rfl, hx555_0, hx556_0⟩ (fun hHeld => ?_); refine with_tabW solventlaw14_LayoutSpreadsOverRacks.tab16 solventlaw14_LayoutSpreadsOverRacks.bits16 (fun HT_ HW_ => ?_)
                                  generalize w41.drew = w42 at HO_11 HO_12 BK541 HB HQ40 hx555_0 hx556_0 hHeld ⊢
                                  refine pure_ (i := 0) (N := some 66) (v := ?_) (a' := ?_) #[true, false, false, false, false, false, false, false, false, false, false, false, false] rfl rfl (any_of HT_.out (by kernel_rfl)) (fun _ _ _ h => h) (Or.inl ⟨by rfl, ?_⟩) ?_ ?_
                                  rotate_left
                                  · intro w'
                                    go_simp
                                    with_reducible rfl
                                  rotate_left
                                  · simp only [Act.put, List.setIfInBounds_toArray, List.set_cons_zero, List.set_cons_succ, i64_w, i32_w]
                                    rfl
                                  refine pure_ (i := 1) (N := some 67) (v := ?_) (a' := ?_) #[true, true, false, false, false, false, false, false, false, false, false, false, false] rfl rfl (any_of HT_.out (by kernel_rfl)) (fun _ _ _ h => h) (Or.inl ⟨by rfl, ?_⟩) ?_ ?_
                                  rotate_left
                                  · intro w'
                                    go_simp
                                    with_reducible rfl
                                  rotate_left
                                  · simp only [Act.put, List.setIfInBounds_toArray, List.set_cons_zero, List.set_cons_succ, i64_w, i32_w]
                                    rfl
                                  refine pure_ (i := 2) (N := some 68) (v := ?_) (a' := ?_) #[true, true, true, false, false, false, false, false, false, false, false, false, false] rfl rfl (any_of HT_.out (by kernel_rfl)) (fun _ _ _ h => h) (Or.inl ⟨by rfl, ?_⟩) ?_ ?_
                                  rotate_left
                                  · intro w'
                                    go_simp
                                    with_reducible rfl
                                  rotate_left
                                  · simp only [Act.put, List.setIfInBounds_toArray, List.set_cons_zero, List.set_cons_succ, i64_w, i32_w]
                                    rfl
                                  refine pure_ (i := 3) (N := some 69) (v := ?_) (a' := ?_) #[true, true, true, true, false, false, false, false, false, false, false, false, false] rfl rfl (any_of HT_.out (by kernel_rfl)) (fun _ _ _ h => h) (Or.inl ⟨by rfl, ?_⟩) ?_ ?_
                                  rotate_left
                                  · intro w'
                                    go_simp
                                    with_reducible rfl
                                  rotate_left
                                  · simp only [Act.put, List.setIfInBounds_toArray, List.set_cons_zero, List.set_cons_succ, i64_w, i32_w]
                                    rfl
                                  refine pure_ (i := 4) (N := some 70) (v := ?_) (a' := ?_) #[true, true, true, true, true, false, false, false, false, false, false, false, false] rfl rfl (any_of HT_.out (by kernel_rfl)) (fun _ _ _ h => h) (Or.inl ⟨by rfl, ?_⟩) ?_ ?_
                                  rotate_left
                                  · intro w'
                                    go_simp
                                    with_reducible rfl
                                  rotate_left
                                  · simp only [Act.put, List.setIfInBounds_toArray, List.set_cons_zero, List.set_cons_succ, i64_w, i32_w]
                                    rfl
                                  refine pure_ (i := 6) (N := some 72) (v := ?_) (a' := ?_) #[true, true, true, true, true, false, true, false, false, false, false, false, false] rfl rfl (any_of HT_.out (by kernel_rfl)) (fun _ _ _ h => h) (Or.inl ⟨by rfl, ?_⟩) ?_ ?_
                                  rotate_left
                                  · intro w'
                                    go_simp
                                    with_reducible rfl
                                  rotate_left
                                  · simp only [Act.put, List.setIfInBounds_toArray, List.set_cons_zero, List.set_cons_succ, i64_w, i32_w]
                                    rfl
                                  refine take_ (i := 5) (N := some 71) (v := ?_) (a' := ?_) #[true, true, true, true, true, true, true, false, false, false, false, false, false] rfl rfl (take_ofW HT_.out HW_.out (by kernel_rfl)) (fun _ _ _ h => h) (Or.inl ⟨by rfl, ?_⟩) hHeld ?_ ?_
                                  rotate_left
                                  · rintro w' ⟨s0, s1, s2, s3, s4, s5, s6, s7⟩
                                    go_simp
                                    with_reducible rfl
                                  rotate_left
                                  · simp only [Act.put, List.setIfInBounds_toArray, List.set_cons_zero, List.set_cons_succ, i64_w, i32_w]
                                    rfl
                                  refine take_ (i := 7) (N := some 73) (v := ?_) (a' := ?_) #[true, true, true, true, true, true, true, true, false, false, false, false, false] rfl rfl (take_ofW HT_.out HW_.out (by kernel_rfl)) (fun _ _ _ h => h) (Or.inl ⟨by rfl, ?_⟩) hHeld ?_ ?_
                                  rotate_left
                                  · rintro w' ⟨s0, s1, s2, s3, s4, s5, s6, s7⟩
                                    go_simp
                                    with_reducible rfl
                                  rotate_left
                                  · simp only [Act.put, List.setIfInBounds_toArray, List.set_cons_zero, List.set_cons_succ, i64_w, i32_w]
                                    rfl
                                  refine pure_ (i := 8) (N := some 74) (v := ?_) (a' := ?_) #[true, true, true, true, true, true, true, true, true, false, false, false, false] rfl rfl (any_of HT_.out (by kernel_rfl)) (fun _ _ _ h => h) (Or.inl ⟨by rfl, ?_⟩) ?_ ?_
                                  rotate_left
                                  · intro w'
                                    go_simp
                                    with_reducible rfl
                                  rotate_left
                                  · simp only [Act.put, List.setIfInBounds_toArray, List.set_cons_zero, List.set_cons_succ, i64_w, i32_w]
                                    rfl
                                  refine pure_ (i := 9) (N := some 75) (v := ?_) (a' := ?_) #[true, true, true, true, true, true, true, true, true, true, false, false, false] rfl rfl (any_of HT_.out (by kernel_rfl)) (fun _ _ _ h => h) (Or.inl ⟨by rfl, ?_⟩) ?_ ?_
                                  rotate_left
                                  · intro w'
                                    go_simp
                                    with_reducible rfl
                                  rotate_left
                                  · simp only [Act.put, List.setIfInBounds_toArray, List.set_cons_zero, List.set_cons_succ, i64_w, i32_w]
                                    rfl
                                  refine take_ (i := 10) (N := some 76) (v := ?_) (a' := ?_) #[true, true, true, true, true, true, true, true, true, true, true, false, false] rfl rfl (take_ofW HT_.out HW_.out (by kernel_rfl)) (fun _ _ _ h => h) (Or.inl ⟨by rfl, ?_⟩) hHeld ?_ ?_
                                  rotate_left
                                  · rintro w' ⟨s0, s1, s2, s3, s4, s5, s6, s7⟩
                                    go_simp
                                    with_reducible rfl
                                  rotate_left
                                  · simp only [Act.put, List.setIfInBounds_toArray, List.set_cons_zero, List.set_cons_succ, i64_w, i32_w]
                                    rfl
                                  refine pure_ (i := 11) (N := some 77) (v := ?_) (a' := ?_) #[true, true, true, true, true, true, true, true, true, true, true, true, false] rfl rfl (any_of HT_.out (by kernel_rfl)) (fun _ _ _ h => h) (Or.inl ⟨by rfl, ?_⟩) ?_ ?_
                                  rotate_left
                                  · intro w'
                                    go_simp
                                    with_reducible rfl
                                  rotate_left
                                  · simp only [Act.put, List.setIfInBounds_toArray, List.set_cons_zero, List.set_cons_succ, i64_w, i32_w]
                                    rfl
                                  refine pure_ (i := 12) (N := some 13) (v := ?_) (a' := ?_) #[true, true, true, true, true, true, true, true, true, true, true, true, true] rfl rfl (any_of HT_.out (by kernel_rfl)) (fun _ _ _ h => h) (Or.inl ⟨by rfl, ?_⟩) ?_ ?_
                                  rotate_left
                                  · intro w'
                                    go_simp
                                    with_reducible rfl
                                  rotate_left
                                  · simp only [Act.put, List.setIfInBounds_toArray, List.set_cons_zero, List.set_cons_succ, i64_w, i32_w]
                                    rfl
                                  refine done_ (done_of HT_.out (by kernel_rfl)) ?_
                                  try go_wp2
                                  go_roundg k3
                                  case measure => have := HJ4.out; have := HK2.out; have := HK3.out; omega
                                  case rel => exact ⟨(y554), (ji36), (wrap64 (x14_3 + 1)), (by first | rfl | (simp; done) | (simp only [← hji36] <;> (first | rfl | simp)) | (simp [*]; done)), (by first | rfl | (simp; done) | (simp [*]; done)), H', ⟨by have := HJ4.out; have := HK2.out; have := HK3.out; omega⟩, ⟨by (with_reducible repeat (first | apply Kd.V_alloc | apply Kd.V_drewN | apply Kd.V_drew)); exact HO_11.out⟩, ⟨by (with_reducible repeat (first | apply Kd.R_alloc | apply Kd.R_drewN | apply Kd.R_drew)); exact HO_12.out⟩, ⟨by (with_reducible repeat (first | refine blk_drewN ?_ _ | refine blk_drew ?_ | refine blk_alloc ?_ _)); exact BK541.out⟩, ⟨by repeat (first | (with_reducible first | exact HB.out | apply below_alloc | apply pw_below_drewN | apply below_drew1 | refine below_set ?_ GE541.out) | exact HB.out)⟩⟩
                                · rw [if_neg c34] at H
                                  exact absurd H (by simp)
                              · rw [if_neg c33] at H
                                exact absurd H (by simp)
                          · rw [if_neg c30] at H
                            exact absurd H (by simp)
                        · rw [if_neg c29] at H
                          have c29b0 : decide (x14_3 < (t546.length : Int)) = false := decide_eq_false c29
                          clear c29
                          by_cases c43 : x13_3 = t544
                          · rw [if_pos c43] at H
                            have c43b0 : (x13_3 == t544) = true := beq_iff_eq.mpr c43
                            have c43b1 : (x13_3 != t544) = false := bne_eq_false_iff_eq.mpr c43
                            clear c43
                            have H' := Aside0.mk H
                            clear H
                            obtain ⟨Ao44, co44, eo44⟩ := Kd.V_slice HO_11.out
                            subst eo44
                            go_wp2
                            go_roundg k3
                            case measure => have := HJ4.out; have := HK2.out; have := HK3.out; omega
                            case rel => exact ⟨(wrap64 (x10_2 + 1)), (by first | rfl | (simp; done) | (simp [*]; done)), H', ⟨by have := HJ4.out; have := HK2.out; have := HK3.out; omega⟩, ⟨by (with_reducible repeat (first | refine blk_drewN ?_ _ | refine blk_drew ?_ | refine blk_alloc ?_ _)); exact BK541.out⟩, ⟨by repeat (first | (with_reducible first | exact HB.out | apply below_alloc | apply pw_below_drewN | apply below_drew1 | refine below_set ?_ GE541.out) | exact HB.out)⟩⟩
                          · rw [if_neg c43] at H
                            exact absurd H (by simp)
                  · rw [if_neg c21] at H
                    exact absurd H (by simp)
                · rw [if_neg c20] at H
                  exact absurd H (by simp)
              · rw [if_neg c18] at H
                have c18b0 : decide (x10_2 < t545) = false := decide_eq_false c18
                clear c18
                obtain rfl := Option.some.inj H
                have hcz45_0 : wr.cell? ⟨gb541, 0, none⟩ = some (.int .i64 a0_0) := (blk_cell BK541.out 0).trans rfl
                have hcz45_1 : wr.cell? ⟨gb541, 1, none⟩ = some (.int .i64 a0_1) := (blk_cell BK541.out 1).trans rfl
                have hcz45_2 : wr.cell? ⟨gb541, 2, none⟩ = some (.int .i64 a0_2) := (blk_cell BK541.out 2).trans rfl
                have hcz45_3 : wr.cell? ⟨gb541, 3, none⟩ = some (.int .i64 a0_3) := (blk_cell BK541.out 3).trans rfl
                have hcz45_4 : wr.cell? ⟨gb541, 4, none⟩ = some (.int .i64 a0_4) := (blk_cell BK541.out 4).trans rfl
                have hcz45_5 : wr.cell? ⟨gb541, 5, none⟩ = some (.int .i64 a0_5) := (blk_cell BK541.out 5).trans rfl
                have hfz45_0 := blk_frozen BK541.out 0
                have hfz45_1 := blk_frozen BK541.out 1
                have hfz45_2 := blk_frozen BK541.out 2
                have hfz45_3 := blk_frozen BK541.out 3
                have hfz45_4 := blk_frozen BK541.out 4
                have hfz45_5 := blk_frozen BK541.out 5
                go_wp2_with (first | ((with_reducible refine gate_callee (f := 32) rfl ?_); refine goesL_ (some 36) rfl rfl Try.func32 (by kernel_rfl) rfl #[.agg #[.int .i64 a0_0, .int .i64 a0_1, .int .i64 a0_2, .int .i64 a0_3, .int .i64 a0_4, .int .i64 a0_5], .int .i64 a1] rfl (by (try simp only [List.map_toArray, List.map_cons, List.map_nil]); first | done | rfl | (simp only [List.length_drop, List.length_take]; rfl)) ?_; (with_reducible refine (layout_Groups.calls k2 a0_0 a0_1 a0_2 a0_3 a0_4 a0_5 a1 t545 _ A17.out).mono ?_); rintro e w46 ⟨rfl, hb⟩; refine ⟨_, rfl, ?_⟩; have n0_ := Aside0.mk (blk_below (g := gb541) (o := .cells #[.int .i64 a0_0, .int .i64 a0_1, .int .i64 a0_2, .int .i64 a0_3, .int .i64 a0_4, .int .i64 a0_5] 23 (0, 0)) (by (with_reducible repeat (first | refine blk_drewN ?_ _ | refine blk_drew ?_ | refine blk_alloc ?_ _)); exact BK541.out) hb); have n1_ := Aside0.mk (below_step (by repeat (first | (with_reducible first | exact HB.out | apply below_alloc | apply pw_below_drewN | apply below_drew1 | refine below_set ?_ GE541.out) | exact HB.out)) hb); clear BK541; clear HB; have BK541 := n0_; have HB := n1_; clear n0_ n1_; (try clear hb); (try clear hb2); (try clear hk); (try clear hi)))
                go_ret
                exact ⟨by first | rfl | (simp [errW_none, errW_some] <;> rfl) | (simp [*, errW_none, errW_some] <;> rfl), by repeat (first | (with_reducible first | exact HB.out | apply below_alloc | apply pw_below_drewN | apply below_drew1 | refine below_set ?_ GE541.out) | exact HB.out)⟩

end Go.Proofs.Ytiejibkjhmmpaaa.Q
