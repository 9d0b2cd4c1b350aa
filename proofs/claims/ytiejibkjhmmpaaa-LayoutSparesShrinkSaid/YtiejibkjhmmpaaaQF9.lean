/- Printed by a program of this session (wip/tools) out of the translation: Lean functions that answer as the Go functions do, and the proofs of that; turned by hand where the program calls closures or cuts with three indexes. -/
import Derived.Test.YtiejibkjhmmpaaaQ0
import Derived.Test.YtiejibkjhmmpaaaQC
import Derived.Test.YtiejibkjhmmpaaaQL
import Derived.Test.YtiejibkjhmmpaaaQP
import Derived.Test.YtiejibkjhmmpaaaQU
namespace Go.Proofs.Ytiejibkjhmmpaaa.Q
open Go.RowKit Go.Proofs.YtiejibkjhmmpaaaW.PrintWords Go.Proofs.YtiejibkjhmmpaaaW.PrintLast Go.Proofs.YtiejibkjhmmpaaaW.PrintMore
attribute [local go_sem] max2_int min2_int max_two min_two max_three min_three max_four min_four   -- for this text's walks alone
set_option linter.unusedVariables false
set_option linter.unusedSimpArgs false

/-! ### solventlaw14_LayoutSparesShrink: function 9 -/
mutual
def solventlaw14_LayoutSparesShrink.j0 : Nat → Int → Int → Bool → Bool → Int → Int → Int → Int → Int → Int → Option (Bool)
  | 0, _, _, _, _, _, _, _, _, _, _ => none
  | k + 1, x1, x2, x7, x32, x519000, x519001, x519002, x519003, x519004, x519005 => if x32 = true then (some x7) else (if x519002 = 0 then (none) else ((layout_Spares.f k x519000 x519001 x519002 x519003 x519004 x519005 (Int.tmod (wrap64 (x2)) x519002) x1).bind fun t522 => (solventlaw14_LayoutSparesShrink.l0 k x1 x7 (Int.tmod (wrap64 (x2)) x519002) t522 0 x519000 x519001 x519002 x519003 x519004 x519005 x519000 x519001 x519002 (wrap64 (x519003 + 1)) x519004 x519005)))
def solventlaw14_LayoutSparesShrink.l0 : Nat → Int → Bool → Int → List Int → Int → Int → Int → Int → Int → Int → Int → Int → Int → Int → Int → Int → Int → Option (Bool)
  | 0, _, _, _, _, _, _, _, _, _, _, _, _, _, _, _, _, _ => none
  | k + 1, x1, x7, x8, x10, x11, x519000, x519001, x519002, x519003, x519004, x519005, x522000, x522001, x522002, x522003, x522004, x522005 => if x11 < (x10.length : Int) then (if 0 ≤ x11 then ((layout_Find.f k x522000 x522001 x522002 x522003 x522004 x522005 x8 x1 (rd x10 x11)).bind fun bt526 => (if bt526.2.2.2 = 12 then (solventlaw14_LayoutSparesShrink.l0 k x1 x7 x8 x10 (wrap64 (x11 + 1)) x519000 x519001 x519002 x519003 x519004 x519005 x522000 x522001 x522002 x522003 x522004 x522005) else (none))) else (none)) else (solventlaw14_LayoutSparesShrink.l1 k x1 x7 x8 0 x519000 x519001 x519002 x519003 x519004 x519005 x522000 x522001 x522002 x522003 x522004 x522005)
def solventlaw14_LayoutSparesShrink.l1 : Nat → Int → Bool → Int → Int → Int → Int → Int → Int → Int → Int → Int → Int → Int → Int → Int → Int → Option (Bool)
  | 0, _, _, _, _, _, _, _, _, _, _, _, _, _, _, _, _ => none
  | k + 1, x1, x7, x8, x14, x519000, x519001, x519002, x519003, x519004, x519005, x522000, x522001, x522002, x522003, x522004, x522005 => (layout_Groups.f k x522000 x522001 x522002 x522003 x522004 x522005 x1).bind fun t531 => (if x14 < t531 then ((layout_Place.f k x519000 x519001 x519002 x519003 x519004 x519005 x8 x1 x14).bind fun t534 => ((layout_Place.f k x522000 x522001 x522002 x522003 x522004 x522005 x8 x1 x14).bind fun t537 => ((solventref13_Same.f k t534 t537).bind fun t540 => (if t540 = true then (solventlaw14_LayoutSparesShrink.l1 k x1 x7 x8 (wrap64 (x14 + 1)) x519000 x519001 x519002 x519003 x519004 x519005 x522000 x522001 x522002 x522003 x522004 x522005) else (none))))) else (if x7 = true then ((layout_Groups.f k x522000 x522001 x522002 x522003 x522004 x522005 x1).bind fun t532 => ((layout_Groups.f k x519000 x519001 x519002 x519003 x519004 x519005 x1).bind fun t533 => (some (decide (t532 ≤ t533))))) else (none)))
end
def solventlaw14_LayoutSparesShrink.f (k : Nat) (a0_0 : Int) (a0_1 : Int) (a0_2 : Int) (a0_3 : Int) (a0_4 : Int) (a0_5 : Int) (a1 : Int) (a2 : Int) : Option (Bool) := (solventlaw14_sanity.f k).bind fun t519 => (if t519 = true then ((solventlaw14_proper.f k a0_0 a0_1 a0_2 a0_3 a0_4 a0_5 a1).bind fun t520 => (if t520 = true then (solventlaw14_LayoutSparesShrink.j0 k a1 a2 t519 (decide ((wrap64 (a0_3 + 1)) ≥ a0_0)) a0_0 a0_1 a0_2 a0_3 a0_4 a0_5) else (solventlaw14_LayoutSparesShrink.j0 k a1 a2 t519 true a0_0 a0_1 a0_2 a0_3 a0_4 a0_5))) else (solventlaw14_LayoutSparesShrink.j0 k a1 a2 t519 true a0_0 a0_1 a0_2 a0_3 a0_4 a0_5))
theorem solventlaw14_LayoutSparesShrink.mono_l : ∀ k, (∀ y0 y1 y2 y3 y4 y5 y6 y7 y8 y9, LeO (solventlaw14_LayoutSparesShrink.j0 k y0 y1 y2 y3 y4 y5 y6 y7 y8 y9) (solventlaw14_LayoutSparesShrink.j0 (k + 1) y0 y1 y2 y3 y4 y5 y6 y7 y8 y9)) ∧ (∀ y0 y1 y2 y3 y4 y5 y6 y7 y8 y9 y10 y11 y12 y13 y14 y15 y16, LeO (solventlaw14_LayoutSparesShrink.l0 k y0 y1 y2 y3 y4 y5 y6 y7 y8 y9 y10 y11 y12 y13 y14 y15 y16) (solventlaw14_LayoutSparesShrink.l0 (k + 1) y0 y1 y2 y3 y4 y5 y6 y7 y8 y9 y10 y11 y12 y13 y14 y15 y16)) ∧ (∀ y0 y1 y2 y3 y4 y5 y6 y7 y8 y9 y10 y11 y12 y13 y14 y15, LeO (solventlaw14_LayoutSparesShrink.l1 k y0 y1 y2 y3 y4 y5 y6 y7 y8 y9 y10 y11 y12 y13 y14 y15) (solventlaw14_LayoutSparesShrink.l1 (k + 1) y0 y1 y2 y3 y4 y5 y6 y7 y8 y9 y10 y11 y12 y13 y14 y15))
  | 0 => ⟨fun _ _ _ _ _ _ _ _ _ _ r h => by simp [solventlaw14_LayoutSparesShrink.j0] at h, fun _ _ _ _ _ _ _ _ _ _ _ _ _ _ _ _ _ r h => by simp [solventlaw14_LayoutSparesShrink.l0] at h, fun _ _ _ _ _ _ _ _ _ _ _ _ _ _ _ _ r h => by simp [solventlaw14_LayoutSparesShrink.l1] at h⟩
  | k + 1 => by
    obtain ⟨ih0, ih1, ih2⟩ := solventlaw14_LayoutSparesShrink.mono_l k
    refine ⟨?_, ?_, ?_⟩
    · intro y0 y1 y2 y3 y4 y5 y6 y7 y8 y9
      unfold solventlaw14_LayoutSparesShrink.j0
      repeat' first
      | (with_reducible exact ih0 _ _ _ _ _ _ _ _ _ _)
      | (with_reducible exact ih1 _ _ _ _ _ _ _ _ _ _ _ _ _ _ _ _ _)
      | (with_reducible exact ih2 _ _ _ _ _ _ _ _ _ _ _ _ _ _ _ _)
      | (with_reducible exact layout_Find.mono _ _ _ _ _ _ _ _ _ _)
      | (with_reducible exact layout_Groups.mono _ _ _ _ _ _ _ _)
      | (with_reducible exact layout_Place.mono _ _ _ _ _ _ _ _ _ _)
      | (with_reducible exact layout_Spares.mono _ _ _ _ _ _ _ _ _)
      | (with_reducible exact solventlaw14_proper.mono _ _ _ _ _ _ _ _)
      | (with_reducible exact solventlaw14_sanity.mono _)
      | (with_reducible exact solventref13_Same.mono _ _ _)
      | (with_reducible exact LeO.refl _)
      | (with_reducible exact LeO.none _)
      | (with_reducible refine LeO.ite ?_ ?_)
      | (with_reducible refine LeO.bind ?_ (fun _ => ?_))
      | exact ih0 _ _ _ _ _ _ _ _ _ _
      | exact ih1 _ _ _ _ _ _ _ _ _ _ _ _ _ _ _ _ _
      | exact ih2 _ _ _ _ _ _ _ _ _ _ _ _ _ _ _ _
      | exact layout_Find.mono _ _ _ _ _ _ _ _ _ _
      | exact layout_Groups.mono _ _ _ _ _ _ _ _
      | exact layout_Place.mono _ _ _ _ _ _ _ _ _ _
      | exact layout_Spares.mono _ _ _ _ _ _ _ _ _
      | exact solventlaw14_proper.mono _ _ _ _ _ _ _ _
      | exact solventlaw14_sanity.mono _
      | exact solventref13_Same.mono _ _ _
      | exact LeO.none _
      | refine LeO.ite ?_ ?_
      | refine LeO.bind ?_ (fun _ => ?_)
    · intro y0 y1 y2 y3 y4 y5 y6 y7 y8 y9 y10 y11 y12 y13 y14 y15 y16
      unfold solventlaw14_LayoutSparesShrink.l0
      repeat' first
      | (with_reducible exact ih0 _ _ _ _ _ _ _ _ _ _)
      | (with_reducible exact ih1 _ _ _ _ _ _ _ _ _ _ _ _ _ _ _ _ _)
      | (with_reducible exact ih2 _ _ _ _ _ _ _ _ _ _ _ _ _ _ _ _)
      | (with_reducible exact layout_Find.mono _ _ _ _ _ _ _ _ _ _)
      | (with_reducible exact layout_Groups.mono _ _ _ _ _ _ _ _)
      | (with_reducible exact layout_Place.mono _ _ _ _ _ _ _ _ _ _)
      | (with_reducible exact layout_Spares.mono _ _ _ _ _ _ _ _ _)
      | (with_reducible exact solventlaw14_proper.mono _ _ _ _ _ _ _ _)
      | (with_reducible exact solventlaw14_sanity.mono _)
      | (with_reducible exact solventref13_Same.mono _ _ _)
      | (with_reducible exact LeO.refl _)
      | (with_reducible exact LeO.none _)
      | (with_reducible refine LeO.ite ?_ ?_)
      | (with_reducible refine LeO.bind ?_ (fun _ => ?_))
      | exact ih0 _ _ _ _ _ _ _ _ _ _
      | exact ih1 _ _ _ _ _ _ _ _ _ _ _ _ _ _ _ _ _
      | exact ih2 _ _ _ _ _ _ _ _ _ _ _ _ _ _ _ _
      | exact layout_Find.mono _ _ _ _ _ _ _ _ _ _
      | exact layout_Groups.mono _ _ _ _ _ _ _ _
      | exact layout_Place.mono _ _ _ _ _ _ _ _ _ _
      | exact layout_Spares.mono _ _ _ _ _ _ _ _ _
      | exact solventlaw14_proper.mono _ _ _ _ _ _ _ _
      | exact solventlaw14_sanity.mono _
      | exact solventref13_Same.mono _ _ _
      | exact LeO.none _
      | refine LeO.ite ?_ ?_
      | refine LeO.bind ?_ (fun _ => ?_)
    · intro y0 y1 y2 y3 y4 y5 y6 y7 y8 y9 y10 y11 y12 y13 y14 y15
      unfold solventlaw14_LayoutSparesShrink.l1
      repeat' first
      | (with_reducible exact ih0 _ _ _ _ _ _ _ _ _ _)
      | (with_reducible exact ih1 _ _ _ _ _ _ _ _ _ _ _ _ _ _ _ _ _)
      | (with_reducible exact ih2 _ _ _ _ _ _ _ _ _ _ _ _ _ _ _ _)
      | (with_reducible exact layout_Find.mono _ _ _ _ _ _ _ _ _ _)
      | (with_reducible exact layout_Groups.mono _ _ _ _ _ _ _ _)
      | (with_reducible exact layout_Place.mono _ _ _ _ _ _ _ _ _ _)
      | (with_reducible exact layout_Spares.mono _ _ _ _ _ _ _ _ _)
      | (with_reducible exact solventlaw14_proper.mono _ _ _ _ _ _ _ _)
      | (with_reducible exact solventlaw14_sanity.mono _)
      | (with_reducible exact solventref13_Same.mono _ _ _)
      | (with_reducible exact LeO.refl _)
      | (with_reducible exact LeO.none _)
      | (with_reducible refine LeO.ite ?_ ?_)
      | (with_reducible refine LeO.bind ?_ (fun _ => ?_))
      | exact ih0 _ _ _ _ _ _ _ _ _ _
      | exact ih1 _ _ _ _ _ _ _ _ _ _ _ _ _ _ _ _ _
      | exact ih2 _ _ _ _ _ _ _ _ _ _ _ _ _ _ _ _
      | exact layout_Find.mono _ _ _ _ _ _ _ _ _ _
      | exact layout_Groups.mono _ _ _ _ _ _ _ _
      | exact layout_Place.mono _ _ _ _ _ _ _ _ _ _
      | exact layout_Spares.mono _ _ _ _ _ _ _ _ _
      | exact solventlaw14_proper.mono _ _ _ _ _ _ _ _
      | exact solventlaw14_sanity.mono _
      | exact solventref13_Same.mono _ _ _
      | exact LeO.none _
      | refine LeO.ite ?_ ?_
      | refine LeO.bind ?_ (fun _ => ?_)
theorem solventlaw14_LayoutSparesShrink.mono : ∀ a0 a1 a2 a3 a4 a5 a6 a7 k, LeO (solventlaw14_LayoutSparesShrink.f k a0 a1 a2 a3 a4 a5 a6 a7) (solventlaw14_LayoutSparesShrink.f (k + 1) a0 a1 a2 a3 a4 a5 a6 a7) := by
  intro a0 a1 a2 a3 a4 a5 a6 a7 k
  obtain ⟨ih0, ih1, ih2⟩ := solventlaw14_LayoutSparesShrink.mono_l k
  unfold solventlaw14_LayoutSparesShrink.f
  repeat' first
      | (with_reducible exact ih0 _ _ _ _ _ _ _ _ _ _)
      | (with_reducible exact ih1 _ _ _ _ _ _ _ _ _ _ _ _ _ _ _ _ _)
      | (with_reducible exact ih2 _ _ _ _ _ _ _ _ _ _ _ _ _ _ _ _)
      | (with_reducible exact layout_Find.mono _ _ _ _ _ _ _ _ _ _)
      | (with_reducible exact layout_Groups.mono _ _ _ _ _ _ _ _)
      | (with_reducible exact layout_Place.mono _ _ _ _ _ _ _ _ _ _)
      | (with_reducible exact layout_Spares.mono _ _ _ _ _ _ _ _ _)
      | (with_reducible exact solventlaw14_proper.mono _ _ _ _ _ _ _ _)
      | (with_reducible exact solventlaw14_sanity.mono _)
      | (with_reducible exact solventref13_Same.mono _ _ _)
      | (with_reducible exact LeO.refl _)
      | (with_reducible exact LeO.none _)
      | (with_reducible refine LeO.ite ?_ ?_)
      | (with_reducible refine LeO.bind ?_ (fun _ => ?_))
      | exact ih0 _ _ _ _ _ _ _ _ _ _
      | exact ih1 _ _ _ _ _ _ _ _ _ _ _ _ _ _ _ _ _
      | exact ih2 _ _ _ _ _ _ _ _ _ _ _ _ _ _ _ _
      | exact layout_Find.mono _ _ _ _ _ _ _ _ _ _
      | exact layout_Groups.mono _ _ _ _ _ _ _ _
      | exact layout_Place.mono _ _ _ _ _ _ _ _ _ _
      | exact layout_Spares.mono _ _ _ _ _ _ _ _ _
      | exact solventlaw14_proper.mono _ _ _ _ _ _ _ _
      | exact solventlaw14_sanity.mono _
      | exact solventref13_Same.mono _ _ _
      | exact LeO.none _
      | refine LeO.ite ?_ ?_
      | refine LeO.bind ?_ (fun _ => ?_)
def solventlaw14_LayoutSparesShrink.T11 : Bool × List (List Nat × List Nat) := (true, [([], []), ([], []), ([], []), ([], []), ([], []), ([3, 4], [3, 4]), ([5], [5]), ([0, 1, 2, 6], [0, 1, 2, 6]), ([7], [7]), ([8], [8]), ([8], [8]), ([], []), ([11, 9, 7, 0, 1, 2, 3, 4, 5, 6, 7, 8, 9, 11], [9, 11]), ([10, 12, 0, 1, 2, 3, 4, 5, 6, 7, 8, 9, 10, 11, 12], [10])])
def solventlaw14_LayoutSparesShrink.B11 : List Nat := [0, 0, 0, 0, 0, 24, 56, 127, 255, 511, 511, 0, 3071, 8191]
theorem solventlaw14_LayoutSparesShrink.tab11 : rtab .any (opsOf Try.f9 11) = solventlaw14_LayoutSparesShrink.T11 := by kernel_rfl
theorem solventlaw14_LayoutSparesShrink.bits11 : waitsOk solventlaw14_LayoutSparesShrink.T11.2 solventlaw14_LayoutSparesShrink.B11 = true := by kernel_rfl
def solventlaw14_LayoutSparesShrink.T17 : Bool × List (List Nat × List Nat) := (true, [([], []), ([], []), ([], []), ([], []), ([0, 1, 2, 3], [0, 1, 2, 3]), ([], []), ([], []), ([], []), ([], []), ([5, 6, 7, 8, 4], [5, 6, 7, 8]), ([4, 9, 9], [4, 9]), ([10, 10, 0, 1, 2, 3, 4, 5, 6, 7, 8, 9, 10], [10])])
def solventlaw14_LayoutSparesShrink.B17 : List Nat := [0, 0, 0, 0, 15, 0, 0, 0, 0, 511, 1023, 2047]
theorem solventlaw14_LayoutSparesShrink.tab17 : rtab .any (opsOf Try.f9 17) = solventlaw14_LayoutSparesShrink.T17 := by kernel_rfl
theorem solventlaw14_LayoutSparesShrink.bits17 : waitsOk solventlaw14_LayoutSparesShrink.T17.2 solventlaw14_LayoutSparesShrink.B17 = true := by kernel_rfl
def solventlaw14_LayoutSparesShrink.T20 : Bool × List (List Nat × List Nat) := (true, [([], []), ([0], [0]), ([1], [1]), ([1], [1]), ([2, 3, 1, 1], [1, 2, 3]), ([1], [1]), ([1], [1]), ([5, 6, 4, 1], [1, 5, 6]), ([4, 7, 1], [1, 4, 7]), ([1, 8], [1, 8]), ([9, 7, 0, 1, 2, 3, 4, 5, 6, 7, 8, 9], [9])])
def solventlaw14_LayoutSparesShrink.B20 : List Nat := [0, 1, 3, 3, 15, 3, 3, 127, 255, 511, 1023]
theorem solventlaw14_LayoutSparesShrink.tab20 : rtab .any (opsOf Try.f9 20) = solventlaw14_LayoutSparesShrink.T20 := by kernel_rfl
theorem solventlaw14_LayoutSparesShrink.bits20 : waitsOk solventlaw14_LayoutSparesShrink.T20.2 solventlaw14_LayoutSparesShrink.B20 = true := by kernel_rfl
set_option maxHeartbeats 8000000 in
set_option maxRecDepth 100000 in
theorem solventlaw14_LayoutSparesShrink.calls (k : Nat) (a0_0 : Int) (a0_1 : Int) (a0_2 : Int) (a0_3 : Int) (a0_4 : Int) (a0_5 : Int) (a1 : Int) (a2 : Int) (r : Bool) (w : World) (h : solventlaw14_LayoutSparesShrink.f k a0_0 a0_1 a0_2 a0_3 a0_4 a0_5 a1 a2 = some r) :
    Calls Try.prog 9 #[.agg #[.int .i64 a0_0, .int .i64 a0_1, .int .i64 a0_2, .int .i64 a0_3, .int .i64 a0_4, .int .i64 a0_5], .int .i64 a1, .int .u16 a2] w fun e w' => e = .returned (.bool r) ∧ Below w.heap.size w w' := by
  have hu23 := Try.underlying23
  have hu45 := Try.underlying45
  have HB := Aside0.mk (Below.refl w.heap.size w)
  have H : ((solventlaw14_sanity.f k).bind fun t519 => (if t519 = true then ((solventlaw14_proper.f k a0_0 a0_1 a0_2 a0_3 a0_4 a0_5 a1).bind fun t520 => (if t520 = true then (solventlaw14_LayoutSparesShrink.j0 k a1 a2 t519 (decide ((wrap64 (a0_3 + 1)) ≥ a0_0)) a0_0 a0_1 a0_2 a0_3 a0_4 a0_5) else (solventlaw14_LayoutSparesShrink.j0 k a1 a2 t519 true a0_0 a0_1 a0_2 a0_3 a0_4 a0_5))) else (solventlaw14_LayoutSparesShrink.j0 k a1 a2 t519 true a0_0 a0_1 a0_2 a0_3 a0_4 a0_5))) = some r := h
  clear h
  replace H := Option.bind_eq_some_iff.mp H
  obtain ⟨t519, A40, H⟩ := H
  replace H : (if t519 = true then ((solventlaw14_proper.f k a0_0 a0_1 a0_2 a0_3 a0_4 a0_5 a1).bind fun t520 => (if t520 = true then (solventlaw14_LayoutSparesShrink.j0 k a1 a2 t519 (decide ((wrap64 (a0_3 + 1)) ≥ a0_0)) a0_0 a0_1 a0_2 a0_3 a0_4 a0_5) else (solventlaw14_LayoutSparesShrink.j0 k a1 a2 t519 true a0_0 a0_1 a0_2 a0_3 a0_4 a0_5))) else (solventlaw14_LayoutSparesShrink.j0 k a1 a2 t519 true a0_0 a0_1 a0_2 a0_3 a0_4 a0_5)) = some r := H
  have A4 := Aside0.mk A40
  clear A40
  have HC5 := Aside0.mk H
  clear H
  go_enter Try.func9, Try.ntmps9
  go_upto_region 2 with (first | ((with_reducible refine gate_dst (N := 3) rfl ?_); refine box_event ?hg (N := 3) ?hd (cs := #[.int .i64 a0_0, .int .i64 a0_1, .int .i64 a0_2, .int .i64 a0_3, .int .i64 a0_4, .int .i64 a0_5]) (t := 23) ?hr ?_; (case hd => rfl); (case hg => rfl); (case hr => first | (go_simp; done) | (go_simp; rfl)); intro gb518 hg w6 hbox hb; have n0_ := Aside0.mk (below_step (by repeat (first | (with_reducible first | exact HB.out | apply below_alloc | apply pw_below_drewN | apply below_drew1) | exact HB.out)) hb); have n1_ := Aside0.mk (hbox); have n2_ := Aside0.mk ((by rw [hg]; exact (below_size (by repeat (first | (with_reducible first | exact HB.out | apply below_alloc | apply pw_below_drewN | apply below_drew1) | exact HB.out))) : w.heap.size ≤ gb518)); have n3_ := Aside0.mk ((by rw [hg]; exact (below_size (by repeat (first | (with_reducible first | exact HB.out | apply below_alloc | apply pw_below_drewN | apply below_drew1) | exact HB.out))) : w.heap.size ≤ gb518)); clear HB; have HB := n0_; have BK518 := n1_; have GW518 := n2_; have GE518 := n3_; clear n0_ n1_ n2_ n3_; clear hb hbox hg) | ((with_reducible refine gate_callee (f := 30) rfl ?_); refine goesL_ (some 16) rfl rfl Try.func30 (by kernel_rfl) rfl #[] rfl (by (try simp only [List.map_toArray, List.map_cons, List.map_nil]); first | done | rfl | (simp only [List.length_drop, List.length_take]; rfl)) ?_; (with_reducible refine (solventlaw14_sanity.calls k  t519 _ A4.out).mono ?_); rintro e w7 ⟨rfl, hb⟩; refine ⟨_, rfl, ?_⟩; have n0_ := Aside0.mk (blk_below (g := gb518) (o := .cells #[.int .i64 a0_0, .int .i64 a0_1, .int .i64 a0_2, .int .i64 a0_3, .int .i64 a0_4, .int .i64 a0_5] 23 (0, 0)) (by (with_reducible repeat (first | refine blk_drewN ?_ _ | refine blk_drew ?_ | refine blk_alloc ?_ _)); exact BK518.out) hb); have n1_ := Aside0.mk (below_step (by repeat (first | (with_reducible first | exact HB.out | apply below_alloc | apply pw_below_drewN | apply below_drew1 | refine below_set ?_ GE518.out) | exact HB.out)) hb); clear BK518; clear HB; have BK518 := n0_; have HB := n1_; clear n0_ n1_; (try clear hb); (try clear hb2); (try clear hk); (try clear hi)))
  (try simp only [Act.put, List.setIfInBounds_toArray, List.set_cons_zero, List.set_cons_succ])
  go_cut [32] (fun v32 wc => ∃ (kq : Nat) (x32_4 : Bool), v32 = .bool x32_4 ∧ Aside0 (solventlaw14_LayoutSparesShrink.j0 kq a1 a2 t519 x32_4 a0_0 a0_1 a0_2 a0_3 a0_4 a0_5 = some r) ∧ Aside0 (kq ≤ k) ∧ Aside0 (wc.heap[gb518]? = some (.cells #[.int .i64 a0_0, .int .i64 a0_1, .int .i64 a0_2, .int .i64 a0_3, .int .i64 a0_4, .int .i64 a0_5] 23 (0, 0))) ∧ Aside0 (Below w.heap.size w wc))
  case first =>
    have H := HC5.out
    clear HC5
    by_cases c8 : t519 = true
    · subst c8
      have H1 : ((solventlaw14_proper.f k a0_0 a0_1 a0_2 a0_3 a0_4 a0_5 a1).bind fun t520 => (if t520 = true then (solventlaw14_LayoutSparesShrink.j0 k a1 a2 true (decide ((wrap64 (a0_3 + 1)) ≥ a0_0)) a0_0 a0_1 a0_2 a0_3 a0_4 a0_5) else (solventlaw14_LayoutSparesShrink.j0 k a1 a2 true true a0_0 a0_1 a0_2 a0_3 a0_4 a0_5))) = some r := by rw [if_pos rfl] at H; exact H
      clear H
      have H := H1
      clear H1
      replace H := Option.bind_eq_some_iff.mp H
      obtain ⟨t520, A90, H⟩ := H
      replace H : (if t520 = true then (solventlaw14_LayoutSparesShrink.j0 k a1 a2 true (decide ((wrap64 (a0_3 + 1)) ≥ a0_0)) a0_0 a0_1 a0_2 a0_3 a0_4 a0_5) else (solventlaw14_LayoutSparesShrink.j0 k a1 a2 true true a0_0 a0_1 a0_2 a0_3 a0_4 a0_5)) = some r := H
      have A9 := Aside0.mk A90
      clear A90
      by_cases c10 : t520 = true
      · subst c10
        have H1 : (solventlaw14_LayoutSparesShrink.j0 k a1 a2 true (decide ((wrap64 (a0_3 + 1)) ≥ a0_0)) a0_0 a0_1 a0_2 a0_3 a0_4 a0_5) = some r := by rw [if_pos rfl] at H; exact H
        clear H
        have H := H1
        clear H1
        have H' := Aside0.mk H
        clear H
        have hcz11_0 : w7.cell? ⟨gb518, 0, none⟩ = some (.int .i64 a0_0) := (blk_cell BK518.out 0).trans rfl
        have hcz11_1 : w7.cell? ⟨gb518, 1, none⟩ = some (.int .i64 a0_1) := (blk_cell BK518.out 1).trans rfl
        have hcz11_2 : w7.cell? ⟨gb518, 2, none⟩ = some (.int .i64 a0_2) := (blk_cell BK518.out 2).trans rfl
        have hcz11_3 : w7.cell? ⟨gb518, 3, none⟩ = some (.int .i64 a0_3) := (blk_cell BK518.out 3).trans rfl
        have hcz11_4 : w7.cell? ⟨gb518, 4, none⟩ = some (.int .i64 a0_4) := (blk_cell BK518.out 4).trans rfl
        have hcz11_5 : w7.cell? ⟨gb518, 5, none⟩ = some (.int .i64 a0_5) := (blk_cell BK518.out 5).trans rfl
        have hfz11_0 := blk_frozen BK518.out 0
        have hfz11_1 := blk_frozen BK518.out 1
        have hfz11_2 := blk_frozen BK518.out 2
        have hfz11_3 := blk_frozen BK518.out 3
        have hfz11_4 := blk_frozen BK518.out 4
        have hfz11_5 := blk_frozen BK518.out 5
        go_wp2_with (first | (go_at_call 33; (with_reducible refine (solventlaw14_proper.calls k a0_0 a0_1 a0_2 a0_3 a0_4 a0_5 a1 true _ A9.out).mono ?_); rintro e w12 ⟨rfl, hb⟩; have n0_ := Aside0.mk (blk_below (g := gb518) (o := .cells #[.int .i64 a0_0, .int .i64 a0_1, .int .i64 a0_2, .int .i64 a0_3, .int .i64 a0_4, .int .i64 a0_5] 23 (0, 0)) (by (with_reducible repeat (first | refine blk_drewN ?_ _ | refine blk_drew ?_ | refine blk_alloc ?_ _)); exact BK518.out) hb); have n1_ := Aside0.mk (below_step (by repeat (first | (with_reducible first | exact HB.out | apply below_alloc | apply pw_below_drewN | apply below_drew1 | refine below_set ?_ GE518.out) | exact HB.out)) hb); clear BK518; clear HB; have BK518 := n0_; have HB := n1_; clear n0_ n1_; (try clear hb); (try clear hb2); (try clear hk); (try clear hi); have hcz13_0 : w12.cell? ⟨gb518, 0, none⟩ = some (.int .i64 a0_0) := (blk_cell BK518.out 0).trans rfl; have hcz13_1 : w12.cell? ⟨gb518, 1, none⟩ = some (.int .i64 a0_1) := (blk_cell BK518.out 1).trans rfl; have hcz13_2 : w12.cell? ⟨gb518, 2, none⟩ = some (.int .i64 a0_2) := (blk_cell BK518.out 2).trans rfl; have hcz13_3 : w12.cell? ⟨gb518, 3, none⟩ = some (.int .i64 a0_3) := (blk_cell BK518.out 3).trans rfl; have hcz13_4 : w12.cell? ⟨gb518, 4, none⟩ = some (.int .i64 a0_4) := (blk_cell BK518.out 4).trans rfl; have hcz13_5 : w12.cell? ⟨gb518, 5, none⟩ = some (.int .i64 a0_5) := (blk_cell BK518.out 5).trans rfl; have hfz13_0 := blk_frozen BK518.out 0; have hfz13_1 := blk_frozen BK518.out 1; have hfz13_2 := blk_frozen BK518.out 2; have hfz13_3 := blk_frozen BK518.out 3; have hfz13_4 := blk_frozen BK518.out 4; have hfz13_5 := blk_frozen BK518.out 5))
        go_meet
        case rel => exact ⟨_, (decide ((wrap64 (a0_3 + 1)) ≥ a0_0)), (by first | rfl | (simp; done) | (simp [*]; done)), H', ⟨by first | omega | exact Nat.le_refl _⟩, ⟨by (with_reducible repeat (first | refine blk_drewN ?_ _ | refine blk_drew ?_ | refine blk_alloc ?_ _)); exact BK518.out⟩, ⟨by repeat (first | (with_reducible first | exact HB.out | apply below_alloc | apply pw_below_drewN | apply below_drew1 | refine below_set ?_ GE518.out) | exact HB.out)⟩⟩
      · replace c10 := Bool.eq_false_iff.mpr c10
        subst c10
        have H1 : (solventlaw14_LayoutSparesShrink.j0 k a1 a2 true true a0_0 a0_1 a0_2 a0_3 a0_4 a0_5) = some r := by rw [if_neg (show ¬ (false = true) by decide)] at H; exact H
        clear H
        have H := H1
        clear H1
        have H' := Aside0.mk H
        clear H
        have hcz14_0 : w7.cell? ⟨gb518, 0, none⟩ = some (.int .i64 a0_0) := (blk_cell BK518.out 0).trans rfl
        have hcz14_1 : w7.cell? ⟨gb518, 1, none⟩ = some (.int .i64 a0_1) := (blk_cell BK518.out 1).trans rfl
        have hcz14_2 : w7.cell? ⟨gb518, 2, none⟩ = some (.int .i64 a0_2) := (blk_cell BK518.out 2).trans rfl
        have hcz14_3 : w7.cell? ⟨gb518, 3, none⟩ = some (.int .i64 a0_3) := (blk_cell BK518.out 3).trans rfl
        have hcz14_4 : w7.cell? ⟨gb518, 4, none⟩ = some (.int .i64 a0_4) := (blk_cell BK518.out 4).trans rfl
        have hcz14_5 : w7.cell? ⟨gb518, 5, none⟩ = some (.int .i64 a0_5) := (blk_cell BK518.out 5).trans rfl
        have hfz14_0 := blk_frozen BK518.out 0
        have hfz14_1 := blk_frozen BK518.out 1
        have hfz14_2 := blk_frozen BK518.out 2
        have hfz14_3 := blk_frozen BK518.out 3
        have hfz14_4 := blk_frozen BK518.out 4
        have hfz14_5 := blk_frozen BK518.out 5
        go_wp2_with (first | (go_at_call 33; (with_reducible refine (solventlaw14_proper.calls k a0_0 a0_1 a0_2 a0_3 a0_4 a0_5 a1 false _ A9.out).mono ?_); rintro e w15 ⟨rfl, hb⟩; have n0_ := Aside0.mk (blk_below (g := gb518) (o := .cells #[.int .i64 a0_0, .int .i64 a0_1, .int .i64 a0_2, .int .i64 a0_3, .int .i64 a0_4, .int .i64 a0_5] 23 (0, 0)) (by (with_reducible repeat (first | refine blk_drewN ?_ _ | refine blk_drew ?_ | refine blk_alloc ?_ _)); exact BK518.out) hb); have n1_ := Aside0.mk (below_step (by repeat (first | (with_reducible first | exact HB.out | apply below_alloc | apply pw_below_drewN | apply below_drew1 | refine below_set ?_ GE518.out) | exact HB.out)) hb); clear BK518; clear HB; have BK518 := n0_; have HB := n1_; clear n0_ n1_; (try clear hb); (try clear hb2); (try clear hk); (try clear hi)))
        go_meet
        case rel => exact ⟨_, (true), (by first | rfl | (simp; done) | (simp [*]; done)), H', ⟨by first | omega | exact Nat.le_refl _⟩, ⟨by (with_reducible repeat (first | refine blk_drewN ?_ _ | refine blk_drew ?_ | refine blk_alloc ?_ _)); exact BK518.out⟩, ⟨by repeat (first | (with_reducible first | exact HB.out | apply below_alloc | apply pw_below_drewN | apply below_drew1 | refine below_set ?_ GE518.out) | exact HB.out)⟩⟩
    · replace c8 := Bool.eq_false_iff.mpr c8
      subst c8
      have H1 : (solventlaw14_LayoutSparesShrink.j0 k a1 a2 false true a0_0 a0_1 a0_2 a0_3 a0_4 a0_5) = some r := by rw [if_neg (show ¬ (false = true) by decide)] at H; exact H
      clear H
      have H := H1
      clear H1
      have H' := Aside0.mk H
      clear H
      go_wp2
      go_meet
      case rel => exact ⟨_, (true), (by first | rfl | (simp; done) | (simp [*]; done)), H', ⟨by first | omega | exact Nat.le_refl _⟩, ⟨by (with_reducible repeat (first | refine blk_drewN ?_ _ | refine blk_drew ?_ | refine blk_alloc ?_ _)); exact BK518.out⟩, ⟨by repeat (first | (with_reducible first | exact HB.out | apply below_alloc | apply pw_below_drewN | apply below_drew1 | refine below_set ?_ GE518.out) | exact HB.out)⟩⟩
  case rest =>
    clear HC5
    try clear c1
    try clear p2
    try clear c3
    try clear p6
    try clear c8
    try clear c9
    try clear c10
    try clear hcz11_0
    try clear hcz11_1
    try clear hcz11_2
    try clear hcz11_3
    try clear hcz11_4
    try clear hcz11_5
    try clear hcz13_0
    try clear hcz13_1
    try clear hcz13_2
    try clear hcz13_3
    try clear hcz13_4
    try clear hcz13_5
    try clear hcz14_0
    try clear hcz14_1
    try clear hcz14_2
    try clear hcz14_3
    try clear hcz14_4
    try clear hcz14_5
    try clear hfz11_0
    try clear hfz11_1
    try clear hfz11_2
    try clear hfz11_3
    try clear hfz11_4
    try clear hfz11_5
    try clear hfz13_0
    try clear hfz13_1
    try clear hfz13_2
    try clear hfz13_3
    try clear hfz13_4
    try clear hfz13_5
    try clear hfz14_0
    try clear hfz14_1
    try clear hfz14_2
    try clear hfz14_3
    try clear hfz14_4
    try clear hfz14_5
    obtain ⟨kq, x32_4, rfl, HA, HJ4, BK518, HB⟩ := hcut
    cases kq with
    | zero => exact absurd HA.out (by simp [solventlaw14_LayoutSparesShrink.j0])
    | succ kj4 =>
      have H := HA.out
      clear HA
      simp only [solventlaw14_LayoutSparesShrink.j0] at H
      by_cases c16 : x32_4 = true
      · subst c16
        have H1 : (some t519) = some r := by rw [if_pos rfl] at H; exact H
        clear H
        have H := H1
        clear H1
        obtain rfl := Option.some.inj H
        go_wp2
        go_ret
        exact ⟨by first | rfl | (simp [errW_none, errW_some] <;> rfl) | (simp [*, errW_none, errW_some] <;> rfl), by repeat (first | (with_reducible first | exact HB.out | apply below_alloc | apply pw_below_drewN | apply below_drew1 | refine below_set ?_ GE518.out) | exact HB.out)⟩
      · replace c16 := Bool.eq_false_iff.mpr c16
        subst c16
        have H1 : (if a0_2 = 0 then (none) else ((layout_Spares.f kj4 a0_0 a0_1 a0_2 a0_3 a0_4 a0_5 (Int.tmod (wrap64 (a2)) a0_2) a1).bind fun t522 => (solventlaw14_LayoutSparesShrink.l0 kj4 a1 t519 (Int.tmod (wrap64 (a2)) a0_2) t522 0 a0_0 a0_1 a0_2 a0_3 a0_4 a0_5 a0_0 a0_1 a0_2 (wrap64 (a0_3 + 1)) a0_4 a0_5))) = some r := by rw [if_neg (show ¬ (false = true) by decide)] at H; exact H
        clear H
        have H := H1
        clear H1
        by_cases c17 : a0_2 = 0
        · rw [if_pos c17] at H
          exact absurd H (by simp)
        · rw [if_neg c17] at H
          have c17b0 : (a0_2 == 0) = false := beq_eq_false_iff_ne.mpr c17
          have c17b1 : (a0_2 != 0) = true := bne_iff_ne.mpr c17
          replace H := Option.bind_eq_some_iff.mp H
          obtain ⟨t522, A180, H⟩ := H
          replace H : (solventlaw14_LayoutSparesShrink.l0 kj4 a1 t519 (Int.tmod (wrap64 (a2)) a0_2) t522 0 a0_0 a0_1 a0_2 a0_3 a0_4 a0_5 a0_0 a0_1 a0_2 (wrap64 (a0_3 + 1)) a0_4 a0_5) = some r := H
          have A18 := Aside0.mk A180
          clear A180
          have H' := Aside0.mk H
          clear H
          have hcz19_0 : wc.cell? ⟨gb518, 0, none⟩ = some (.int .i64 a0_0) := (blk_cell BK518.out 0).trans rfl
          have hcz19_1 : wc.cell? ⟨gb518, 1, none⟩ = some (.int .i64 a0_1) := (blk_cell BK518.out 1).trans rfl
          have hcz19_2 : wc.cell? ⟨gb518, 2, none⟩ = some (.int .i64 a0_2) := (blk_cell BK518.out 2).trans rfl
          have hcz19_3 : wc.cell? ⟨gb518, 3, none⟩ = some (.int .i64 a0_3) := (blk_cell BK518.out 3).trans rfl
          have hcz19_4 : wc.cell? ⟨gb518, 4, none⟩ = some (.int .i64 a0_4) := (blk_cell BK518.out 4).trans rfl
          have hcz19_5 : wc.cell? ⟨gb518, 5, none⟩ = some (.int .i64 a0_5) := (blk_cell BK518.out 5).trans rfl
          have hfz19_0 := blk_frozen BK518.out 0
          have hfz19_1 := blk_frozen BK518.out 1
          have hfz19_2 := blk_frozen BK518.out 2
          have hfz19_3 := blk_frozen BK518.out 3
          have hfz19_4 := blk_frozen BK518.out 4
          have hfz19_5 := blk_frozen BK518.out 5
          go_wp2_with (first | ((with_reducible refine gate_dst (N := 9) rfl ?_); refine box_event ?hg (N := 9) ?hd (cs := #[.int .i64 0, .int .i64 0, .int .i64 0, .int .i64 0, .int .i64 0, .int .i64 0]) (t := 23) ?hr ?_; (case hd => rfl); (case hg => rfl); (case hr => first | (go_simp; done) | (go_simp; rfl)); intro gb521 hg w20 hbox hb; have n0_ := Aside0.mk (blk_below (g := gb518) (o := .cells #[.int .i64 a0_0, .int .i64 a0_1, .int .i64 a0_2, .int .i64 a0_3, .int .i64 a0_4, .int .i64 a0_5] 23 (0, 0)) (by (with_reducible repeat (first | refine blk_drewN ?_ _ | refine blk_drew ?_ | refine blk_alloc ?_ _)); exact BK518.out) hb); have n1_ := Aside0.mk (below_step (by repeat (first | (with_reducible first | exact HB.out | apply below_alloc | apply pw_below_drewN | apply below_drew1 | refine below_set ?_ GE518.out) | exact HB.out)) hb); have n2_ := Aside0.mk (hbox); have n3_ := Aside0.mk ((by rw [hg]; exact (below_size (by repeat (first | (with_reducible first | exact HB.out | apply below_alloc | apply pw_below_drewN | apply below_drew1 | refine below_set ?_ GE518.out) | exact HB.out))) : w.heap.size ≤ gb521)); have n4_ := Aside0.mk ((by rw [hg]; exact (below_size (by repeat (first | (with_reducible first | exact HB.out | apply below_alloc | apply pw_below_drewN | apply below_drew1 | refine below_set ?_ GE518.out) | exact HB.out))) : w.heap.size ≤ gb521)); have n5_ := Aside0.mk ((by rw [hg]; exact Nat.ne_of_lt (blk_lt (g := gb518) (o := .cells #[.int .i64 a0_0, .int .i64 a0_1, .int .i64 a0_2, .int .i64 a0_3, .int .i64 a0_4, .int .i64 a0_5] 23 (0, 0)) (by (with_reducible repeat (first | refine blk_drewN ?_ _ | refine blk_drew ?_ | refine blk_alloc ?_ _)); exact BK518.out)) : gb518 ≠ gb521)); have n6_ := Aside0.mk ((by rw [hg]; exact Nat.ne_of_gt (blk_lt (g := gb518) (o := .cells #[.int .i64 a0_0, .int .i64 a0_1, .int .i64 a0_2, .int .i64 a0_3, .int .i64 a0_4, .int .i64 a0_5] 23 (0, 0)) (by (with_reducible repeat (first | refine blk_drewN ?_ _ | refine blk_drew ?_ | refine blk_alloc ?_ _)); exact BK518.out)) : gb521 ≠ gb518)); clear BK518; clear HB; have BK518 := n0_; have HB := n1_; have BK521 := n2_; have GW521 := n3_; have GE521 := n4_; have NB518_521 := n5_; have NB521_518 := n6_; clear n0_ n1_ n2_ n3_ n4_ n5_ n6_; clear hb hbox hg; have hnb21 := NB521_518.out; have hnc21 := NB518_521.out; have hcz22_0 : w20.cell? ⟨gb521, 0, none⟩ = some (.int .i64 0) := (blk_cell BK521.out 0).trans rfl; have hcz22_1 : w20.cell? ⟨gb521, 1, none⟩ = some (.int .i64 0) := (blk_cell BK521.out 1).trans rfl; have hcz22_2 : w20.cell? ⟨gb521, 2, none⟩ = some (.int .i64 0) := (blk_cell BK521.out 2).trans rfl; have hcz22_3 : w20.cell? ⟨gb521, 3, none⟩ = some (.int .i64 0) := (blk_cell BK521.out 3).trans rfl; have hcz22_4 : w20.cell? ⟨gb521, 4, none⟩ = some (.int .i64 0) := (blk_cell BK521.out 4).trans rfl; have hcz22_5 : w20.cell? ⟨gb521, 5, none⟩ = some (.int .i64 0) := (blk_cell BK521.out 5).trans rfl; have hfz22_0 := blk_frozen BK521.out 0; have hfz22_1 := blk_frozen BK521.out 1; have hfz22_2 := blk_frozen BK521.out 2; have hfz22_3 := blk_frozen BK521.out 3; have hfz22_4 := blk_frozen BK521.out 4; have hfz22_5 := blk_frozen BK521.out 5; have hcz23_0 : w20.cell? ⟨gb518, 0, none⟩ = some (.int .i64 a0_0) := (blk_cell BK518.out 0).trans rfl; have hcz23_1 : w20.cell? ⟨gb518, 1, none⟩ = some (.int .i64 a0_1) := (blk_cell BK518.out 1).trans rfl; have hcz23_2 : w20.cell? ⟨gb518, 2, none⟩ = some (.int .i64 a0_2) := (blk_cell BK518.out 2).trans rfl; have hcz23_3 : w20.cell? ⟨gb518, 3, none⟩ = some (.int .i64 a0_3) := (blk_cell BK518.out 3).trans rfl; have hcz23_4 : w20.cell? ⟨gb518, 4, none⟩ = some (.int .i64 a0_4) := (blk_cell BK518.out 4).trans rfl; have hcz23_5 : w20.cell? ⟨gb518, 5, none⟩ = some (.int .i64 a0_5) := (blk_cell BK518.out 5).trans rfl; have hfz23_0 := blk_frozen BK518.out 0; have hfz23_1 := blk_frozen BK518.out 1; have hfz23_2 := blk_frozen BK518.out 2; have hfz23_3 := blk_frozen BK518.out 3; have hfz23_4 := blk_frozen BK518.out 4; have hfz23_5 := blk_frozen BK518.out 5) | ((with_reducible refine gate_callee (f := 34) rfl ?_); refine goesL_ (some 47) rfl rfl Try.func34 (by kernel_rfl) rfl #[.agg #[.int .i64 a0_0, .int .i64 a0_1, .int .i64 a0_2, .int .i64 a0_3, .int .i64 a0_4, .int .i64 a0_5], .int .i64 (Int.tmod (wrap64 (a2)) a0_2), .int .i64 a1] rfl (by (try simp only [List.map_toArray, List.map_cons, List.map_nil]); first | done | rfl | (simp only [List.length_drop, List.length_take]; rfl)) ?_; (with_reducible refine (layout_Spares.calls kj4 a0_0 a0_1 a0_2 a0_3 a0_4 a0_5 (Int.tmod (wrap64 (a2)) a0_2) a1 t522 _ A18.out).mono ?_); rintro e w24 ⟨v523, rfl, ho0, hb⟩; refine ⟨_, rfl, ?_⟩; have n0_ := Aside0.mk (Kd.Q_lower ho0 (below_size (by repeat (first | (with_reducible first | exact HB.out | apply below_alloc | apply pw_below_drewN | apply below_drew1 | refine below_set ?_ GE518.out | refine below_set ?_ GE521.out) | exact HB.out)))); have n1_ := Aside0.mk (blk_below (g := gb518) (o := .cells #[.int .i64 a0_0, .int .i64 a0_1, .int .i64 a0_2, .int .i64 a0_3, .int .i64 a0_4, .int .i64 a0_5] 23 (0, 0)) (by (with_reducible repeat (first | refine blk_drewN ?_ _ | refine blk_drew ?_ | refine blk_alloc ?_ _)); refine blk_far ?_ NB518_521.out _; (with_reducible repeat (first | refine blk_drewN ?_ _ | refine blk_drew ?_ | refine blk_alloc ?_ _)); refine blk_far ?_ NB518_521.out _; (with_reducible repeat (first | refine blk_drewN ?_ _ | refine blk_drew ?_ | refine blk_alloc ?_ _)); refine blk_far ?_ NB518_521.out _; (with_reducible repeat (first | refine blk_drewN ?_ _ | refine blk_drew ?_ | refine blk_alloc ?_ _)); refine blk_far ?_ NB518_521.out _; (with_reducible repeat (first | refine blk_drewN ?_ _ | refine blk_drew ?_ | refine blk_alloc ?_ _)); refine blk_far ?_ NB518_521.out _; (with_reducible repeat (first | refine blk_drewN ?_ _ | refine blk_drew ?_ | refine blk_alloc ?_ _)); refine blk_far ?_ NB518_521.out _; (with_reducible repeat (first | refine blk_drewN ?_ _ | refine blk_drew ?_ | refine blk_alloc ?_ _)); refine blk_far ?_ NB518_521.out _; (with_reducible repeat (first | refine blk_drewN ?_ _ | refine blk_drew ?_ | refine blk_alloc ?_ _)); exact BK518.out) hb); have n2_ := Aside0.mk (blk_below (g := gb521) (o := .cells #[.int .i64 a0_0, .int .i64 a0_1, .int .i64 a0_2, .int .i64 (wrap64 (a0_3 + 1)), .int .i64 a0_4, .int .i64 a0_5] 23 (0, 0)) (by (with_reducible repeat (first | refine blk_drewN ?_ _ | refine blk_drew ?_ | refine blk_alloc ?_ _)); refine blk_put (cs := #[.int .i64 a0_0, .int .i64 a0_1, .int .i64 a0_2, .int .i64 a0_3, .int .i64 a0_4, .int .i64 a0_5]) ?_ 3 _ rfl; (with_reducible repeat (first | refine blk_drewN ?_ _ | refine blk_drew ?_ | refine blk_alloc ?_ _)); refine blk_put (cs := #[.int .i64 a0_0, .int .i64 a0_1, .int .i64 a0_2, .int .i64 a0_3, .int .i64 a0_4, .int .i64 0]) ?_ 5 _ rfl; (with_reducible repeat (first | refine blk_drewN ?_ _ | refine blk_drew ?_ | refine blk_alloc ?_ _)); refine blk_put (cs := #[.int .i64 a0_0, .int .i64 a0_1, .int .i64 a0_2, .int .i64 a0_3, .int .i64 0, .int .i64 0]) ?_ 4 _ rfl; (with_reducible repeat (first | refine blk_drewN ?_ _ | refine blk_drew ?_ | refine blk_alloc ?_ _)); refine blk_put (cs := #[.int .i64 a0_0, .int .i64 a0_1, .int .i64 a0_2, .int .i64 0, .int .i64 0, .int .i64 0]) ?_ 3 _ rfl; (with_reducible repeat (first | refine blk_drewN ?_ _ | refine blk_drew ?_ | refine blk_alloc ?_ _)); refine blk_put (cs := #[.int .i64 a0_0, .int .i64 a0_1, .int .i64 0, .int .i64 0, .int .i64 0, .int .i64 0]) ?_ 2 _ rfl; (with_reducible repeat (first | refine blk_drewN ?_ _ | refine blk_drew ?_ | refine blk_alloc ?_ _)); refine blk_put (cs := #[.int .i64 a0_0, .int .i64 0, .int .i64 0, .int .i64 0, .int .i64 0, .int .i64 0]) ?_ 1 _ rfl; (with_reducible repeat (first | refine blk_drewN ?_ _ | refine blk_drew ?_ | refine blk_alloc ?_ _)); refine blk_put (cs := #[.int .i64 0, .int .i64 0, .int .i64 0, .int .i64 0, .int .i64 0, .int .i64 0]) ?_ 0 _ rfl; (with_reducible repeat (first | refine blk_drewN ?_ _ | refine blk_drew ?_ | refine blk_alloc ?_ _)); exact BK521.out) hb); have n3_ := Aside0.mk (below_step (by repeat (first | (with_reducible first | exact HB.out | apply below_alloc | apply pw_below_drewN | apply below_drew1 | refine below_set ?_ GE518.out | refine below_set ?_ GE521.out) | exact HB.out)) hb); clear BK518; clear BK521; clear HB; have HO524 := n0_; have BK518 := n1_; have BK521 := n2_; have HB := n3_; clear n0_ n1_ n2_ n3_; (try clear hb); (try clear hb2); (try clear hk); (try clear hi); (try clear ho0)))
          go_loopg [11] kj4 (fun kq v11 w' => ∃ (x11_2 : Int), v11 = .int .i64 x11_2 ∧ Aside0 (solventlaw14_LayoutSparesShrink.l0 kq a1 t519 (Int.tmod (wrap64 (a2)) a0_2) t522 x11_2 a0_0 a0_1 a0_2 a0_3 a0_4 a0_5 a0_0 a0_1 a0_2 (wrap64 (a0_3 + 1)) a0_4 a0_5 = some r) ∧ Aside0 (kq ≤ kj4) ∧ Aside0 (Kd.Q (Kd.int .i64) 3 w' w.heap.size (fun _ => True) v523 t522) ∧ Aside0 (w'.heap[gb518]? = some (.cells #[.int .i64 a0_0, .int .i64 a0_1, .int .i64 a0_2, .int .i64 a0_3, .int .i64 a0_4, .int .i64 a0_5] 23 (0, 0))) ∧ Aside0 (w'.heap[gb521]? = some (.cells #[.int .i64 a0_0, .int .i64 a0_1, .int .i64 a0_2, .int .i64 (wrap64 (a0_3 + 1)), .int .i64 a0_4, .int .i64 a0_5] 23 (0, 0))) ∧ Aside0 (Below w.heap.size w w'))
          case atStart => exact ⟨(0), (by first | rfl | (simp; done) | (simp [*]; done)), H', ⟨Nat.le_refl _⟩, ⟨by (with_reducible repeat (first | apply Kd.Q_alloc | apply Kd.Q_drewN | apply Kd.Q_drew)); exact HO524.out⟩, ⟨by (with_reducible repeat (first | refine blk_drewN ?_ _ | refine blk_drew ?_ | refine blk_alloc ?_ _)); exact BK518.out⟩, ⟨by (with_reducible repeat (first | refine blk_drewN ?_ _ | refine blk_drew ?_ | refine blk_alloc ?_ _)); exact BK521.out⟩, ⟨by repeat (first | (with_reducible first | exact HB.out | apply below_alloc | apply pw_below_drewN | apply below_drew1 | refine below_set ?_ GE518.out | refine below_set ?_ GE521.out) | exact HB.out)⟩⟩
          case round =>
            clear H'
            try clear c1
            try clear c2
            try clear p2
            try clear c3
            try clear p6
            try clear c8
            try clear c9
            try clear c10
            try clear c16
            try clear c17
            try clear c17b0
            try clear c17b1
            try clear c21
            try clear hcz11_0
            try clear hcz11_1
            try clear hcz11_2
            try clear hcz11_3
            try clear hcz11_4
            try clear hcz11_5
            try clear hcz13_0
            try clear hcz13_1
            try clear hcz13_2
            try clear hcz13_3
            try clear hcz13_4
            try clear hcz13_5
            try clear hcz14_0
            try clear hcz14_1
            try clear hcz14_2
            try clear hcz14_3
            try clear hcz14_4
            try clear hcz14_5
            try clear hcz19_0
            try clear hcz19_1
            try clear hcz19_2
            try clear hcz19_3
            try clear hcz19_4
            try clear hcz19_5
            try clear hcz22_0
            try clear hcz22_1
            try clear hcz22_2
            try clear hcz22_3
            try clear hcz22_4
            try clear hcz22_5
            try clear hcz23_0
            try clear hcz23_1
            try clear hcz23_2
            try clear hcz23_3
            try clear hcz23_4
            try clear hcz23_5
            try clear hfz11_0
            try clear hfz11_1
            try clear hfz11_2
            try clear hfz11_3
            try clear hfz11_4
            try clear hfz11_5
            try clear hfz13_0
            try clear hfz13_1
            try clear hfz13_2
            try clear hfz13_3
            try clear hfz13_4
            try clear hfz13_5
            try clear hfz14_0
            try clear hfz14_1
            try clear hfz14_2
            try clear hfz14_3
            try clear hfz14_4
            try clear hfz14_5
            try clear hfz19_0
            try clear hfz19_1
            try clear hfz19_2
            try clear hfz19_3
            try clear hfz19_4
            try clear hfz19_5
            try clear hfz22_0
            try clear hfz22_1
            try clear hfz22_2
            try clear hfz22_3
            try clear hfz22_4
            try clear hfz22_5
            try clear hfz23_0
            try clear hfz23_1
            try clear hfz23_2
            try clear hfz23_3
            try clear hfz23_4
            try clear hfz23_5
            try clear p2
            try clear p6
            obtain ⟨x11_2, rfl, HA, HK2, HO_10, BK518, BK521, HB⟩ := hrel
            cases gk with
            | zero => exact absurd HA.out (by simp [solventlaw14_LayoutSparesShrink.l0])
            | succ k2 =>
              have H := HA.out
              clear HA
              simp only [solventlaw14_LayoutSparesShrink.l0] at H
              by_cases c25 : x11_2 < (t522.length : Int)
              · rw [if_pos c25] at H
                have c25b0 : decide (x11_2 < (t522.length : Int)) = true := decide_eq_true c25
                clear c25
                by_cases c26 : 0 ≤ x11_2
                · rw [if_pos c26] at H
                  have c26b0 : decide (0 ≤ x11_2) = true := decide_eq_true c26
                  clear c26
                  replace H := Option.bind_eq_some_iff.mp H
                  obtain ⟨⟨t526, t527, t528, t529⟩, A270, H⟩ := H
                  replace H : (if t529 = 12 then (solventlaw14_LayoutSparesShrink.l0 k2 a1 t519 (Int.tmod (wrap64 (a2)) a0_2) t522 (wrap64 (x11_2 + 1)) a0_0 a0_1 a0_2 a0_3 a0_4 a0_5 a0_0 a0_1 a0_2 (wrap64 (a0_3 + 1)) a0_4 a0_5) else (none)) = some r := H
                  have A27 := Aside0.mk A270
                  clear A270
                  by_cases c28 : t529 = 12
                  · rw [if_pos c28] at H
                    have c28b0 : (t529 == 12) = true := beq_iff_eq.mpr c28
                    have c28b1 : (t529 != 12) = false := bne_eq_false_iff_eq.mpr c28
                    clear c28
                    have H' := Aside0.mk H
                    clear H
                    obtain ⟨Ao29, co29, eo29, _⟩ := Kd.Q_slice HO_10.out
                    subst eo29
                    try go_wp2
                    have n0_ := Aside0.mk (Kd.Q_drew HO_10.out)
                    have n1_ := Aside0.mk (blk_drew BK518.out)
                    have n2_ := Aside0.mk (blk_drew BK521.out)
                    have n3_ := Aside0.mk (below_drew1 HB.out)
                    clear HO_10
                    clear BK518
                    clear BK521
                    clear HB
                    have HO_10 := n0_
                    have BK518 := n1_
                    have BK521 := n2_
                    have HB := n3_
                    clear n0_ n1_ n2_ n3_
                    have p525 : 0 ≤ (x11_2 : Int) := of_decide_eq_true (by first | (with_reducible assumption) | assumption)
                    have q525 : x11_2 < (t522.length : Int) := of_decide_eq_true (by first | (with_reducible assumption) | assumption)
                    obtain ⟨ad525, e525, hx525_0⟩ := Kd.at_int (Kd.Q_reads' HO_10.out).2.2 x11_2 p525 q525
                    cases e525
                    replace p525 := eq_true p525
                    replace q525 := eq_true q525
                    refine start_ (n := 14) (S := fun w' => w'.cell? ⟨gb521, 0, none⟩ = some (.int .i64 a0_0) ∧ w'.cell? ⟨gb521, 1, none⟩ = some (.int .i64 a0_1) ∧ w'.cell? ⟨gb521, 2, none⟩ = some (.int .i64 a0_2) ∧ w'.cell? ⟨gb521, 3, none⟩ = some (.int .i64 (wrap64 (a0_3 + 1))) ∧ w'.cell? ⟨gb521, 4, none⟩ = some (.int .i64 a0_4) ∧ w'.cell? ⟨gb521, 5, none⟩ = some (.int .i64 a0_5) ∧ w'.cell? (ad525.add (x11_2).toNat) = some (.int .i64 (rd t522 x11_2))) (ds := []) #[false, false, false, false, false, false, false, false, false, false, false, false, false, false] (by kernel_rfl) rfl rfl ⟨(blk_cell BK521.out 0).trans rfl, (blk_cell BK521.out 1).trans rfl, (blk_cell BK521.out 2).trans rfl, (blk_cell BK521.out 3).trans rfl, (blk_cell BK521.out 4).trans rfl, (blk_cell BK521.out 5).trans rfl, hx525_0⟩ (fun hHeld => ?_); refine with_tabW solventlaw14_LayoutSparesShrink.tab11 solventlaw14_LayoutSparesShrink.bits11 (fun HT_ HW_ => ?_)
                    generalize wr.drew = w30 at HO_10 BK518 BK521 HB hx525_0 hHeld ⊢
                    refine pure_ (i := 1) (N := some 56) (v := ?_) (a' := ?_) #[false, true, false, false, false, false, false, false, false, false, false, false, false, false] rfl rfl (any_of HT_.out (by kernel_rfl)) (fun _ _ _ h => h) (Or.inl ⟨by rfl, ?_⟩) ?_ ?_
                    rotate_left
                    · intro w'
                      go_simp
                      with_reducible rfl
                    rotate_left
                    · simp only [Act.put, List.setIfInBounds_toArray, List.set_cons_zero, List.set_cons_succ, i64_w, i32_w]
                      rfl
                    refine pure_ (i := 2) (N := some 57) (v := ?_) (a' := ?_) #[false, true, true, false, false, false, false, false, false, false, false, false, false, false] rfl rfl (any_of HT_.out (by kernel_rfl)) (fun _ _ _ h => h) (Or.inl ⟨by rfl, ?_⟩) ?_ ?_
                    rotate_left
                    · intro w'
                      go_simp
                      with_reducible rfl
                    rotate_left
                    · simp only [Act.put, List.setIfInBounds_toArray, List.set_cons_zero, List.set_cons_succ, i64_w, i32_w]
                      rfl
                    refine pure_ (i := 3) (N := some 58) (v := ?_) (a' := ?_) #[false, true, true, true, false, false, false, false, false, false, false, false, false, false] rfl rfl (any_of HT_.out (by kernel_rfl)) (fun _ _ _ h => h) (Or.inl ⟨by rfl, ?_⟩) ?_ ?_
                    rotate_left
                    · intro w'
                      go_simp
                      with_reducible rfl
                    rotate_left
                    · simp only [Act.put, List.setIfInBounds_toArray, List.set_cons_zero, List.set_cons_succ, i64_w, i32_w]
                      rfl
                    refine pure_ (i := 4) (N := some 59) (v := ?_) (a' := ?_) #[false, true, true, true, true, false, false, false, false, false, false, false, false, false] rfl rfl (any_of HT_.out (by kernel_rfl)) (fun _ _ _ h => h) (Or.inl ⟨by rfl, ?_⟩) ?_ ?_
                    rotate_left
                    · intro w'
                      go_simp
                      with_reducible rfl
                    rotate_left
                    · simp only [Act.put, List.setIfInBounds_toArray, List.set_cons_zero, List.set_cons_succ, i64_w, i32_w]
                      rfl
                    refine pure_ (i := 5) (N := some 60) (v := ?_) (a' := ?_) #[false, true, true, true, true, true, false, false, false, false, false, false, false, false] rfl rfl (any_of HT_.out (by kernel_rfl)) (fun _ _ _ h => h) (Or.inl ⟨by rfl, ?_⟩) ?_ ?_
                    rotate_left
                    · intro w'
                      go_simp
                      with_reducible rfl
                    rotate_left
                    · simp only [Act.put, List.setIfInBounds_toArray, List.set_cons_zero, List.set_cons_succ, i64_w, i32_w]
                      rfl
                    refine take_ (i := 0) (N := some 55) (v := ?_) (a' := ?_) #[true, true, true, true, true, true, false, false, false, false, false, false, false, false] rfl rfl (take_ofW HT_.out HW_.out (by kernel_rfl)) (fun _ _ _ h => h) (Or.inl ⟨by rfl, ?_⟩) hHeld ?_ ?_
                    rotate_left
                    · rintro w' ⟨s0, s1, s2, s3, s4, s5, s6⟩
                      go_simp
                      with_reducible rfl
                    rotate_left
                    · simp only [Act.put, List.setIfInBounds_toArray, List.set_cons_zero, List.set_cons_succ, i64_w, i32_w]
                      rfl
                    refine take_ (i := 6) (N := some 61) (v := ?_) (a' := ?_) #[true, true, true, true, true, true, true, false, false, false, false, false, false, false] rfl rfl (take_ofW HT_.out HW_.out (by kernel_rfl)) (fun _ _ _ h => h) (Or.inl ⟨by rfl, ?_⟩) hHeld ?_ ?_
                    rotate_left
                    · rintro w' ⟨s0, s1, s2, s3, s4, s5, s6⟩
                      go_simp
                      with_reducible rfl
                    rotate_left
                    · simp only [Act.put, List.setIfInBounds_toArray, List.set_cons_zero, List.set_cons_succ, i64_w, i32_w]
                      rfl
                    refine join_ (σ := Nat) 2 #[true, true, true, true, true, true, true, true, true, true, true, true, false, false] (fun s_ => [(62, .tuple #[.agg #[.int .i64 t526, .int .i64 t527, .int .i64 t528], .int .i64 t529]), (12, .pointer (some ⟨s_, 0, none⟩)), (54, .tuple #[.agg #[.int .i64 t526, .int .i64 t527, .int .i64 t528], .int .i64 t529]), (63, .agg #[.int .i64 t526, .int .i64 t527, .int .i64 t528]), (64, .int .i64 t529)]) (fun s_ w' => (w'.cell? ⟨gb521, 0, none⟩ = some (.int .i64 a0_0) ∧ w'.cell? ⟨gb521, 1, none⟩ = some (.int .i64 a0_1) ∧ w'.cell? ⟨gb521, 2, none⟩ = some (.int .i64 a0_2) ∧ w'.cell? ⟨gb521, 3, none⟩ = some (.int .i64 (wrap64 (a0_3 + 1))) ∧ w'.cell? ⟨gb521, 4, none⟩ = some (.int .i64 a0_4) ∧ w'.cell? ⟨gb521, 5, none⟩ = some (.int .i64 a0_5) ∧ w'.cell? (ad525.add (x11_2).toNat) = some (.int .i64 (rd t522 x11_2))) ∧ (Kd.Q (Kd.int .i64) 3 w' w.heap.size (fun _ => True) (.slice (some ad525) t522.length co29) t522) ∧ (w'.heap[gb518]? = some (.cells #[.int .i64 a0_0, .int .i64 a0_1, .int .i64 a0_2, .int .i64 a0_3, .int .i64 a0_4, .int .i64 a0_5] 23 (0, 0))) ∧ (w'.heap[gb521]? = some (.cells #[.int .i64 a0_0, .int .i64 a0_1, .int .i64 a0_2, .int .i64 (wrap64 (a0_3 + 1)), .int .i64 a0_4, .int .i64 a0_5] 23 (0, 0))) ∧ (w'.heap[s_]? = some (.cells #[.int .i64 0, .int .i64 0, .int .i64 0] 45 (0, 0))) ∧ (w.heap.size ≤ s_) ∧ (w.heap.size ≤ s_) ∧ (gb518 ≠ s_) ∧ (s_ ≠ gb518) ∧ (gb521 ≠ s_) ∧ (s_ ≠ gb521) ∧ (Below w.heap.size w w')) ?_ ?_
                    rotate_left
                    · intro hCont
                      refine two_ (i := 7) (j := 11) (Ni := some 62) (Nj := some 12) #[true, true, true, true, true, true, true, true, false, false, false, false, false, false] #[true, true, true, true, true, true, true, false, false, false, false, true, false, false] rfl rfl rfl rfl (two_of HT_.out (by kernel_rfl)) (by decide) (by decide) (fun K hK => ?_) (fun K hK => ?_)
                      · skip
                        refine goes_ Try.func31 (by kernel_rfl) rfl #[.agg #[.int .i64 a0_0, .int .i64 a0_1, .int .i64 a0_2, .int .i64 (wrap64 (a0_3 + 1)), .int .i64 a0_4, .int .i64 a0_5], .int .i64 (Int.tmod (wrap64 (a2)) a0_2), .int .i64 a1, .int .i64 (rd t522 x11_2)] (by rfl) rfl rfl (by (try simp only [List.map_toArray, List.map_cons, List.map_nil]); first | done | rfl | (simp only [List.length_drop, List.length_take]; rfl)) ?_
                        with_reducible refine (layout_Find.calls k2 a0_0 a0_1 a0_2 (wrap64 (a0_3 + 1)) a0_4 a0_5 (Int.tmod (wrap64 (a2)) a0_2) a1 (rd t522 x11_2) t526 t527 t528 t529 _ A27.out).mono ?_
                        rintro e w31 ⟨rfl, hb⟩
                        have HS6_ := (hb.cell (World.block_lt_of_cell? _ _ (hHeld.2.2.2.2.2.2))).trans (hHeld.2.2.2.2.2.2)
                        refine ⟨_, rfl, ?_⟩
                        have n0_ := Aside0.mk (Kd.Q_below (by (with_reducible repeat (first | apply Kd.Q_alloc | apply Kd.Q_drewN | apply Kd.Q_drew)); exact HO_10.out) hb)
                        have n1_ := Aside0.mk (blk_below (g := gb518) (o := .cells #[.int .i64 a0_0, .int .i64 a0_1, .int .i64 a0_2, .int .i64 a0_3, .int .i64 a0_4, .int .i64 a0_5] 23 (0, 0)) (by (with_reducible repeat (first | refine blk_drewN ?_ _ | refine blk_drew ?_ | refine blk_alloc ?_ _)); exact BK518.out) hb)
                        have n2_ := Aside0.mk (blk_below (g := gb521) (o := .cells #[.int .i64 a0_0, .int .i64 a0_1, .int .i64 a0_2, .int .i64 (wrap64 (a0_3 + 1)), .int .i64 a0_4, .int .i64 a0_5] 23 (0, 0)) (by (with_reducible repeat (first | refine blk_drewN ?_ _ | refine blk_drew ?_ | refine blk_alloc ?_ _)); exact BK521.out) hb)
                        have n3_ := Aside0.mk (below_step (by repeat (first | (with_reducible first | exact HB.out | apply below_alloc | apply pw_below_drewN | apply below_drew1 | refine below_set ?_ GE518.out | refine below_set ?_ GE521.out) | exact HB.out)) hb)
                        clear HO_10
                        clear BK518
                        clear BK521
                        clear HB
                        have HO_10 := n0_
                        have BK518 := n1_
                        have BK521 := n2_
                        have HB := n3_
                        clear n0_ n1_ n2_ n3_
                        (try clear hb)
                        (try clear hb2)
                        (try clear hk)
                        (try clear hi)
                        refine hK.out _ _ ⟨(blk_cell BK521.out 0).trans rfl, (blk_cell BK521.out 1).trans rfl, (blk_cell BK521.out 2).trans rfl, (blk_cell BK521.out 3).trans rfl, (blk_cell BK521.out 4).trans rfl, (blk_cell BK521.out 5).trans rfl, HS6_⟩ (fun hHeld => ?_)
                        clear hK K
                        refine norm_ (a' := ?_) ?_ ?_
                        rotate_left
                        · show Act.put _ (some 62) _ = _
                          simp only [Act.put, List.setIfInBounds_toArray, List.set_cons_zero, List.set_cons_succ, i64_w, i32_w]
                          rfl
                        refine pure_ (i := 8) (N := some 54) (v := ?_) (a' := ?_) #[true, true, true, true, true, true, true, true, true, false, false, false, false, false] rfl rfl (any_of HT_.out (by kernel_rfl)) (fun _ _ _ h => h) (Or.inl ⟨by rfl, ?_⟩) ?_ ?_
                        rotate_left
                        · intro w'
                          go_simp
                          with_reducible rfl
                        rotate_left
                        · simp only [Act.put, List.setIfInBounds_toArray, List.set_cons_zero, List.set_cons_succ, i64_w, i32_w]
                          rfl
                        refine pure_ (i := 9) (N := some 63) (v := ?_) (a' := ?_) #[true, true, true, true, true, true, true, true, true, true, false, false, false, false] rfl rfl (any_of HT_.out (by kernel_rfl)) (fun _ _ _ h => h) (Or.inl ⟨by rfl, ?_⟩) ?_ ?_
                        rotate_left
                        · intro w'
                          go_simp
                          with_reducible rfl
                        rotate_left
                        · simp only [Act.put, List.setIfInBounds_toArray, List.set_cons_zero, List.set_cons_succ, i64_w, i32_w]
                          rfl
                        refine pure_ (i := 10) (N := some 64) (v := ?_) (a' := ?_) #[true, true, true, true, true, true, true, true, true, true, true, false, false, false] rfl rfl (any_of HT_.out (by kernel_rfl)) (fun _ _ _ h => h) (Or.inl ⟨by rfl, ?_⟩) ?_ ?_
                        rotate_left
                        · intro w'
                          go_simp
                          with_reducible rfl
                        rotate_left
                        · simp only [Act.put, List.setIfInBounds_toArray, List.set_cons_zero, List.set_cons_succ, i64_w, i32_w]
                          rfl
                        refine one_ (i := 11) (N := some 12) #[true, true, true, true, true, true, true, true, true, true, true, true, false, false] rfl rfl (one_of HT_.out (by kernel_rfl)) (by decide) (fun K hK => ?_)
                        refine box_step ?hg (N := 12) ?hd (cs := #[.int .i64 0, .int .i64 0, .int .i64 0]) (t := 45) ?hr ?_; (case hd => rfl); (case hg => rfl); (case hr => first | (go_simp; done) | (go_simp; rfl))
                        intro gb530 hg w32 hbox hb
                        have HS6_ := (hb.cell (World.block_lt_of_cell? _ _ (hHeld.2.2.2.2.2.2))).trans (hHeld.2.2.2.2.2.2)
                        have n0_ := Aside0.mk (Kd.Q_below (by (with_reducible repeat (first | apply Kd.Q_alloc | apply Kd.Q_drewN | apply Kd.Q_drew)); exact HO_10.out) hb)
                        have n1_ := Aside0.mk (blk_below (g := gb518) (o := .cells #[.int .i64 a0_0, .int .i64 a0_1, .int .i64 a0_2, .int .i64 a0_3, .int .i64 a0_4, .int .i64 a0_5] 23 (0, 0)) (by (with_reducible repeat (first | refine blk_drewN ?_ _ | refine blk_drew ?_ | refine blk_alloc ?_ _)); exact BK518.out) hb)
                        have n2_ := Aside0.mk (blk_below (g := gb521) (o := .cells #[.int .i64 a0_0, .int .i64 a0_1, .int .i64 a0_2, .int .i64 (wrap64 (a0_3 + 1)), .int .i64 a0_4, .int .i64 a0_5] 23 (0, 0)) (by (with_reducible repeat (first | refine blk_drewN ?_ _ | refine blk_drew ?_ | refine blk_alloc ?_ _)); exact BK521.out) hb)
                        have n3_ := Aside0.mk (below_step (by repeat (first | (with_reducible first | exact HB.out | apply below_alloc | apply pw_below_drewN | apply below_drew1 | refine below_set ?_ GE518.out | refine below_set ?_ GE521.out) | exact HB.out)) hb)
                        have n4_ := Aside0.mk (hbox)
                        have n5_ := Aside0.mk ((by rw [hg]; exact (below_size (by repeat (first | (with_reducible first | exact HB.out | apply below_alloc | apply pw_below_drewN | apply below_drew1 | refine below_set ?_ GE518.out | refine below_set ?_ GE521.out) | exact HB.out))) : w.heap.size ≤ gb530))
                        have n6_ := Aside0.mk ((by rw [hg]; exact (below_size (by repeat (first | (with_reducible first | exact HB.out | apply below_alloc | apply pw_below_drewN | apply below_drew1 | refine below_set ?_ GE518.out | refine below_set ?_ GE521.out) | exact HB.out))) : w.heap.size ≤ gb530))
                        have n7_ := Aside0.mk ((by rw [hg]; exact Nat.ne_of_lt (blk_lt (g := gb518) (o := .cells #[.int .i64 a0_0, .int .i64 a0_1, .int .i64 a0_2, .int .i64 a0_3, .int .i64 a0_4, .int .i64 a0_5] 23 (0, 0)) (by (with_reducible repeat (first | refine blk_drewN ?_ _ | refine blk_drew ?_ | refine blk_alloc ?_ _)); exact BK518.out)) : gb518 ≠ gb530))
                        have n8_ := Aside0.mk ((by rw [hg]; exact Nat.ne_of_gt (blk_lt (g := gb518) (o := .cells #[.int .i64 a0_0, .int .i64 a0_1, .int .i64 a0_2, .int .i64 a0_3, .int .i64 a0_4, .int .i64 a0_5] 23 (0, 0)) (by (with_reducible repeat (first | refine blk_drewN ?_ _ | refine blk_drew ?_ | refine blk_alloc ?_ _)); exact BK518.out)) : gb530 ≠ gb518))
                        have n9_ := Aside0.mk ((by rw [hg]; exact Nat.ne_of_lt (blk_lt (g := gb521) (o := .cells #[.int .i64 a0_0, .int .i64 a0_1, .int .i64 a0_2, .int .i64 (wrap64 (a0_3 + 1)), .int .i64 a0_4, .int .i64 a0_5] 23 (0, 0)) (by (with_reducible repeat (first | refine blk_drewN ?_ _ | refine blk_drew ?_ | refine blk_alloc ?_ _)); exact BK521.out)) : gb521 ≠ gb530))
                        have n10_ := Aside0.mk ((by rw [hg]; exact Nat.ne_of_gt (blk_lt (g := gb521) (o := .cells #[.int .i64 a0_0, .int .i64 a0_1, .int .i64 a0_2, .int .i64 (wrap64 (a0_3 + 1)), .int .i64 a0_4, .int .i64 a0_5] 23 (0, 0)) (by (with_reducible repeat (first | refine blk_drewN ?_ _ | refine blk_drew ?_ | refine blk_alloc ?_ _)); exact BK521.out)) : gb530 ≠ gb521))
                        clear HO_10
                        clear BK518
                        clear BK521
                        clear HB
                        have HO_10 := n0_
                        have BK518 := n1_
                        have BK521 := n2_
                        have HB := n3_
                        have BK530 := n4_
                        have GW530 := n5_
                        have GE530 := n6_
                        have NB518_530 := n7_
                        have NB530_518 := n8_
                        have NB521_530 := n9_
                        have NB530_521 := n10_
                        clear n0_ n1_ n2_ n3_ n4_ n5_ n6_ n7_ n8_ n9_ n10_
                        clear hb hbox hg
                        refine hK.out _ _ ⟨(blk_cell BK521.out 0).trans rfl, (blk_cell BK521.out 1).trans rfl, (blk_cell BK521.out 2).trans rfl, (blk_cell BK521.out 3).trans rfl, (blk_cell BK521.out 4).trans rfl, (blk_cell BK521.out 5).trans rfl, HS6_⟩ (fun hHeld => ?_)
                        clear hK K
                        refine norm_ (a' := ?_) ?_ ?_
                        rotate_left
                        · show Act.put _ (some 12) _ = _
                          simp only [Act.put, List.setIfInBounds_toArray, List.set_cons_zero, List.set_cons_succ, i64_w, i32_w]
                          rfl
                        exact norm_ (by simp only [putAll, Act.put, List.setIfInBounds_toArray, List.set_cons_zero, List.set_cons_succ]) (hCont (gb530) _ ⟨hHeld, (by (with_reducible repeat (first | apply Kd.Q_alloc | apply Kd.Q_drewN | apply Kd.Q_drew)); exact HO_10.out), (by (with_reducible repeat (first | refine blk_drewN ?_ _ | refine blk_drew ?_ | refine blk_alloc ?_ _)); exact BK518.out), (by (with_reducible repeat (first | refine blk_drewN ?_ _ | refine blk_drew ?_ | refine blk_alloc ?_ _)); exact BK521.out), (by (with_reducible repeat (first | refine blk_drewN ?_ _ | refine blk_drew ?_ | refine blk_alloc ?_ _)); exact BK530.out), GW530.out, GE530.out, NB518_530.out, NB530_518.out, NB521_530.out, NB530_521.out, (by repeat (first | (with_reducible first | exact HB.out | apply below_alloc | apply pw_below_drewN | apply below_drew1 | refine below_set ?_ GE518.out | refine below_set ?_ GE521.out | refine below_set ?_ GE530.out) | exact HB.out))⟩)
                      · skip
                        refine box_step ?hg (N := 12) ?hd (cs := #[.int .i64 0, .int .i64 0, .int .i64 0]) (t := 45) ?hr ?_; (case hd => rfl); (case hg => rfl); (case hr => first | (go_simp; done) | (go_simp; rfl))
                        intro gb530 hg w31 hbox hb
                        have HS6_ := (hb.cell (World.block_lt_of_cell? _ _ (hHeld.2.2.2.2.2.2))).trans (hHeld.2.2.2.2.2.2)
                        have n0_ := Aside0.mk (Kd.Q_below (by (with_reducible repeat (first | apply Kd.Q_alloc | apply Kd.Q_drewN | apply Kd.Q_drew)); exact HO_10.out) hb)
                        have n1_ := Aside0.mk (blk_below (g := gb518) (o := .cells #[.int .i64 a0_0, .int .i64 a0_1, .int .i64 a0_2, .int .i64 a0_3, .int .i64 a0_4, .int .i64 a0_5] 23 (0, 0)) (by (with_reducible repeat (first | refine blk_drewN ?_ _ | refine blk_drew ?_ | refine blk_alloc ?_ _)); exact BK518.out) hb)
                        have n2_ := Aside0.mk (blk_below (g := gb521) (o := .cells #[.int .i64 a0_0, .int .i64 a0_1, .int .i64 a0_2, .int .i64 (wrap64 (a0_3 + 1)), .int .i64 a0_4, .int .i64 a0_5] 23 (0, 0)) (by (with_reducible repeat (first | refine blk_drewN ?_ _ | refine blk_drew ?_ | refine blk_alloc ?_ _)); exact BK521.out) hb)
                        have n3_ := Aside0.mk (below_step (by repeat (first | (with_reducible first | exact HB.out | apply below_alloc | apply pw_below_drewN | apply below_drew1 | refine below_set ?_ GE518.out | refine below_set ?_ GE521.out) | exact HB.out)) hb)
                        have n4_ := Aside0.mk (hbox)
                        have n5_ := Aside0.mk ((by rw [hg]; exact (below_size (by repeat (first | (with_reducible first | exact HB.out | apply below_alloc | apply pw_below_drewN | apply below_drew1 | refine below_set ?_ GE518.out | refine below_set ?_ GE521.out) | exact HB.out))) : w.heap.size ≤ gb530))
                        have n6_ := Aside0.mk ((by rw [hg]; exact (below_size (by repeat (first | (with_reducible first | exact HB.out | apply below_alloc | apply pw_below_drewN | apply below_drew1 | refine below_set ?_ GE518.out | refine below_set ?_ GE521.out) | exact HB.out))) : w.heap.size ≤ gb530))
                        have n7_ := Aside0.mk ((by rw [hg]; exact Nat.ne_of_lt (blk_lt (g := gb518) (o := .cells #[.int .i64 a0_0, .int .i64 a0_1, .int .i64 a0_2, .int .i64 a0_3, .int .i64 a0_4, .int .i64 a0_5] 23 (0, 0)) (by (with_reducible repeat (first | refine blk_drewN ?_ _ | refine blk_drew ?_ | refine blk_alloc ?_ _)); exact BK518.out)) : gb518 ≠ gb530))
                        have n8_ := Aside0.mk ((by rw [hg]; exact Nat.ne_of_gt (blk_lt (g := gb518) (o := .cells #[.int .i64 a0_0, .int .i64 a0_1, .int .i64 a0_2, .int .i64 a0_3, .int .i64 a0_4, .int .i64 a0_5] 23 (0, 0)) (by (with_reducible repeat (first | refine blk_drewN ?_ _ | refine blk_drew ?_ | refine blk_alloc ?_ _)); exact BK518.out)) : gb530 ≠ gb518))
                        have n9_ := Aside0.mk ((by rw [hg]; exact Nat.ne_of_lt (blk_lt (g := gb521) (o := .cells #[.int .i64 a0_0, .int .i64 a0_1, .int .i64 a0_2, .int .i64 (wrap64 (a0_3 + 1)), .int .i64 a0_4, .int .i64 a0_5] 23 (0, 0)) (by (with_reducible repeat (first | refine blk_drewN ?_ _ | refine blk_drew ?_ | refine blk_alloc ?_ _)); exact BK521.out)) : gb521 ≠ gb530))
                        have n10_ := Aside0.mk ((by rw [hg]; exact Nat.ne_of_gt (blk_lt (g := gb521) (o := .cells #[.int .i64 a0_0, .int .i64 a0_1, .int .i64 a0_2, .int .i64 (wrap64 (a0_3 + 1)), .int .i64 a0_4, .int .i64 a0_5] 23 (0, 0)) (by (with_reducible repeat (first | refine blk_drewN ?_ _ | refine blk_drew ?_ | refine blk_alloc ?_ _)); exact BK521.out)) : gb530 ≠ gb521))
                        clear HO_10
                        clear BK518
                        clear BK521
                        clear HB
                        have HO_10 := n0_
                        have BK518 := n1_
                        have BK521 := n2_
                        have HB := n3_
                        have BK530 := n4_
                        have GW530 := n5_
                        have GE530 := n6_
                        have NB518_530 := n7_
                        have NB530_518 := n8_
                        have NB521_530 := n9_
                        have NB530_521 := n10_
                        clear n0_ n1_ n2_ n3_ n4_ n5_ n6_ n7_ n8_ n9_ n10_
                        clear hb hbox hg
                        refine hK.out _ _ ⟨(blk_cell BK521.out 0).trans rfl, (blk_cell BK521.out 1).trans rfl, (blk_cell BK521.out 2).trans rfl, (blk_cell BK521.out 3).trans rfl, (blk_cell BK521.out 4).trans rfl, (blk_cell BK521.out 5).trans rfl, HS6_⟩ (fun hHeld => ?_)
                        clear hK K
                        refine norm_ (a' := ?_) ?_ ?_
                        rotate_left
                        · show Act.put _ (some 12) _ = _
                          simp only [Act.put, List.setIfInBounds_toArray, List.set_cons_zero, List.set_cons_succ, i64_w, i32_w]
                          rfl
                        refine one_ (i := 7) (N := some 62) #[true, true, true, true, true, true, true, true, false, false, false, true, false, false] rfl rfl (one_of HT_.out (by kernel_rfl)) (by decide) (fun K hK => ?_)
                        refine goes_ Try.func31 (by kernel_rfl) rfl #[.agg #[.int .i64 a0_0, .int .i64 a0_1, .int .i64 a0_2, .int .i64 (wrap64 (a0_3 + 1)), .int .i64 a0_4, .int .i64 a0_5], .int .i64 (Int.tmod (wrap64 (a2)) a0_2), .int .i64 a1, .int .i64 (rd t522 x11_2)] (by rfl) rfl rfl (by (try simp only [List.map_toArray, List.map_cons, List.map_nil]); first | done | rfl | (simp only [List.length_drop, List.length_take]; rfl)) ?_
                        with_reducible refine (layout_Find.calls k2 a0_0 a0_1 a0_2 (wrap64 (a0_3 + 1)) a0_4 a0_5 (Int.tmod (wrap64 (a2)) a0_2) a1 (rd t522 x11_2) t526 t527 t528 t529 _ A27.out).mono ?_
                        rintro e w32 ⟨rfl, hb⟩
                        have HS6_ := (hb.cell (World.block_lt_of_cell? _ _ (hHeld.2.2.2.2.2.2))).trans (hHeld.2.2.2.2.2.2)
                        refine ⟨_, rfl, ?_⟩
                        have n0_ := Aside0.mk (Kd.Q_below (by (with_reducible repeat (first | apply Kd.Q_alloc | apply Kd.Q_drewN | apply Kd.Q_drew)); exact HO_10.out) hb)
                        have n1_ := Aside0.mk (blk_below (g := gb518) (o := .cells #[.int .i64 a0_0, .int .i64 a0_1, .int .i64 a0_2, .int .i64 a0_3, .int .i64 a0_4, .int .i64 a0_5] 23 (0, 0)) (by (with_reducible repeat (first | refine blk_drewN ?_ _ | refine blk_drew ?_ | refine blk_alloc ?_ _)); exact BK518.out) hb)
                        have n2_ := Aside0.mk (blk_below (g := gb521) (o := .cells #[.int .i64 a0_0, .int .i64 a0_1, .int .i64 a0_2, .int .i64 (wrap64 (a0_3 + 1)), .int .i64 a0_4, .int .i64 a0_5] 23 (0, 0)) (by (with_reducible repeat (first | refine blk_drewN ?_ _ | refine blk_drew ?_ | refine blk_alloc ?_ _)); exact BK521.out) hb)
                        have n3_ := Aside0.mk (blk_below (g := gb530) (o := .cells #[.int .i64 0, .int .i64 0, .int .i64 0] 45 (0, 0)) (by (with_reducible repeat (first | refine blk_drewN ?_ _ | refine blk_drew ?_ | refine blk_alloc ?_ _)); exact BK530.out) hb)
                        have n4_ := Aside0.mk (below_step (by repeat (first | (with_reducible first | exact HB.out | apply below_alloc | apply pw_below_drewN | apply below_drew1 | refine below_set ?_ GE518.out | refine below_set ?_ GE521.out | refine below_set ?_ GE530.out) | exact HB.out)) hb)
                        clear HO_10
                        clear BK518
                        clear BK521
                        clear BK530
                        clear HB
                        have HO_10 := n0_
                        have BK518 := n1_
                        have BK521 := n2_
                        have BK530 := n3_
                        have HB := n4_
                        clear n0_ n1_ n2_ n3_ n4_
                        (try clear hb)
                        (try clear hb2)
                        (try clear hk)
                        (try clear hi)
                        refine hK.out _ _ ⟨(blk_cell BK521.out 0).trans rfl, (blk_cell BK521.out 1).trans rfl, (blk_cell BK521.out 2).trans rfl, (blk_cell BK521.out 3).trans rfl, (blk_cell BK521.out 4).trans rfl, (blk_cell BK521.out 5).trans rfl, HS6_⟩ (fun hHeld => ?_)
                        clear hK K
                        refine norm_ (a' := ?_) ?_ ?_
                        rotate_left
                        · show Act.put _ (some 62) _ = _
                          simp only [Act.put, List.setIfInBounds_toArray, List.set_cons_zero, List.set_cons_succ, i64_w, i32_w]
                          rfl
                        refine pure_ (i := 8) (N := some 54) (v := ?_) (a' := ?_) #[true, true, true, true, true, true, true, true, true, false, false, true, false, false] rfl rfl (any_of HT_.out (by kernel_rfl)) (fun _ _ _ h => h) (Or.inl ⟨by rfl, ?_⟩) ?_ ?_
                        rotate_left
                        · intro w'
                          go_simp
                          with_reducible rfl
                        rotate_left
                        · simp only [Act.put, List.setIfInBounds_toArray, List.set_cons_zero, List.set_cons_succ, i64_w, i32_w]
                          rfl
                        refine pure_ (i := 9) (N := some 63) (v := ?_) (a' := ?_) #[true, true, true, true, true, true, true, true, true, true, false, true, false, false] rfl rfl (any_of HT_.out (by kernel_rfl)) (fun _ _ _ h => h) (Or.inl ⟨by rfl, ?_⟩) ?_ ?_
                        rotate_left
                        · intro w'
                          go_simp
                          with_reducible rfl
                        rotate_left
                        · simp only [Act.put, List.setIfInBounds_toArray, List.set_cons_zero, List.set_cons_succ, i64_w, i32_w]
                          rfl
                        refine pure_ (i := 10) (N := some 64) (v := ?_) (a' := ?_) #[true, true, true, true, true, true, true, true, true, true, true, true, false, false] rfl rfl (any_of HT_.out (by kernel_rfl)) (fun _ _ _ h => h) (Or.inl ⟨by rfl, ?_⟩) ?_ ?_
                        rotate_left
                        · intro w'
                          go_simp
                          with_reducible rfl
                        rotate_left
                        · simp only [Act.put, List.setIfInBounds_toArray, List.set_cons_zero, List.set_cons_succ, i64_w, i32_w]
                          rfl
                        exact norm_ (by simp only [putAll, Act.put, List.setIfInBounds_toArray, List.set_cons_zero, List.set_cons_succ]) (hCont (gb530) _ ⟨hHeld, (by (with_reducible repeat (first | apply Kd.Q_alloc | apply Kd.Q_drewN | apply Kd.Q_drew)); exact HO_10.out), (by (with_reducible repeat (first | refine blk_drewN ?_ _ | refine blk_drew ?_ | refine blk_alloc ?_ _)); exact BK518.out), (by (with_reducible repeat (first | refine blk_drewN ?_ _ | refine blk_drew ?_ | refine blk_alloc ?_ _)); exact BK521.out), (by (with_reducible repeat (first | refine blk_drewN ?_ _ | refine blk_drew ?_ | refine blk_alloc ?_ _)); exact BK530.out), GW530.out, GE530.out, NB518_530.out, NB530_518.out, NB521_530.out, NB530_521.out, (by repeat (first | (with_reducible first | exact HB.out | apply below_alloc | apply pw_below_drewN | apply below_drew1 | refine below_set ?_ GE518.out | refine below_set ?_ GE521.out | refine below_set ?_ GE530.out) | exact HB.out))⟩)
                    rintro gb530 w33 ⟨hS_, h0_, h1_, h2_, h3_, h4_, h5_, h6_, h7_, h8_, h9_, h10_⟩
                    have n0_ : Aside0 (Kd.Q (Kd.int .i64) 3 w33 w.heap.size (fun _ => True) (.slice (some ad525) t522.length co29) t522) := ⟨h0_⟩
                    have n1_ : Aside0 (w33.heap[gb518]? = some (.cells #[.int .i64 a0_0, .int .i64 a0_1, .int .i64 a0_2, .int .i64 a0_3, .int .i64 a0_4, .int .i64 a0_5] 23 (0, 0))) := ⟨h1_⟩
                    have n2_ : Aside0 (w33.heap[gb521]? = some (.cells #[.int .i64 a0_0, .int .i64 a0_1, .int .i64 a0_2, .int .i64 (wrap64 (a0_3 + 1)), .int .i64 a0_4, .int .i64 a0_5] 23 (0, 0))) := ⟨h2_⟩
                    have n3_ : Aside0 (w33.heap[gb530]? = some (.cells #[.int .i64 0, .int .i64 0, .int .i64 0] 45 (0, 0))) := ⟨h3_⟩
                    have n4_ : Aside0 (w.heap.size ≤ gb530) := ⟨h4_⟩
                    have n5_ : Aside0 (w.heap.size ≤ gb530) := ⟨h5_⟩
                    have n6_ : Aside0 (gb518 ≠ gb530) := ⟨h6_⟩
                    have n7_ : Aside0 (gb530 ≠ gb518) := ⟨h7_⟩
                    have n8_ : Aside0 (gb521 ≠ gb530) := ⟨h8_⟩
                    have n9_ : Aside0 (gb530 ≠ gb521) := ⟨h9_⟩
                    have n10_ : Aside0 (Below w.heap.size w w33) := ⟨h10_⟩
                    clear HO_10
                    clear BK518
                    clear BK521
                    clear HB
                    clear h0_ h1_ h2_ h3_ h4_ h5_ h6_ h7_ h8_ h9_ h10_
                    have HO_10 := n0_
                    have BK518 := n1_
                    have BK521 := n2_
                    have BK530 := n3_
                    have GW530 := n4_
                    have GE530 := n5_
                    have NB518_530 := n6_
                    have NB530_518 := n7_
                    have NB521_530 := n8_
                    have NB530_521 := n9_
                    have HB := n10_
                    clear n0_ n1_ n2_ n3_ n4_ n5_ n6_ n7_ n8_ n9_ n10_
                    have hHeld : w33.cell? ⟨gb521, 0, none⟩ = some (.int .i64 a0_0) ∧ w33.cell? ⟨gb521, 1, none⟩ = some (.int .i64 a0_1) ∧ w33.cell? ⟨gb521, 2, none⟩ = some (.int .i64 a0_2) ∧ w33.cell? ⟨gb521, 3, none⟩ = some (.int .i64 (wrap64 (a0_3 + 1))) ∧ w33.cell? ⟨gb521, 4, none⟩ = some (.int .i64 a0_4) ∧ w33.cell? ⟨gb521, 5, none⟩ = some (.int .i64 a0_5) ∧ w33.cell? (ad525.add (x11_2).toNat) = some (.int .i64 (rd t522 x11_2)) := hS_
                    refine norm_ (a' := ?_) ?_ ?_
                    rotate_left
                    · simp only [putAll, Act.put, List.setIfInBounds_toArray, List.set_cons_zero, List.set_cons_succ]
                      rfl
                    refine one_ (i := 12) (N := none) #[true, true, true, true, true, true, true, true, true, true, true, true, true, false] rfl rfl (one_of HT_.out (by kernel_rfl)) (by decide) (fun K hK => ?_)
                    have hs34 : w33.cell? ⟨gb530, 0, none⟩ = some (.int .i64 0) := (blk_cell BK530.out 0).trans rfl
                    have hfs34 := blk_frozen BK530.out 0
                    have hns34_0 := NB518_530.out
                    have hns34_1 := NB521_530.out
                    have hms34_0 := NB530_518.out
                    have hms34_1 := NB530_521.out
                    have hs35 : w33.cell? ⟨gb530, 1, none⟩ = some (.int .i64 0) := (blk_cell BK530.out 1).trans rfl
                    have hfs35 := blk_frozen BK530.out 1
                    have hns35_0 := NB518_530.out
                    have hns35_1 := NB521_530.out
                    have hms35_0 := NB530_518.out
                    have hms35_1 := NB530_521.out
                    have hs36 : w33.cell? ⟨gb530, 2, none⟩ = some (.int .i64 0) := (blk_cell BK530.out 2).trans rfl
                    have hfs36 := blk_frozen BK530.out 2
                    have hns36_0 := NB518_530.out
                    have hns36_1 := NB521_530.out
                    have hms36_0 := NB530_518.out
                    have hms36_1 := NB530_521.out
                    refine skip_ (w1 := ?_) (by rfl) rfl ?_ ?_
                    rotate_left
                    · go_simp
                      rfl
                    refine hK.out _ _ ⟨((cell_far (p := ⟨gb530, _, none⟩) NB521_530.out _).trans (((cell_far (p := ⟨gb530, _, none⟩) NB521_530.out _).trans (((cell_far (p := ⟨gb530, _, none⟩) NB521_530.out _).trans (hHeld.1)))))), ((cell_far (p := ⟨gb530, _, none⟩) NB521_530.out _).trans (((cell_far (p := ⟨gb530, _, none⟩) NB521_530.out _).trans (((cell_far (p := ⟨gb530, _, none⟩) NB521_530.out _).trans (hHeld.2.1)))))), ((cell_far (p := ⟨gb530, _, none⟩) NB521_530.out _).trans (((cell_far (p := ⟨gb530, _, none⟩) NB521_530.out _).trans (((cell_far (p := ⟨gb530, _, none⟩) NB521_530.out _).trans (hHeld.2.2.1)))))), ((cell_far (p := ⟨gb530, _, none⟩) NB521_530.out _).trans (((cell_far (p := ⟨gb530, _, none⟩) NB521_530.out _).trans (((cell_far (p := ⟨gb530, _, none⟩) NB521_530.out _).trans (hHeld.2.2.2.1)))))), ((cell_far (p := ⟨gb530, _, none⟩) NB521_530.out _).trans (((cell_far (p := ⟨gb530, _, none⟩) NB521_530.out _).trans (((cell_far (p := ⟨gb530, _, none⟩) NB521_530.out _).trans (hHeld.2.2.2.2.1)))))), ((cell_far (p := ⟨gb530, _, none⟩) NB521_530.out _).trans (((cell_far (p := ⟨gb530, _, none⟩) NB521_530.out _).trans (((cell_far (p := ⟨gb530, _, none⟩) NB521_530.out _).trans (hHeld.2.2.2.2.2.1)))))), ((cell_far (p := ⟨gb530, _, none⟩) (by first | exact Kd.own_blk (Kd.Q_ne HO_10.out BK530.out (by decide)) | (rw [add_block]; exact Kd.own_blk (Kd.Q_ne HO_10.out BK530.out (by decide))) | (show (Addr.add _ _).block ≠ _; rw [add_block]; exact Kd.own_blk (Kd.Q_ne HO_10.out BK530.out (by decide))) | (dsimp only; exact Kd.own_blk (Kd.Q_ne HO_10.out BK530.out (by decide)))) _).trans (((cell_far (p := ⟨gb530, _, none⟩) (by first | exact Kd.own_blk (Kd.Q_ne HO_10.out BK530.out (by decide)) | (rw [add_block]; exact Kd.own_blk (Kd.Q_ne HO_10.out BK530.out (by decide))) | (show (Addr.add _ _).block ≠ _; rw [add_block]; exact Kd.own_blk (Kd.Q_ne HO_10.out BK530.out (by decide))) | (dsimp only; exact Kd.own_blk (Kd.Q_ne HO_10.out BK530.out (by decide)))) _).trans (((cell_far (p := ⟨gb530, _, none⟩) (by first | exact Kd.own_blk (Kd.Q_ne HO_10.out BK530.out (by decide)) | (rw [add_block]; exact Kd.own_blk (Kd.Q_ne HO_10.out BK530.out (by decide))) | (show (Addr.add _ _).block ≠ _; rw [add_block]; exact Kd.own_blk (Kd.Q_ne HO_10.out BK530.out (by decide))) | (dsimp only; exact Kd.own_blk (Kd.Q_ne HO_10.out BK530.out (by decide)))) _).trans (hHeld.2.2.2.2.2.2))))))⟩ (fun hHeld => ?_)
                    clear hK K
                    refine pure_ (i := 13) (N := some 13) (v := ?_) (a' := ?_) #[true, true, true, true, true, true, true, true, true, true, true, true, true, true] rfl rfl (any_of HT_.out (by kernel_rfl)) (fun _ _ _ h => h) (Or.inl ⟨by rfl, ?_⟩) ?_ ?_
                    rotate_left
                    · intro w'
                      go_simp
                      with_reducible rfl
                    rotate_left
                    · simp only [Act.put, List.setIfInBounds_toArray, List.set_cons_zero, List.set_cons_succ, i64_w, i32_w]
                      rfl
                    refine done_ (done_of HT_.out (by kernel_rfl)) ?_
                    try go_wp2
                    go_roundg k2
                    case measure => have := HJ4.out; have := HK2.out; omega
                    case rel => exact ⟨(wrap64 (x11_2 + 1)), (by first | rfl | (simp; done) | (simp [*]; done)), H', ⟨by have := HJ4.out; have := HK2.out; omega⟩, ⟨by (with_reducible repeat (first | apply Kd.Q_alloc | apply Kd.Q_drewN | apply Kd.Q_drew)); exact Kd.Q_mono (Kd.Q_far (p := ⟨gb530, 2, none⟩) (Kd.Q_far (p := ⟨gb530, 1, none⟩) (Kd.Q_far (p := ⟨gb530, 0, none⟩) (Kd.Q_types HO_10.out BK530.out (by decide)) (fun _ hk => hk.2) (.int .i64 t526)) (fun _ hk => hk.2) (.int .i64 t527)) (fun _ hk => hk.2) (.int .i64 t528)) (fun _ hk => trivial)⟩, ⟨by (with_reducible repeat (first | refine blk_drewN ?_ _ | refine blk_drew ?_ | refine blk_alloc ?_ _)); refine blk_far ?_ NB518_530.out _; (with_reducible repeat (first | refine blk_drewN ?_ _ | refine blk_drew ?_ | refine blk_alloc ?_ _)); refine blk_far ?_ NB518_530.out _; (with_reducible repeat (first | refine blk_drewN ?_ _ | refine blk_drew ?_ | refine blk_alloc ?_ _)); refine blk_far ?_ NB518_530.out _; (with_reducible repeat (first | refine blk_drewN ?_ _ | refine blk_drew ?_ | refine blk_alloc ?_ _)); exact BK518.out⟩, ⟨by (with_reducible repeat (first | refine blk_drewN ?_ _ | refine blk_drew ?_ | refine blk_alloc ?_ _)); refine blk_far ?_ NB521_530.out _; (with_reducible repeat (first | refine blk_drewN ?_ _ | refine blk_drew ?_ | refine blk_alloc ?_ _)); refine blk_far ?_ NB521_530.out _; (with_reducible repeat (first | refine blk_drewN ?_ _ | refine blk_drew ?_ | refine blk_alloc ?_ _)); refine blk_far ?_ NB521_530.out _; (with_reducible repeat (first | refine blk_drewN ?_ _ | refine blk_drew ?_ | refine blk_alloc ?_ _)); exact BK521.out⟩, ⟨by repeat (first | (with_reducible first | exact HB.out | apply below_alloc | apply pw_below_drewN | apply below_drew1 | refine below_set ?_ GE518.out | refine below_set ?_ GE521.out | refine below_set ?_ GE530.out) | exact HB.out)⟩⟩
                  · rw [if_neg c28] at H
                    exact absurd H (by simp)
                · rw [if_neg c26] at H
                  exact absurd H (by simp)
              · rw [if_neg c25] at H
                have c25b0 : decide (x11_2 < (t522.length : Int)) = false := decide_eq_false c25
                clear c25
                have H' := Aside0.mk H
                clear H
                obtain ⟨Ao37, co37, eo37, _⟩ := Kd.Q_slice HO_10.out
                subst eo37
                go_wp2
                go_loopg [14] k2 (fun kq v14 w' => ∃ (x14_3 : Int), v14 = .int .i64 x14_3 ∧ Aside0 (solventlaw14_LayoutSparesShrink.l1 kq a1 t519 (Int.tmod (wrap64 (a2)) a0_2) x14_3 a0_0 a0_1 a0_2 a0_3 a0_4 a0_5 a0_0 a0_1 a0_2 (wrap64 (a0_3 + 1)) a0_4 a0_5 = some r) ∧ Aside0 (kq ≤ k2) ∧ Aside0 (w'.heap[gb518]? = some (.cells #[.int .i64 a0_0, .int .i64 a0_1, .int .i64 a0_2, .int .i64 a0_3, .int .i64 a0_4, .int .i64 a0_5] 23 (0, 0))) ∧ Aside0 (w'.heap[gb521]? = some (.cells #[.int .i64 a0_0, .int .i64 a0_1, .int .i64 a0_2, .int .i64 (wrap64 (a0_3 + 1)), .int .i64 a0_4, .int .i64 a0_5] 23 (0, 0))) ∧ Aside0 (Below w.heap.size w w'))
                case atStart => exact ⟨(0), (by first | rfl | (simp; done) | (simp [*]; done)), H', ⟨Nat.le_refl _⟩, ⟨by (with_reducible repeat (first | refine blk_drewN ?_ _ | refine blk_drew ?_ | refine blk_alloc ?_ _)); exact BK518.out⟩, ⟨by (with_reducible repeat (first | refine blk_drewN ?_ _ | refine blk_drew ?_ | refine blk_alloc ?_ _)); exact BK521.out⟩, ⟨by repeat (first | (with_reducible first | exact HB.out | apply below_alloc | apply pw_below_drewN | apply below_drew1 | refine below_set ?_ GE518.out | refine below_set ?_ GE521.out) | exact HB.out)⟩⟩
                case round =>
                  clear H'
                  try clear c1
                  try clear c2
                  try clear p2
                  try clear c3
                  try clear p5
                  try clear q5
                  try clear hx5
                  try clear p6
                  try clear c8
                  try clear c9
                  try clear c10
                  try clear c16
                  try clear c17
                  try clear c17b0
                  try clear c17b1
                  try clear c21
                  try clear c25
                  try clear c25b0
                  try clear c26
                  try clear c26b0
                  try clear c28
                  try clear c28b0
                  try clear c28b1
                  try clear c31
                  try clear c34
                  try clear hcz11_0
                  try clear hcz11_1
                  try clear hcz11_2
                  try clear hcz11_3
                  try clear hcz11_4
                  try clear hcz11_5
                  try clear hcz13_0
                  try clear hcz13_1
                  try clear hcz13_2
                  try clear hcz13_3
                  try clear hcz13_4
                  try clear hcz13_5
                  try clear hcz14_0
                  try clear hcz14_1
                  try clear hcz14_2
                  try clear hcz14_3
                  try clear hcz14_4
                  try clear hcz14_5
                  try clear hcz19_0
                  try clear hcz19_1
                  try clear hcz19_2
                  try clear hcz19_3
                  try clear hcz19_4
                  try clear hcz19_5
                  try clear hcz22_0
                  try clear hcz22_1
                  try clear hcz22_2
                  try clear hcz22_3
                  try clear hcz22_4
                  try clear hcz22_5
                  try clear hcz23_0
                  try clear hcz23_1
                  try clear hcz23_2
                  try clear hcz23_3
                  try clear hcz23_4
                  try clear hcz23_5
                  try clear hfz11_0
                  try clear hfz11_1
                  try clear hfz11_2
                  try clear hfz11_3
                  try clear hfz11_4
                  try clear hfz11_5
                  try clear hfz13_0
                  try clear hfz13_1
                  try clear hfz13_2
                  try clear hfz13_3
                  try clear hfz13_4
                  try clear hfz13_5
                  try clear hfz14_0
                  try clear hfz14_1
                  try clear hfz14_2
                  try clear hfz14_3
                  try clear hfz14_4
                  try clear hfz14_5
                  try clear hfz19_0
                  try clear hfz19_1
                  try clear hfz19_2
                  try clear hfz19_3
                  try clear hfz19_4
                  try clear hfz19_5
                  try clear hfz22_0
                  try clear hfz22_1
                  try clear hfz22_2
                  try clear hfz22_3
                  try clear hfz22_4
                  try clear hfz22_5
                  try clear hfz23_0
                  try clear hfz23_1
                  try clear hfz23_2
                  try clear hfz23_3
                  try clear hfz23_4
                  try clear hfz23_5
                  try clear hx525_0
                  try clear p2
                  try clear p525
                  try clear p6
                  try clear q525
                  obtain ⟨x14_3, rfl, HA, HK3, BK518, BK521, HB⟩ := hrel
                  cases gk with
                  | zero => exact absurd HA.out (by simp [solventlaw14_LayoutSparesShrink.l1])
                  | succ k3 =>
                    have H := HA.out
                    clear HA
                    simp only [solventlaw14_LayoutSparesShrink.l1] at H
                    replace H := Option.bind_eq_some_iff.mp H
                    obtain ⟨t531, A380, H⟩ := H
                    replace H : (if x14_3 < t531 then ((layout_Place.f k3 a0_0 a0_1 a0_2 a0_3 a0_4 a0_5 (Int.tmod (wrap64 (a2)) a0_2) a1 x14_3).bind fun t534 => ((layout_Place.f k3 a0_0 a0_1 a0_2 (wrap64 (a0_3 + 1)) a0_4 a0_5 (Int.tmod (wrap64 (a2)) a0_2) a1 x14_3).bind fun t537 => ((solventref13_Same.f k3 t534 t537).bind fun t540 => (if t540 = true then (solventlaw14_LayoutSparesShrink.l1 k3 a1 t519 (Int.tmod (wrap64 (a2)) a0_2) (wrap64 (x14_3 + 1)) a0_0 a0_1 a0_2 a0_3 a0_4 a0_5 a0_0 a0_1 a0_2 (wrap64 (a0_3 + 1)) a0_4 a0_5) else (none))))) else (if t519 = true then ((layout_Groups.f k3 a0_0 a0_1 a0_2 (wrap64 (a0_3 + 1)) a0_4 a0_5 a1).bind fun t532 => ((layout_Groups.f k3 a0_0 a0_1 a0_2 a0_3 a0_4 a0_5 a1).bind fun t533 => (some (decide (t532 ≤ t533))))) else (none))) = some r := H
                    have A38 := Aside0.mk A380
                    clear A380
                    by_cases c39 : x14_3 < t531
                    · rw [if_pos c39] at H
                      have c39b0 : decide (x14_3 < t531) = true := decide_eq_true c39
                      clear c39
                      replace H := Option.bind_eq_some_iff.mp H
                      obtain ⟨t534, A400, H⟩ := H
                      replace H : ((layout_Place.f k3 a0_0 a0_1 a0_2 (wrap64 (a0_3 + 1)) a0_4 a0_5 (Int.tmod (wrap64 (a2)) a0_2) a1 x14_3).bind fun t537 => ((solventref13_Same.f k3 t534 t537).bind fun t540 => (if t540 = true then (solventlaw14_LayoutSparesShrink.l1 k3 a1 t519 (Int.tmod (wrap64 (a2)) a0_2) (wrap64 (x14_3 + 1)) a0_0 a0_1 a0_2 a0_3 a0_4 a0_5 a0_0 a0_1 a0_2 (wrap64 (a0_3 + 1)) a0_4 a0_5) else (none)))) = some r := H
                      have A40 := Aside0.mk A400
                      clear A400
                      replace H := Option.bind_eq_some_iff.mp H
                      obtain ⟨t537, A410, H⟩ := H
                      replace H : ((solventref13_Same.f k3 t534 t537).bind fun t540 => (if t540 = true then (solventlaw14_LayoutSparesShrink.l1 k3 a1 t519 (Int.tmod (wrap64 (a2)) a0_2) (wrap64 (x14_3 + 1)) a0_0 a0_1 a0_2 a0_3 a0_4 a0_5 a0_0 a0_1 a0_2 (wrap64 (a0_3 + 1)) a0_4 a0_5) else (none))) = some r := H
                      have A41 := Aside0.mk A410
                      clear A410
                      replace H := Option.bind_eq_some_iff.mp H
                      obtain ⟨t540, A420, H⟩ := H
                      replace H : (if t540 = true then (solventlaw14_LayoutSparesShrink.l1 k3 a1 t519 (Int.tmod (wrap64 (a2)) a0_2) (wrap64 (x14_3 + 1)) a0_0 a0_1 a0_2 a0_3 a0_4 a0_5 a0_0 a0_1 a0_2 (wrap64 (a0_3 + 1)) a0_4 a0_5) else (none)) = some r := H
                      have A42 := Aside0.mk A420
                      clear A420
                      by_cases c43 : t540 = true
                      · subst c43
                        have H1 : (solventlaw14_LayoutSparesShrink.l1 k3 a1 t519 (Int.tmod (wrap64 (a2)) a0_2) (wrap64 (x14_3 + 1)) a0_0 a0_1 a0_2 a0_3 a0_4 a0_5 a0_0 a0_1 a0_2 (wrap64 (a0_3 + 1)) a0_4 a0_5) = some r := by rw [if_pos rfl] at H; exact H
                        clear H
                        have H := H1
                        clear H1
                        have H' := Aside0.mk H
                        clear H
                        have hnb44 := NB521_518.out
                        have hnc44 := NB518_521.out
                        have hcz45_0 : wr.cell? ⟨gb521, 0, none⟩ = some (.int .i64 a0_0) := (blk_cell BK521.out 0).trans rfl
                        have hcz45_1 : wr.cell? ⟨gb521, 1, none⟩ = some (.int .i64 a0_1) := (blk_cell BK521.out 1).trans rfl
                        have hcz45_2 : wr.cell? ⟨gb521, 2, none⟩ = some (.int .i64 a0_2) := (blk_cell BK521.out 2).trans rfl
                        have hcz45_3 : wr.cell? ⟨gb521, 3, none⟩ = some (.int .i64 (wrap64 (a0_3 + 1))) := (blk_cell BK521.out 3).trans rfl
                        have hcz45_4 : wr.cell? ⟨gb521, 4, none⟩ = some (.int .i64 a0_4) := (blk_cell BK521.out 4).trans rfl
                        have hcz45_5 : wr.cell? ⟨gb521, 5, none⟩ = some (.int .i64 a0_5) := (blk_cell BK521.out 5).trans rfl
                        have hfz45_0 := blk_frozen BK521.out 0
                        have hfz45_1 := blk_frozen BK521.out 1
                        have hfz45_2 := blk_frozen BK521.out 2
                        have hfz45_3 := blk_frozen BK521.out 3
                        have hfz45_4 := blk_frozen BK521.out 4
                        have hfz45_5 := blk_frozen BK521.out 5
                        try go_wp2_with (first | ((with_reducible refine gate_callee (f := 32) rfl ?_); refine goesL_ (some 70) rfl rfl Try.func32 (by kernel_rfl) rfl #[.agg #[.int .i64 a0_0, .int .i64 a0_1, .int .i64 a0_2, .int .i64 (wrap64 (a0_3 + 1)), .int .i64 a0_4, .int .i64 a0_5], .int .i64 a1] rfl (by (try simp only [List.map_toArray, List.map_cons, List.map_nil]); first | done | rfl | (simp only [List.length_drop, List.length_take]; rfl)) ?_; (with_reducible refine (layout_Groups.calls k3 a0_0 a0_1 a0_2 (wrap64 (a0_3 + 1)) a0_4 a0_5 a1 t531 _ A38.out).mono ?_); rintro e w46 ⟨rfl, hb⟩; refine ⟨_, rfl, ?_⟩; have n0_ := Aside0.mk (blk_below (g := gb518) (o := .cells #[.int .i64 a0_0, .int .i64 a0_1, .int .i64 a0_2, .int .i64 a0_3, .int .i64 a0_4, .int .i64 a0_5] 23 (0, 0)) (by (with_reducible repeat (first | refine blk_drewN ?_ _ | refine blk_drew ?_ | refine blk_alloc ?_ _)); exact BK518.out) hb); have n1_ := Aside0.mk (blk_below (g := gb521) (o := .cells #[.int .i64 a0_0, .int .i64 a0_1, .int .i64 a0_2, .int .i64 (wrap64 (a0_3 + 1)), .int .i64 a0_4, .int .i64 a0_5] 23 (0, 0)) (by (with_reducible repeat (first | refine blk_drewN ?_ _ | refine blk_drew ?_ | refine blk_alloc ?_ _)); exact BK521.out) hb); have n2_ := Aside0.mk (below_step (by repeat (first | (with_reducible first | exact HB.out | apply below_alloc | apply pw_below_drewN | apply below_drew1 | refine below_set ?_ GE518.out | refine below_set ?_ GE521.out) | exact HB.out)) hb); clear BK518; clear BK521; clear HB; have BK518 := n0_; have BK521 := n1_; have HB := n2_; clear n0_ n1_ n2_; (try clear hb); (try clear hb2); (try clear hk); (try clear hi)))
                        have n0_ := Aside0.mk (blk_drew BK518.out)
                        have n1_ := Aside0.mk (blk_drew BK521.out)
                        have n2_ := Aside0.mk (below_drew1 HB.out)
                        clear BK518
                        clear BK521
                        clear HB
                        have BK518 := n0_
                        have BK521 := n1_
                        have HB := n2_
                        clear n0_ n1_ n2_
                        refine start_ (n := 12) (S := fun w' => w'.cell? ⟨gb518, 0, none⟩ = some (.int .i64 a0_0) ∧ w'.cell? ⟨gb518, 1, none⟩ = some (.int .i64 a0_1) ∧ w'.cell? ⟨gb518, 2, none⟩ = some (.int .i64 a0_2) ∧ w'.cell? ⟨gb518, 3, none⟩ = some (.int .i64 a0_3) ∧ w'.cell? ⟨gb518, 4, none⟩ = some (.int .i64 a0_4) ∧ w'.cell? ⟨gb518, 5, none⟩ = some (.int .i64 a0_5) ∧ w'.cell? ⟨gb521, 0, none⟩ = some (.int .i64 a0_0) ∧ w'.cell? ⟨gb521, 1, none⟩ = some (.int .i64 a0_1) ∧ w'.cell? ⟨gb521, 2, none⟩ = some (.int .i64 a0_2) ∧ w'.cell? ⟨gb521, 3, none⟩ = some (.int .i64 (wrap64 (a0_3 + 1))) ∧ w'.cell? ⟨gb521, 4, none⟩ = some (.int .i64 a0_4) ∧ w'.cell? ⟨gb521, 5, none⟩ = some (.int .i64 a0_5)) (ds := []) #[false, false, false, false, false, false, false, false, false, false, false, false] (by kernel_rfl) rfl rfl ⟨(blk_cell BK518.out 0).trans rfl, (blk_cell BK518.out 1).trans rfl, (blk_cell BK518.out 2).trans rfl, (blk_cell BK518.out 3).trans rfl, (blk_cell BK518.out 4).trans rfl, (blk_cell BK518.out 5).trans rfl, (blk_cell BK521.out 0).trans rfl, (blk_cell BK521.out 1).trans rfl, (blk_cell BK521.out 2).trans rfl, (blk_cell BK521.out 3).trans rfl, (blk_cell BK521.out 4).trans rfl, (blk_cell BK521.out 5).trans rfl⟩ (fun hHeld => ?_); refine with_tabW solventlaw14_LayoutSparesShrink.tab17 solventlaw14_LayoutSparesShrink.bits17 (fun HT_ HW_ => ?_)
                        generalize w46.drew = w47 at BK518 BK521 HB hHeld ⊢
                        refine pure_ (i := 1) (N := some 75) (v := ?_) (a' := ?_) #[false, true, false, false, false, false, false, false, false, false, false, false] rfl rfl (any_of HT_.out (by kernel_rfl)) (fun _ _ _ h => h) (Or.inl ⟨by rfl, ?_⟩) ?_ ?_
                        rotate_left
                        · intro w'
                          go_simp
                          with_reducible rfl
                        rotate_left
                        · simp only [Act.put, List.setIfInBounds_toArray, List.set_cons_zero, List.set_cons_succ, i64_w, i32_w]
                          rfl
                        refine pure_ (i := 2) (N := some 76) (v := ?_) (a' := ?_) #[false, true, true, false, false, false, false, false, false, false, false, false] rfl rfl (any_of HT_.out (by kernel_rfl)) (fun _ _ _ h => h) (Or.inl ⟨by rfl, ?_⟩) ?_ ?_
                        rotate_left
                        · intro w'
                          go_simp
                          with_reducible rfl
                        rotate_left
                        · simp only [Act.put, List.setIfInBounds_toArray, List.set_cons_zero, List.set_cons_succ, i64_w, i32_w]
                          rfl
                        refine pure_ (i := 3) (N := some 77) (v := ?_) (a' := ?_) #[false, true, true, true, false, false, false, false, false, false, false, false] rfl rfl (any_of HT_.out (by kernel_rfl)) (fun _ _ _ h => h) (Or.inl ⟨by rfl, ?_⟩) ?_ ?_
                        rotate_left
                        · intro w'
                          go_simp
                          with_reducible rfl
                        rotate_left
                        · simp only [Act.put, List.setIfInBounds_toArray, List.set_cons_zero, List.set_cons_succ, i64_w, i32_w]
                          rfl
                        refine pure_ (i := 6) (N := some 80) (v := ?_) (a' := ?_) #[false, true, true, true, false, false, true, false, false, false, false, false] rfl rfl (any_of HT_.out (by kernel_rfl)) (fun _ _ _ h => h) (Or.inl ⟨by rfl, ?_⟩) ?_ ?_
                        rotate_left
                        · intro w'
                          go_simp
                          with_reducible rfl
                        rotate_left
                        · simp only [Act.put, List.setIfInBounds_toArray, List.set_cons_zero, List.set_cons_succ, i64_w, i32_w]
                          rfl
                        refine pure_ (i := 7) (N := some 81) (v := ?_) (a' := ?_) #[false, true, true, true, false, false, true, true, false, false, false, false] rfl rfl (any_of HT_.out (by kernel_rfl)) (fun _ _ _ h => h) (Or.inl ⟨by rfl, ?_⟩) ?_ ?_
                        rotate_left
                        · intro w'
                          go_simp
                          with_reducible rfl
                        rotate_left
                        · simp only [Act.put, List.setIfInBounds_toArray, List.set_cons_zero, List.set_cons_succ, i64_w, i32_w]
                          rfl
                        refine pure_ (i := 8) (N := some 82) (v := ?_) (a' := ?_) #[false, true, true, true, false, false, true, true, true, false, false, false] rfl rfl (any_of HT_.out (by kernel_rfl)) (fun _ _ _ h => h) (Or.inl ⟨by rfl, ?_⟩) ?_ ?_
                        rotate_left
                        · intro w'
                          go_simp
                          with_reducible rfl
                        rotate_left
                        · simp only [Act.put, List.setIfInBounds_toArray, List.set_cons_zero, List.set_cons_succ, i64_w, i32_w]
                          rfl
                        refine take_ (i := 0) (N := some 74) (v := ?_) (a' := ?_) #[true, true, true, true, false, false, true, true, true, false, false, false] rfl rfl (take_ofW HT_.out HW_.out (by kernel_rfl)) (fun _ _ _ h => h) (Or.inl ⟨by rfl, ?_⟩) hHeld ?_ ?_
                        rotate_left
                        · rintro w' ⟨s0, s1, s2, s3, s4, s5, s6, s7, s8, s9, s10, s11⟩
                          go_simp
                          with_reducible rfl
                        rotate_left
                        · simp only [Act.put, List.setIfInBounds_toArray, List.set_cons_zero, List.set_cons_succ, i64_w, i32_w]
                          rfl
                        refine take_ (i := 5) (N := some 79) (v := ?_) (a' := ?_) #[true, true, true, true, false, true, true, true, true, false, false, false] rfl rfl (take_ofW HT_.out HW_.out (by kernel_rfl)) (fun _ _ _ h => h) (Or.inl ⟨by rfl, ?_⟩) hHeld ?_ ?_
                        rotate_left
                        · rintro w' ⟨s0, s1, s2, s3, s4, s5, s6, s7, s8, s9, s10, s11⟩
                          go_simp
                          with_reducible rfl
                        rotate_left
                        · simp only [Act.put, List.setIfInBounds_toArray, List.set_cons_zero, List.set_cons_succ, i64_w, i32_w]
                          rfl
                        refine one_ (i := 4) (N := some 78) #[true, true, true, true, true, true, true, true, true, false, false, false] rfl rfl (one_of HT_.out (by kernel_rfl)) (by decide) (fun K hK => ?_)
                        refine goes_ Try.func35 (by kernel_rfl) rfl #[.agg #[.int .i64 a0_0, .int .i64 a0_1, .int .i64 a0_2, .int .i64 a0_3, .int .i64 a0_4, .int .i64 a0_5], .int .i64 (Int.tmod (wrap64 (a2)) a0_2), .int .i64 a1, .int .i64 x14_3] (by rfl) rfl rfl (by (try simp only [List.map_toArray, List.map_cons, List.map_nil]); first | done | rfl | (simp only [List.length_drop, List.length_take]; rfl)) ?_
                        with_reducible refine (layout_Place.calls k3 a0_0 a0_1 a0_2 a0_3 a0_4 a0_5 (Int.tmod (wrap64 (a2)) a0_2) a1 x14_3 t534 _ A40.out).mono ?_
                        rintro e w48 ⟨v535, rfl, ho0, hb⟩
                        refine ⟨_, rfl, ?_⟩
                        have n0_ := Aside0.mk (Kd.V_lower (Kd.V_mono (ok' := fun k_ => k_ ≠ gb518 ∧ k_ ≠ gb521) ho0 (fun k_ hk_ => ⟨(Kd.freshB (g := gb518) (o := .cells #[.int .i64 a0_0, .int .i64 a0_1, .int .i64 a0_2, .int .i64 a0_3, .int .i64 a0_4, .int .i64 a0_5] 23 (0, 0)) (by (with_reducible repeat (first | refine blk_drewN ?_ _ | refine blk_drew ?_ | refine blk_alloc ?_ _)); exact BK518.out) k_ hk_), (Kd.freshB (g := gb521) (o := .cells #[.int .i64 a0_0, .int .i64 a0_1, .int .i64 a0_2, .int .i64 (wrap64 (a0_3 + 1)), .int .i64 a0_4, .int .i64 a0_5] 23 (0, 0)) (by (with_reducible repeat (first | refine blk_drewN ?_ _ | refine blk_drew ?_ | refine blk_alloc ?_ _)); exact BK521.out) k_ hk_)⟩)) (below_size (by repeat (first | (with_reducible first | exact HB.out | apply below_alloc | apply pw_below_drewN | apply below_drew1 | refine below_set ?_ GE518.out | refine below_set ?_ GE521.out) | exact HB.out))))
                        have n1_ := Aside0.mk (blk_below (g := gb518) (o := .cells #[.int .i64 a0_0, .int .i64 a0_1, .int .i64 a0_2, .int .i64 a0_3, .int .i64 a0_4, .int .i64 a0_5] 23 (0, 0)) (by (with_reducible repeat (first | refine blk_drewN ?_ _ | refine blk_drew ?_ | refine blk_alloc ?_ _)); exact BK518.out) hb)
                        have n2_ := Aside0.mk (blk_below (g := gb521) (o := .cells #[.int .i64 a0_0, .int .i64 a0_1, .int .i64 a0_2, .int .i64 (wrap64 (a0_3 + 1)), .int .i64 a0_4, .int .i64 a0_5] 23 (0, 0)) (by (with_reducible repeat (first | refine blk_drewN ?_ _ | refine blk_drew ?_ | refine blk_alloc ?_ _)); exact BK521.out) hb)
                        have n3_ := Aside0.mk (below_step (by repeat (first | (with_reducible first | exact HB.out | apply below_alloc | apply pw_below_drewN | apply below_drew1 | refine below_set ?_ GE518.out | refine below_set ?_ GE521.out) | exact HB.out)) hb)
                        clear BK518
                        clear BK521
                        clear HB
                        have HO536 := n0_
                        have BK518 := n1_
                        have BK521 := n2_
                        have HB := n3_
                        clear n0_ n1_ n2_ n3_
                        (try clear hb)
                        (try clear hb2)
                        (try clear hk)
                        (try clear hi)
                        (try clear ho0)
                        refine hK.out _ _ ⟨(blk_cell BK518.out 0).trans rfl, (blk_cell BK518.out 1).trans rfl, (blk_cell BK518.out 2).trans rfl, (blk_cell BK518.out 3).trans rfl, (blk_cell BK518.out 4).trans rfl, (blk_cell BK518.out 5).trans rfl, (blk_cell BK521.out 0).trans rfl, (blk_cell BK521.out 1).trans rfl, (blk_cell BK521.out 2).trans rfl, (blk_cell BK521.out 3).trans rfl, (blk_cell BK521.out 4).trans rfl, (blk_cell BK521.out 5).trans rfl⟩ (fun hHeld => ?_)
                        clear hK K
                        refine norm_ (a' := ?_) ?_ ?_
                        rotate_left
                        · show Act.put _ (some 78) _ = _
                          simp only [Act.put, List.setIfInBounds_toArray, List.set_cons_zero, List.set_cons_succ, i64_w, i32_w]
                          rfl
                        refine one_ (i := 9) (N := some 83) #[true, true, true, true, true, true, true, true, true, true, false, false] rfl rfl (one_of HT_.out (by kernel_rfl)) (by decide) (fun K hK => ?_)
                        refine goes_ Try.func35 (by kernel_rfl) rfl #[.agg #[.int .i64 a0_0, .int .i64 a0_1, .int .i64 a0_2, .int .i64 (wrap64 (a0_3 + 1)), .int .i64 a0_4, .int .i64 a0_5], .int .i64 (Int.tmod (wrap64 (a2)) a0_2), .int .i64 a1, .int .i64 x14_3] (by rfl) rfl rfl (by (try simp only [List.map_toArray, List.map_cons, List.map_nil]); first | done | rfl | (simp only [List.length_drop, List.length_take]; rfl)) ?_
                        with_reducible refine (layout_Place.calls k3 a0_0 a0_1 a0_2 (wrap64 (a0_3 + 1)) a0_4 a0_5 (Int.tmod (wrap64 (a2)) a0_2) a1 x14_3 t537 _ A41.out).mono ?_
                        rintro e w49 ⟨v538, rfl, ho0, hb⟩
                        refine ⟨_, rfl, ?_⟩
                        have n0_ := Aside0.mk (Kd.V_below (by (with_reducible repeat (first | apply Kd.V_alloc | apply Kd.V_drewN | apply Kd.V_drew)); exact HO536.out) hb)
                        have n1_ := Aside0.mk (Kd.V_lower (Kd.V_mono (ok' := fun k_ => k_ ≠ gb518 ∧ k_ ≠ gb521) ho0 (fun k_ hk_ => ⟨(Kd.freshB (g := gb518) (o := .cells #[.int .i64 a0_0, .int .i64 a0_1, .int .i64 a0_2, .int .i64 a0_3, .int .i64 a0_4, .int .i64 a0_5] 23 (0, 0)) (by (with_reducible repeat (first | refine blk_drewN ?_ _ | refine blk_drew ?_ | refine blk_alloc ?_ _)); exact BK518.out) k_ hk_), (Kd.freshB (g := gb521) (o := .cells #[.int .i64 a0_0, .int .i64 a0_1, .int .i64 a0_2, .int .i64 (wrap64 (a0_3 + 1)), .int .i64 a0_4, .int .i64 a0_5] 23 (0, 0)) (by (with_reducible repeat (first | refine blk_drewN ?_ _ | refine blk_drew ?_ | refine blk_alloc ?_ _)); exact BK521.out) k_ hk_)⟩)) (below_size (by repeat (first | (with_reducible first | exact HB.out | apply below_alloc | apply pw_below_drewN | apply below_drew1 | refine below_set ?_ GE518.out | refine below_set ?_ GE521.out) | exact HB.out))))
                        have n2_ := Aside0.mk (blk_below (g := gb518) (o := .cells #[.int .i64 a0_0, .int .i64 a0_1, .int .i64 a0_2, .int .i64 a0_3, .int .i64 a0_4, .int .i64 a0_5] 23 (0, 0)) (by (with_reducible repeat (first | refine blk_drewN ?_ _ | refine blk_drew ?_ | refine blk_alloc ?_ _)); exact BK518.out) hb)
                        have n3_ := Aside0.mk (blk_below (g := gb521) (o := .cells #[.int .i64 a0_0, .int .i64 a0_1, .int .i64 a0_2, .int .i64 (wrap64 (a0_3 + 1)), .int .i64 a0_4, .int .i64 a0_5] 23 (0, 0)) (by (with_reducible repeat (first | refine blk_drewN ?_ _ | refine blk_drew ?_ | refine blk_alloc ?_ _)); exact BK521.out) hb)
                        have n4_ := Aside0.mk (below_step (by repeat (first | (with_reducible first | exact HB.out | apply below_alloc | apply pw_below_drewN | apply below_drew1 | refine below_set ?_ GE518.out | refine below_set ?_ GE521.out) | exact HB.out)) hb)
                        clear HO536
                        clear BK518
                        clear BK521
                        clear HB
                        have HO536 := n0_
                        have HO539 := n1_
                        have BK518 := n2_
                        have BK521 := n3_
                        have HB := n4_
                        clear n0_ n1_ n2_ n3_ n4_
                        (try clear hb)
                        (try clear hb2)
                        (try clear hk)
                        (try clear hi)
                        (try clear ho0)
                        obtain ⟨Ao50, co50, eo50⟩ := Kd.V_slice HO536.out
                        (first | subst eo50 | (injection eo50 with f1_ f2_ f3_; have f4_ := f1_.symm; have f5_ := f3_.symm; clear f1_ f2_ f3_; subst f4_; subst f5_))
                        obtain ⟨Ao51, co51, eo51⟩ := Kd.V_slice HO539.out
                        (first | subst eo51 | (injection eo51 with f1_ f2_ f3_; have f4_ := f1_.symm; have f5_ := f3_.symm; clear f1_ f2_ f3_; subst f4_; subst f5_))
                        refine hK.out _ _ ⟨(blk_cell BK518.out 0).trans rfl, (blk_cell BK518.out 1).trans rfl, (blk_cell BK518.out 2).trans rfl, (blk_cell BK518.out 3).trans rfl, (blk_cell BK518.out 4).trans rfl, (blk_cell BK518.out 5).trans rfl, (blk_cell BK521.out 0).trans rfl, (blk_cell BK521.out 1).trans rfl, (blk_cell BK521.out 2).trans rfl, (blk_cell BK521.out 3).trans rfl, (blk_cell BK521.out 4).trans rfl, (blk_cell BK521.out 5).trans rfl⟩ (fun hHeld => ?_)
                        clear hK K
                        refine norm_ (a' := ?_) ?_ ?_
                        rotate_left
                        · show Act.put _ (some 83) _ = _
                          simp only [Act.put, List.setIfInBounds_toArray, List.set_cons_zero, List.set_cons_succ, i64_w, i32_w]
                          rfl
                        refine one_ (i := 10) (N := some 84) #[true, true, true, true, true, true, true, true, true, true, true, false] rfl rfl (one_of HT_.out (by kernel_rfl)) (by decide) (fun K hK => ?_)
                        refine goes_ Try.func18 (by kernel_rfl) rfl #[.slice Ao50 t534.length co50, .slice Ao51 t537.length co51] (by rfl) rfl rfl (by (try simp only [List.map_toArray, List.map_cons, List.map_nil]); first | done | rfl | (simp only [List.length_drop, List.length_take]; rfl)) ?_
                        with_reducible refine (solventref13_Same.calls k3 _ _ t534 _ _ t537 true _ ?side1 ?side2 ?side3 ?side4 A42.out).mono ?_
                        (case side1 => repeat (first | exact (Kd.V_reads' HO536.out).2.2 | (with_reducible refine Kd.C_alloc ?_ _) | (with_reducible refine Kd.C_drewN ?_ _) | (with_reducible refine Kd.C_drew ?_)))
                        (case side2 => exact (Kd.V_reads' HO536.out).2.1)
                        (case side3 => repeat (first | exact (Kd.V_reads' HO539.out).2.2 | (with_reducible refine Kd.C_alloc ?_ _) | (with_reducible refine Kd.C_drewN ?_ _) | (with_reducible refine Kd.C_drew ?_)))
                        (case side4 => exact (Kd.V_reads' HO539.out).2.1)
                        rintro e w' ⟨rfl, ⟨nd, rfl⟩⟩
                        refine ⟨_, rfl, ?_⟩
                        refine hK.out _ _ ⟨(blk_cell BK518.out 0).trans rfl, (blk_cell BK518.out 1).trans rfl, (blk_cell BK518.out 2).trans rfl, (blk_cell BK518.out 3).trans rfl, (blk_cell BK518.out 4).trans rfl, (blk_cell BK518.out 5).trans rfl, (blk_cell BK521.out 0).trans rfl, (blk_cell BK521.out 1).trans rfl, (blk_cell BK521.out 2).trans rfl, (blk_cell BK521.out 3).trans rfl, (blk_cell BK521.out 4).trans rfl, (blk_cell BK521.out 5).trans rfl⟩ (fun hHeld => ?_)
                        clear hK K
                        refine norm_ (a' := ?_) ?_ ?_
                        rotate_left
                        · show Act.put _ (some 84) _ = _
                          simp only [Act.put, List.setIfInBounds_toArray, List.set_cons_zero, List.set_cons_succ, i64_w, i32_w]
                          rfl
                        refine pure_ (i := 11) (N := some 15) (v := ?_) (a' := ?_) #[true, true, true, true, true, true, true, true, true, true, true, true] rfl rfl (any_of HT_.out (by kernel_rfl)) (fun _ _ _ h => h) (Or.inl ⟨by rfl, ?_⟩) ?_ ?_
                        rotate_left
                        · intro w'
                          go_simp
                          with_reducible rfl
                        rotate_left
                        · simp only [Act.put, List.setIfInBounds_toArray, List.set_cons_zero, List.set_cons_succ, i64_w, i32_w]
                          rfl
                        refine done_ (done_of HT_.out (by kernel_rfl)) ?_
                        try go_wp2
                        go_roundg k3
                        case measure => have := HJ4.out; have := HK2.out; have := HK3.out; omega
                        case rel => exact ⟨(wrap64 (x14_3 + 1)), (by first | rfl | (simp; done) | (simp [*]; done)), H', ⟨by have := HJ4.out; have := HK2.out; have := HK3.out; omega⟩, ⟨by (with_reducible repeat (first | refine blk_drewN ?_ _ | refine blk_drew ?_ | refine blk_alloc ?_ _)); exact BK518.out⟩, ⟨by (with_reducible repeat (first | refine blk_drewN ?_ _ | refine blk_drew ?_ | refine blk_alloc ?_ _)); exact BK521.out⟩, ⟨by repeat (first | (with_reducible first | exact HB.out | apply below_alloc | apply pw_below_drewN | apply below_drew1 | refine below_set ?_ GE518.out | refine below_set ?_ GE521.out) | exact HB.out)⟩⟩
                      · replace c43 := Bool.eq_false_iff.mpr c43
                        subst c43
                        have H1 : (none) = some r := by rw [if_neg (show ¬ (false = true) by decide)] at H; exact H
                        clear H
                        have H := H1
                        clear H1
                        exact absurd H (by simp)
                    · rw [if_neg c39] at H
                      have c39b0 : decide (x14_3 < t531) = false := decide_eq_false c39
                      clear c39
                      by_cases c52 : t519 = true
                      · subst c52
                        have H1 : ((layout_Groups.f k3 a0_0 a0_1 a0_2 (wrap64 (a0_3 + 1)) a0_4 a0_5 a1).bind fun t532 => ((layout_Groups.f k3 a0_0 a0_1 a0_2 a0_3 a0_4 a0_5 a1).bind fun t533 => (some (decide (t532 ≤ t533))))) = some r := by rw [if_pos rfl] at H; exact H
                        clear H
                        have H := H1
                        clear H1
                        replace H := Option.bind_eq_some_iff.mp H
                        obtain ⟨t532, A530, H⟩ := H
                        replace H : ((layout_Groups.f k3 a0_0 a0_1 a0_2 a0_3 a0_4 a0_5 a1).bind fun t533 => (some (decide (t532 ≤ t533)))) = some r := H
                        have A53 := Aside0.mk A530
                        clear A530
                        replace H := Option.bind_eq_some_iff.mp H
                        obtain ⟨t533, A540, H⟩ := H
                        replace H : (some (decide (t532 ≤ t533))) = some r := H
                        have A54 := Aside0.mk A540
                        clear A540
                        obtain rfl := Option.some.inj H
                        have hnb55 := NB521_518.out
                        have hnc55 := NB518_521.out
                        have hcz56_0 : wr.cell? ⟨gb521, 0, none⟩ = some (.int .i64 a0_0) := (blk_cell BK521.out 0).trans rfl
                        have hcz56_1 : wr.cell? ⟨gb521, 1, none⟩ = some (.int .i64 a0_1) := (blk_cell BK521.out 1).trans rfl
                        have hcz56_2 : wr.cell? ⟨gb521, 2, none⟩ = some (.int .i64 a0_2) := (blk_cell BK521.out 2).trans rfl
                        have hcz56_3 : wr.cell? ⟨gb521, 3, none⟩ = some (.int .i64 (wrap64 (a0_3 + 1))) := (blk_cell BK521.out 3).trans rfl
                        have hcz56_4 : wr.cell? ⟨gb521, 4, none⟩ = some (.int .i64 a0_4) := (blk_cell BK521.out 4).trans rfl
                        have hcz56_5 : wr.cell? ⟨gb521, 5, none⟩ = some (.int .i64 a0_5) := (blk_cell BK521.out 5).trans rfl
                        have hfz56_0 := blk_frozen BK521.out 0
                        have hfz56_1 := blk_frozen BK521.out 1
                        have hfz56_2 := blk_frozen BK521.out 2
                        have hfz56_3 := blk_frozen BK521.out 3
                        have hfz56_4 := blk_frozen BK521.out 4
                        have hfz56_5 := blk_frozen BK521.out 5
                        try go_wp2_with (first | ((with_reducible refine gate_callee (f := 32) rfl ?_); refine goesL_ (some 70) rfl rfl Try.func32 (by kernel_rfl) rfl #[.agg #[.int .i64 a0_0, .int .i64 a0_1, .int .i64 a0_2, .int .i64 (wrap64 (a0_3 + 1)), .int .i64 a0_4, .int .i64 a0_5], .int .i64 a1] rfl (by (try simp only [List.map_toArray, List.map_cons, List.map_nil]); first | done | rfl | (simp only [List.length_drop, List.length_take]; rfl)) ?_; (with_reducible refine (layout_Groups.calls k3 a0_0 a0_1 a0_2 (wrap64 (a0_3 + 1)) a0_4 a0_5 a1 t531 _ A38.out).mono ?_); rintro e w57 ⟨rfl, hb⟩; refine ⟨_, rfl, ?_⟩; have n0_ := Aside0.mk (blk_below (g := gb518) (o := .cells #[.int .i64 a0_0, .int .i64 a0_1, .int .i64 a0_2, .int .i64 a0_3, .int .i64 a0_4, .int .i64 a0_5] 23 (0, 0)) (by (with_reducible repeat (first | refine blk_drewN ?_ _ | refine blk_drew ?_ | refine blk_alloc ?_ _)); exact BK518.out) hb); have n1_ := Aside0.mk (blk_below (g := gb521) (o := .cells #[.int .i64 a0_0, .int .i64 a0_1, .int .i64 a0_2, .int .i64 (wrap64 (a0_3 + 1)), .int .i64 a0_4, .int .i64 a0_5] 23 (0, 0)) (by (with_reducible repeat (first | refine blk_drewN ?_ _ | refine blk_drew ?_ | refine blk_alloc ?_ _)); exact BK521.out) hb); have n2_ := Aside0.mk (below_step (by repeat (first | (with_reducible first | exact HB.out | apply below_alloc | apply pw_below_drewN | apply below_drew1 | refine below_set ?_ GE518.out | refine below_set ?_ GE521.out) | exact HB.out)) hb); clear BK518; clear BK521; clear HB; have BK518 := n0_; have BK521 := n1_; have HB := n2_; clear n0_ n1_ n2_; (try clear hb); (try clear hb2); (try clear hk); (try clear hi)))
                        have n0_ := Aside0.mk (blk_drew BK518.out)
                        have n1_ := Aside0.mk (blk_drew BK521.out)
                        have n2_ := Aside0.mk (below_drew1 HB.out)
                        clear BK518
                        clear BK521
                        clear HB
                        have BK518 := n0_
                        have BK521 := n1_
                        have HB := n2_
                        clear n0_ n1_ n2_
                        refine start_ (n := 11) (S := fun w' => w'.cell? ⟨gb521, 0, none⟩ = some (.int .i64 a0_0) ∧ w'.cell? ⟨gb521, 1, none⟩ = some (.int .i64 a0_1) ∧ w'.cell? ⟨gb521, 2, none⟩ = some (.int .i64 a0_2) ∧ w'.cell? ⟨gb521, 3, none⟩ = some (.int .i64 (wrap64 (a0_3 + 1))) ∧ w'.cell? ⟨gb521, 4, none⟩ = some (.int .i64 a0_4) ∧ w'.cell? ⟨gb521, 5, none⟩ = some (.int .i64 a0_5) ∧ w'.cell? ⟨gb518, 0, none⟩ = some (.int .i64 a0_0) ∧ w'.cell? ⟨gb518, 1, none⟩ = some (.int .i64 a0_1) ∧ w'.cell? ⟨gb518, 2, none⟩ = some (.int .i64 a0_2) ∧ w'.cell? ⟨gb518, 3, none⟩ = some (.int .i64 a0_3) ∧ w'.cell? ⟨gb518, 4, none⟩ = some (.int .i64 a0_4) ∧ w'.cell? ⟨gb518, 5, none⟩ = some (.int .i64 a0_5)) (ds := []) #[false, false, false, false, false, false, false, false, false, false, false] (by kernel_rfl) rfl rfl ⟨(blk_cell BK521.out 0).trans rfl, (blk_cell BK521.out 1).trans rfl, (blk_cell BK521.out 2).trans rfl, (blk_cell BK521.out 3).trans rfl, (blk_cell BK521.out 4).trans rfl, (blk_cell BK521.out 5).trans rfl, (blk_cell BK518.out 0).trans rfl, (blk_cell BK518.out 1).trans rfl, (blk_cell BK518.out 2).trans rfl, (blk_cell BK518.out 3).trans rfl, (blk_cell BK518.out 4).trans rfl, (blk_cell BK518.out 5).trans rfl⟩ (fun hHeld => ?_); refine with_tabW solventlaw14_LayoutSparesShrink.tab20 solventlaw14_LayoutSparesShrink.bits20 (fun HT_ HW_ => ?_)
                        generalize w57.drew = w58 at BK518 BK521 HB hHeld ⊢
                        refine pure_ (i := 0) (N := some 87) (v := ?_) (a' := ?_) #[true, false, false, false, false, false, false, false, false, false, false] rfl rfl (any_of HT_.out (by kernel_rfl)) (fun _ _ _ h => h) (Or.inl ⟨by rfl, ?_⟩) ?_ ?_
                        rotate_left
                        · intro w'
                          go_simp
                          with_reducible rfl
                        rotate_left
                        · simp only [Act.put, List.setIfInBounds_toArray, List.set_cons_zero, List.set_cons_succ, i64_w, i32_w]
                          rfl
                        refine pure_ (i := 1) (N := some 88) (v := ?_) (a' := ?_) #[true, true, false, false, false, false, false, false, false, false, false] rfl rfl (any_of HT_.out (by kernel_rfl)) (fun _ _ _ h => h) (Or.inl ⟨by rfl, ?_⟩) ?_ ?_
                        rotate_left
                        · intro w'
                          go_simp
                          with_reducible rfl
                        rotate_left
                        · simp only [Act.put, List.setIfInBounds_toArray, List.set_cons_zero, List.set_cons_succ, i64_w, i32_w]
                          rfl
                        refine pure_ (i := 3) (N := some 90) (v := ?_) (a' := ?_) #[true, true, false, true, false, false, false, false, false, false, false] rfl rfl (any_of HT_.out (by kernel_rfl)) (fun _ _ _ h => h) (Or.inl ⟨by rfl, ?_⟩) ?_ ?_
                        rotate_left
                        · intro w'
                          go_simp
                          with_reducible rfl
                        rotate_left
                        · simp only [Act.put, List.setIfInBounds_toArray, List.set_cons_zero, List.set_cons_succ, i64_w, i32_w]
                          rfl
                        refine pure_ (i := 6) (N := some 93) (v := ?_) (a' := ?_) #[true, true, false, true, false, false, true, false, false, false, false] rfl rfl (any_of HT_.out (by kernel_rfl)) (fun _ _ _ h => h) (Or.inl ⟨by rfl, ?_⟩) ?_ ?_
                        rotate_left
                        · intro w'
                          go_simp
                          with_reducible rfl
                        rotate_left
                        · simp only [Act.put, List.setIfInBounds_toArray, List.set_cons_zero, List.set_cons_succ, i64_w, i32_w]
                          rfl
                        refine take_ (i := 2) (N := some 89) (v := ?_) (a' := ?_) #[true, true, true, true, false, false, true, false, false, false, false] rfl rfl (take_ofW HT_.out HW_.out (by kernel_rfl)) (fun _ _ _ h => h) (Or.inl ⟨by rfl, ?_⟩) hHeld ?_ ?_
                        rotate_left
                        · rintro w' ⟨s0, s1, s2, s3, s4, s5, s6, s7, s8, s9, s10, s11⟩
                          go_simp
                          with_reducible rfl
                        rotate_left
                        · simp only [Act.put, List.setIfInBounds_toArray, List.set_cons_zero, List.set_cons_succ, i64_w, i32_w]
                          rfl
                        refine take_ (i := 5) (N := some 92) (v := ?_) (a' := ?_) #[true, true, true, true, false, true, true, false, false, false, false] rfl rfl (take_ofW HT_.out HW_.out (by kernel_rfl)) (fun _ _ _ h => h) (Or.inl ⟨by rfl, ?_⟩) hHeld ?_ ?_
                        rotate_left
                        · rintro w' ⟨s0, s1, s2, s3, s4, s5, s6, s7, s8, s9, s10, s11⟩
                          go_simp
                          with_reducible rfl
                        rotate_left
                        · simp only [Act.put, List.setIfInBounds_toArray, List.set_cons_zero, List.set_cons_succ, i64_w, i32_w]
                          rfl
                        refine one_ (i := 4) (N := some 91) #[true, true, true, true, true, true, true, false, false, false, false] rfl rfl (one_of HT_.out (by kernel_rfl)) (by decide) (fun K hK => ?_)
                        refine goes_ Try.func32 (by kernel_rfl) rfl #[.agg #[.int .i64 a0_0, .int .i64 a0_1, .int .i64 a0_2, .int .i64 (wrap64 (a0_3 + 1)), .int .i64 a0_4, .int .i64 a0_5], .int .i64 a1] (by rfl) rfl rfl (by (try simp only [List.map_toArray, List.map_cons, List.map_nil]); first | done | rfl | (simp only [List.length_drop, List.length_take]; rfl)) ?_
                        with_reducible refine (layout_Groups.calls k3 a0_0 a0_1 a0_2 (wrap64 (a0_3 + 1)) a0_4 a0_5 a1 t532 _ A53.out).mono ?_
                        rintro e w59 ⟨rfl, hb⟩
                        refine ⟨_, rfl, ?_⟩
                        have n0_ := Aside0.mk (blk_below (g := gb518) (o := .cells #[.int .i64 a0_0, .int .i64 a0_1, .int .i64 a0_2, .int .i64 a0_3, .int .i64 a0_4, .int .i64 a0_5] 23 (0, 0)) (by (with_reducible repeat (first | refine blk_drewN ?_ _ | refine blk_drew ?_ | refine blk_alloc ?_ _)); exact BK518.out) hb)
                        have n1_ := Aside0.mk (blk_below (g := gb521) (o := .cells #[.int .i64 a0_0, .int .i64 a0_1, .int .i64 a0_2, .int .i64 (wrap64 (a0_3 + 1)), .int .i64 a0_4, .int .i64 a0_5] 23 (0, 0)) (by (with_reducible repeat (first | refine blk_drewN ?_ _ | refine blk_drew ?_ | refine blk_alloc ?_ _)); exact BK521.out) hb)
                        have n2_ := Aside0.mk (below_step (by repeat (first | (with_reducible first | exact HB.out | apply below_alloc | apply pw_below_drewN | apply below_drew1 | refine below_set ?_ GE518.out | refine below_set ?_ GE521.out) | exact HB.out)) hb)
                        clear BK518
                        clear BK521
                        clear HB
                        have BK518 := n0_
                        have BK521 := n1_
                        have HB := n2_
                        clear n0_ n1_ n2_
                        (try clear hb)
                        (try clear hb2)
                        (try clear hk)
                        (try clear hi)
                        refine hK.out _ _ ⟨(blk_cell BK521.out 0).trans rfl, (blk_cell BK521.out 1).trans rfl, (blk_cell BK521.out 2).trans rfl, (blk_cell BK521.out 3).trans rfl, (blk_cell BK521.out 4).trans rfl, (blk_cell BK521.out 5).trans rfl, (blk_cell BK518.out 0).trans rfl, (blk_cell BK518.out 1).trans rfl, (blk_cell BK518.out 2).trans rfl, (blk_cell BK518.out 3).trans rfl, (blk_cell BK518.out 4).trans rfl, (blk_cell BK518.out 5).trans rfl⟩ (fun hHeld => ?_)
                        clear hK K
                        refine norm_ (a' := ?_) ?_ ?_
                        rotate_left
                        · show Act.put _ (some 91) _ = _
                          simp only [Act.put, List.setIfInBounds_toArray, List.set_cons_zero, List.set_cons_succ, i64_w, i32_w]
                          rfl
                        refine one_ (i := 7) (N := some 94) #[true, true, true, true, true, true, true, true, false, false, false] rfl rfl (one_of HT_.out (by kernel_rfl)) (by decide) (fun K hK => ?_)
                        refine goes_ Try.func32 (by kernel_rfl) rfl #[.agg #[.int .i64 a0_0, .int .i64 a0_1, .int .i64 a0_2, .int .i64 a0_3, .int .i64 a0_4, .int .i64 a0_5], .int .i64 a1] (by rfl) rfl rfl (by (try simp only [List.map_toArray, List.map_cons, List.map_nil]); first | done | rfl | (simp only [List.length_drop, List.length_take]; rfl)) ?_
                        with_reducible refine (layout_Groups.calls k3 a0_0 a0_1 a0_2 a0_3 a0_4 a0_5 a1 t533 _ A54.out).mono ?_
                        rintro e w60 ⟨rfl, hb⟩
                        refine ⟨_, rfl, ?_⟩
                        have n0_ := Aside0.mk (blk_below (g := gb518) (o := .cells #[.int .i64 a0_0, .int .i64 a0_1, .int .i64 a0_2, .int .i64 a0_3, .int .i64 a0_4, .int .i64 a0_5] 23 (0, 0)) (by (with_reducible repeat (first | refine blk_drewN ?_ _ | refine blk_drew ?_ | refine blk_alloc ?_ _)); exact BK518.out) hb)
                        have n1_ := Aside0.mk (blk_below (g := gb521) (o := .cells #[.int .i64 a0_0, .int .i64 a0_1, .int .i64 a0_2, .int .i64 (wrap64 (a0_3 + 1)), .int .i64 a0_4, .int .i64 a0_5] 23 (0, 0)) (by (with_reducible repeat (first | refine blk_drewN ?_ _ | refine blk_drew ?_ | refine blk_alloc ?_ _)); exact BK521.out) hb)
                        have n2_ := Aside0.mk (below_step (by repeat (first | (with_reducible first | exact HB.out | apply below_alloc | apply pw_below_drewN | apply below_drew1 | refine below_set ?_ GE518.out | refine below_set ?_ GE521.out) | exact HB.out)) hb)
                        clear BK518
                        clear BK521
                        clear HB
                        have BK518 := n0_
                        have BK521 := n1_
                        have HB := n2_
                        clear n0_ n1_ n2_
                        (try clear hb)
                        (try clear hb2)
                        (try clear hk)
                        (try clear hi)
                        refine hK.out _ _ ⟨(blk_cell BK521.out 0).trans rfl, (blk_cell BK521.out 1).trans rfl, (blk_cell BK521.out 2).trans rfl, (blk_cell BK521.out 3).trans rfl, (blk_cell BK521.out 4).trans rfl, (blk_cell BK521.out 5).trans rfl, (blk_cell BK518.out 0).trans rfl, (blk_cell BK518.out 1).trans rfl, (blk_cell BK518.out 2).trans rfl, (blk_cell BK518.out 3).trans rfl, (blk_cell BK518.out 4).trans rfl, (blk_cell BK518.out 5).trans rfl⟩ (fun hHeld => ?_)
                        clear hK K
                        refine norm_ (a' := ?_) ?_ ?_
                        rotate_left
                        · show Act.put _ (some 94) _ = _
                          simp only [Act.put, List.setIfInBounds_toArray, List.set_cons_zero, List.set_cons_succ, i64_w, i32_w]
                          rfl
                        refine pure_ (i := 8) (N := some 95) (v := ?_) (a' := ?_) #[true, true, true, true, true, true, true, true, true, false, false] rfl rfl (any_of HT_.out (by kernel_rfl)) (fun _ _ _ h => h) (Or.inl ⟨by rfl, ?_⟩) ?_ ?_
                        rotate_left
                        · intro w'
                          go_simp
                          with_reducible rfl
                        rotate_left
                        · simp only [Act.put, List.setIfInBounds_toArray, List.set_cons_zero, List.set_cons_succ, i64_w, i32_w]
                          rfl
                        refine pure_ (i := 9) (N := some 96) (v := ?_) (a' := ?_) #[true, true, true, true, true, true, true, true, true, true, false] rfl rfl (any_of HT_.out (by kernel_rfl)) (fun _ _ _ h => h) (Or.inl ⟨by rfl, ?_⟩) ?_ ?_
                        rotate_left
                        · intro w'
                          go_simp
                          with_reducible rfl
                        rotate_left
                        · simp only [Act.put, List.setIfInBounds_toArray, List.set_cons_zero, List.set_cons_succ, i64_w, i32_w]
                          rfl
                        refine pure_ (i := 10) (N := some 6) (v := ?_) (a' := ?_) #[true, true, true, true, true, true, true, true, true, true, true] rfl rfl (any_of HT_.out (by kernel_rfl)) (fun _ _ _ h => h) (Or.inl ⟨by rfl, ?_⟩) ?_ ?_
                        rotate_left
                        · intro w'
                          go_simp
                          with_reducible rfl
                        rotate_left
                        · simp only [Act.put, List.setIfInBounds_toArray, List.set_cons_zero, List.set_cons_succ, i64_w, i32_w]
                          rfl
                        refine done_ (done_of HT_.out (by kernel_rfl)) ?_
                        try go_wp2
                        go_ret
                        exact ⟨by first | rfl | (simp [errW_none, errW_some] <;> rfl) | (simp [*, errW_none, errW_some] <;> rfl), by repeat (first | (with_reducible first | exact HB.out | apply below_alloc | apply pw_below_drewN | apply below_drew1 | refine below_set ?_ GE518.out | refine below_set ?_ GE521.out) | exact HB.out)⟩
                      · replace c52 := Bool.eq_false_iff.mpr c52
                        subst c52
                        have H1 : (none) = some r := by rw [if_neg (show ¬ (false = true) by decide)] at H; exact H
                        clear H
                        have H := H1
                        clear H1
                        exact absurd H (by simp)

end Go.Proofs.Ytiejibkjhmmpaaa.Q
