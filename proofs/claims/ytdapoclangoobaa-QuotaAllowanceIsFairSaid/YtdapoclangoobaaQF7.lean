/- Printed by a program of this session (wip/tools) out of the translation: Lean functions that answer as the Go functions do, and the proofs of that; turned by hand where the program calls closures or cuts with three indexes. -/
import Derived.Test.YtdapoclangoobaaQ0
import Derived.Test.YtdapoclangoobaaQV
import Derived.Test.YtdapoclangoobaaQW
import Derived.Test.YtdapoclangoobaaQT
import Derived.Test.YtdapoclangoobaaQS
namespace Go.Proofs.Ytdapoclangoobaa.Q
open Go.RowKit Go.Proofs.YtdapoclangoobaaW.PrintWords Go.Proofs.YtdapoclangoobaaW.PrintLast Go.Proofs.YtdapoclangoobaaW.PrintMore
attribute [local go_sem] max2_int min2_int max_two min_two max_three min_three max_four min_four   -- for this text's walks alone
set_option linter.unusedVariables false
set_option linter.unusedSimpArgs false

/-! ### solventlaw32_QuotaAllowanceIsFair: function 7 -/
mutual
def solventlaw32_QuotaAllowanceIsFair.j0 : Nat → List (S23) → Int → Bool → Bool → Option (Bool)
  | 0, _, _, _, _ => none
  | k + 1, x0, x1, x5, x20 => if x20 = true then (some x5) else (solventlaw32_QuotaAllowanceIsFair.l0 k x0 x1 x5 0 0)
def solventlaw32_QuotaAllowanceIsFair.l0 : Nat → List (S23) → Int → Bool → Int → Int → Option (Bool)
  | 0, _, _, _, _, _ => none
  | k + 1, x0, x1, x5, x6, x7 => if x7 < (x0.length : Int) then (if 0 ≤ x7 then ((quota_Valid.f k ((rd_T23 x0 x7).f0) ((rd_T23 x0 x7).f1) ((rd_T23 x0 x7).f2) ((rd_T23 x0 x7).f3) ((rd_T23 x0 x7).f4) ((rd_T23 x0 x7).f5)).bind fun t189 => (if t189 = true then ((solventref32_Wish.f ((rd_T23 x0 x7).f0) ((rd_T23 x0 x7).f1) ((rd_T23 x0 x7).f2) ((rd_T23 x0 x7).f3) ((rd_T23 x0 x7).f4) ((rd_T23 x0 x7).f5)).bind fun t191 => (solventlaw32_QuotaAllowanceIsFair.l0 k x0 x1 x5 (wrap64 (x6 + t191)) (wrap64 (x7 + 1)))) else (some x5))) else (none)) else ((quota_Allowance.f k x0 x1).bind fun t192 => (if (t192.length : Int) = (x0.length : Int) then (solventlaw32_QuotaAllowanceIsFair.l1 k x0 x1 x5 x6 t192 0 0) else (none)))
def solventlaw32_QuotaAllowanceIsFair.l1 : Nat → List (S23) → Int → Bool → Int → List Int → Int → Int → Option (Bool)
  | 0, _, _, _, _, _, _, _ => none
  | k + 1, x0, x1, x5, x6, x8, x9, x10 => if x10 < (x8.length : Int) then (if 0 ≤ x10 then (if x10 < (x0.length : Int) then ((solventref32_Wish.f ((rd_T23 x0 x10).f0) ((rd_T23 x0 x10).f1) ((rd_T23 x0 x10).f2) ((rd_T23 x0 x10).f3) ((rd_T23 x0 x10).f4) ((rd_T23 x0 x10).f5)).bind fun t197 => (if (rd x8 x10) < 0 then (solventlaw32_QuotaAllowanceIsFair.j3 k x0 x1 x5 x6 x8 (wrap64 (x9 + (rd x8 x10))) x10 t197 true) else (solventlaw32_QuotaAllowanceIsFair.j3 k x0 x1 x5 x6 x8 (wrap64 (x9 + (rd x8 x10))) x10 t197 (decide ((rd x8 x10) > t197))))) else (none)) else (none)) else (if x5 = true then (some (x9 == (mn x1 x6))) else (none))
def solventlaw32_QuotaAllowanceIsFair.j3 : Nat → List (S23) → Int → Bool → Int → List Int → Int → Int → Int → Bool → Option (Bool)
  | 0, _, _, _, _, _, _, _, _, _ => none
  | k + 1, x0, x1, x5, x6, x8, x9, x10, x11, x79 => if x79 = true then (none) else (solventlaw32_QuotaAllowanceIsFair.l2 k x0 x1 x5 x6 x8 x9 x10 x11 0)
def solventlaw32_QuotaAllowanceIsFair.l2 : Nat → List (S23) → Int → Bool → Int → List Int → Int → Int → Int → Int → Option (Bool)
  | 0, _, _, _, _, _, _, _, _, _ => none
  | k + 1, x0, x1, x5, x6, x8, x9, x10, x11, x12 => if x12 < (x8.length : Int) then (if 0 ≤ x10 then (if x10 < (x8.length : Int) then (solventlaw32_QuotaAllowanceIsFair.j5 k x0 x1 x5 x6 x8 x9 x10 x11 x12 (decide ((rd x8 x10) < x11))) else (none)) else (none)) else (solventlaw32_QuotaAllowanceIsFair.j5 k x0 x1 x5 x6 x8 x9 x10 x11 x12 false)
def solventlaw32_QuotaAllowanceIsFair.j5 : Nat → List (S23) → Int → Bool → Int → List Int → Int → Int → Int → Int → Bool → Option (Bool)
  | 0, _, _, _, _, _, _, _, _, _, _ => none
  | k + 1, x0, x1, x5, x6, x8, x9, x10, x11, x12, x91 => if x91 = true then (if 0 ≤ x12 then (if x12 < (x0.length : Int) then (if 0 ≤ x10 then (if x10 < (x0.length : Int) then (if ((rd_T23 x0 x12).f3) > ((rd_T23 x0 x10).f3) then (if x12 < (x8.length : Int) then (if (rd x8 x12) > 0 then (none) else (if ((rd_T23 x0 x12).f3) = ((rd_T23 x0 x10).f3) then (if x10 < (x8.length : Int) then (if (rd x8 x12) > (wrap64 ((rd x8 x10) + 1)) then (none) else (if x12 > x10 then (if (rd x8 x12) > (rd x8 x10) then (none) else (solventlaw32_QuotaAllowanceIsFair.l2 k x0 x1 x5 x6 x8 x9 x10 x11 (wrap64 (x12 + 1)))) else (solventlaw32_QuotaAllowanceIsFair.l2 k x0 x1 x5 x6 x8 x9 x10 x11 (wrap64 (x12 + 1))))) else (none)) else (solventlaw32_QuotaAllowanceIsFair.l2 k x0 x1 x5 x6 x8 x9 x10 x11 (wrap64 (x12 + 1))))) else (none)) else (if ((rd_T23 x0 x12).f3) = ((rd_T23 x0 x10).f3) then (if x12 < (x8.length : Int) then (if x10 < (x8.length : Int) then (if (rd x8 x12) > (wrap64 ((rd x8 x10) + 1)) then (none) else (if x12 > x10 then (if (rd x8 x12) > (rd x8 x10) then (none) else (solventlaw32_QuotaAllowanceIsFair.l2 k x0 x1 x5 x6 x8 x9 x10 x11 (wrap64 (x12 + 1)))) else (solventlaw32_QuotaAllowanceIsFair.l2 k x0 x1 x5 x6 x8 x9 x10 x11 (wrap64 (x12 + 1))))) else (none)) else (none)) else (solventlaw32_QuotaAllowanceIsFair.l2 k x0 x1 x5 x6 x8 x9 x10 x11 (wrap64 (x12 + 1))))) else (none)) else (none)) else (none)) else (none)) else (solventlaw32_QuotaAllowanceIsFair.l1 k x0 x1 x5 x6 x8 x9 (wrap64 (x10 + 1)))
end
def solventlaw32_QuotaAllowanceIsFair.f (k : Nat) (l0 : List (S23)) (a1 : Int) : Option (Bool) := (solventlaw32_sanity.f k).bind fun t187 => (if (l0.length : Int) > 20 then (solventlaw32_QuotaAllowanceIsFair.j0 k l0 a1 t187 true) else (solventlaw32_QuotaAllowanceIsFair.j0 k l0 a1 t187 (decide (a1 < 0))))
theorem solventlaw32_QuotaAllowanceIsFair.mono_l : ∀ k, (∀ y0 y1 y2 y3, LeO (solventlaw32_QuotaAllowanceIsFair.j0 k y0 y1 y2 y3) (solventlaw32_QuotaAllowanceIsFair.j0 (k + 1) y0 y1 y2 y3)) ∧ (∀ y0 y1 y2 y3 y4, LeO (solventlaw32_QuotaAllowanceIsFair.l0 k y0 y1 y2 y3 y4) (solventlaw32_QuotaAllowanceIsFair.l0 (k + 1) y0 y1 y2 y3 y4)) ∧ (∀ y0 y1 y2 y3 y4 y5 y6, LeO (solventlaw32_QuotaAllowanceIsFair.l1 k y0 y1 y2 y3 y4 y5 y6) (solventlaw32_QuotaAllowanceIsFair.l1 (k + 1) y0 y1 y2 y3 y4 y5 y6)) ∧ (∀ y0 y1 y2 y3 y4 y5 y6 y7 y8, LeO (solventlaw32_QuotaAllowanceIsFair.j3 k y0 y1 y2 y3 y4 y5 y6 y7 y8) (solventlaw32_QuotaAllowanceIsFair.j3 (k + 1) y0 y1 y2 y3 y4 y5 y6 y7 y8)) ∧ (∀ y0 y1 y2 y3 y4 y5 y6 y7 y8, LeO (solventlaw32_QuotaAllowanceIsFair.l2 k y0 y1 y2 y3 y4 y5 y6 y7 y8) (solventlaw32_QuotaAllowanceIsFair.l2 (k + 1) y0 y1 y2 y3 y4 y5 y6 y7 y8)) ∧ (∀ y0 y1 y2 y3 y4 y5 y6 y7 y8 y9, LeO (solventlaw32_QuotaAllowanceIsFair.j5 k y0 y1 y2 y3 y4 y5 y6 y7 y8 y9) (solventlaw32_QuotaAllowanceIsFair.j5 (k + 1) y0 y1 y2 y3 y4 y5 y6 y7 y8 y9))
  | 0 => ⟨fun _ _ _ _ r h => by simp [solventlaw32_QuotaAllowanceIsFair.j0] at h, fun _ _ _ _ _ r h => by simp [solventlaw32_QuotaAllowanceIsFair.l0] at h, fun _ _ _ _ _ _ _ r h => by simp [solventlaw32_QuotaAllowanceIsFair.l1] at h, fun _ _ _ _ _ _ _ _ _ r h => by simp [solventlaw32_QuotaAllowanceIsFair.j3] at h, fun _ _ _ _ _ _ _ _ _ r h => by simp [solventlaw32_QuotaAllowanceIsFair.l2] at h, fun _ _ _ _ _ _ _ _ _ _ r h => by simp [solventlaw32_QuotaAllowanceIsFair.j5] at h⟩
  | k + 1 => by
    obtain ⟨ih0, ih1, ih2, ih3, ih4, ih5⟩ := solventlaw32_QuotaAllowanceIsFair.mono_l k
    refine ⟨?_, ?_, ?_, ?_, ?_, ?_⟩
    · intro y0 y1 y2 y3
      unfold solventlaw32_QuotaAllowanceIsFair.j0
      repeat' first
      | (with_reducible exact ih0 _ _ _ _)
      | (with_reducible exact ih1 _ _ _ _ _)
      | (with_reducible exact ih2 _ _ _ _ _ _ _)
      | (with_reducible exact ih3 _ _ _ _ _ _ _ _ _)
      | (with_reducible exact ih4 _ _ _ _ _ _ _ _ _)
      | (with_reducible exact ih5 _ _ _ _ _ _ _ _ _ _)
      | (with_reducible exact quota_Allowance.mono _ _ _)
      | (with_reducible exact quota_Valid.mono _ _ _ _ _ _ _)
      | (with_reducible exact solventlaw32_sanity.mono _)
      | (with_reducible exact LeO.refl _)
      | (with_reducible exact LeO.none _)
      | (with_reducible refine LeO.ite ?_ ?_)
      | (with_reducible refine LeO.bind ?_ (fun _ => ?_))
      | exact ih0 _ _ _ _
      | exact ih1 _ _ _ _ _
      | exact ih2 _ _ _ _ _ _ _
      | exact ih3 _ _ _ _ _ _ _ _ _
      | exact ih4 _ _ _ _ _ _ _ _ _
      | exact ih5 _ _ _ _ _ _ _ _ _ _
      | exact quota_Allowance.mono _ _ _
      | exact quota_Valid.mono _ _ _ _ _ _ _
      | exact solventlaw32_sanity.mono _
      | exact LeO.none _
      | refine LeO.ite ?_ ?_
      | refine LeO.bind ?_ (fun _ => ?_)
    · intro y0 y1 y2 y3 y4
      unfold solventlaw32_QuotaAllowanceIsFair.l0
      repeat' first
      | (with_reducible exact ih0 _ _ _ _)
      | (with_reducible exact ih1 _ _ _ _ _)
      | (with_reducible exact ih2 _ _ _ _ _ _ _)
      | (with_reducible exact ih3 _ _ _ _ _ _ _ _ _)
      | (with_reducible exact ih4 _ _ _ _ _ _ _ _ _)
      | (with_reducible exact ih5 _ _ _ _ _ _ _ _ _ _)
      | (with_reducible exact quota_Allowance.mono _ _ _)
      | (with_reducible exact quota_Valid.mono _ _ _ _ _ _ _)
      | (with_reducible exact solventlaw32_sanity.mono _)
      | (with_reducible exact LeO.refl _)
      | (with_reducible exact LeO.none _)
      | (with_reducible refine LeO.ite ?_ ?_)
      | (with_reducible refine LeO.bind ?_ (fun _ => ?_))
      | exact ih0 _ _ _ _
      | exact ih1 _ _ _ _ _
      | exact ih2 _ _ _ _ _ _ _
      | exact ih3 _ _ _ _ _ _ _ _ _
      | exact ih4 _ _ _ _ _ _ _ _ _
      | exact ih5 _ _ _ _ _ _ _ _ _ _
      | exact quota_Allowance.mono _ _ _
      | exact quota_Valid.mono _ _ _ _ _ _ _
      | exact solventlaw32_sanity.mono _
      | exact LeO.none _
      | refine LeO.ite ?_ ?_
      | refine LeO.bind ?_ (fun _ => ?_)
    · intro y0 y1 y2 y3 y4 y5 y6
      unfold solventlaw32_QuotaAllowanceIsFair.l1
      repeat' first
      | (with_reducible exact ih0 _ _ _ _)
      | (with_reducible exact ih1 _ _ _ _ _)
      | (with_reducible exact ih2 _ _ _ _ _ _ _)
      | (with_reducible exact ih3 _ _ _ _ _ _ _ _ _)
      | (with_reducible exact ih4 _ _ _ _ _ _ _ _ _)
      | (with_reducible exact ih5 _ _ _ _ _ _ _ _ _ _)
      | (with_reducible exact quota_Allowance.mono _ _ _)
      | (with_reducible exact quota_Valid.mono _ _ _ _ _ _ _)
      | (with_reducible exact solventlaw32_sanity.mono _)
      | (with_reducible exact LeO.refl _)
      | (with_reducible exact LeO.none _)
      | (with_reducible refine LeO.ite ?_ ?_)
      | (with_reducible refine LeO.bind ?_ (fun _ => ?_))
      | exact ih0 _ _ _ _
      | exact ih1 _ _ _ _ _
      | exact ih2 _ _ _ _ _ _ _
      | exact ih3 _ _ _ _ _ _ _ _ _
      | exact ih4 _ _ _ _ _ _ _ _ _
      | exact ih5 _ _ _ _ _ _ _ _ _ _
      | exact quota_Allowance.mono _ _ _
      | exact quota_Valid.mono _ _ _ _ _ _ _
      | exact solventlaw32_sanity.mono _
      | exact LeO.none _
      | refine LeO.ite ?_ ?_
      | refine LeO.bind ?_ (fun _ => ?_)
    · intro y0 y1 y2 y3 y4 y5 y6 y7 y8
      unfold solventlaw32_QuotaAllowanceIsFair.j3
      repeat' first
      | (with_reducible exact ih0 _ _ _ _)
      | (with_reducible exact ih1 _ _ _ _ _)
      | (with_reducible exact ih2 _ _ _ _ _ _ _)
      | (with_reducible exact ih3 _ _ _ _ _ _ _ _ _)
      | (with_reducible exact ih4 _ _ _ _ _ _ _ _ _)
      | (with_reducible exact ih5 _ _ _ _ _ _ _ _ _ _)
      | (with_reducible exact quota_Allowance.mono _ _ _)
      | (with_reducible exact quota_Valid.mono _ _ _ _ _ _ _)
      | (with_reducible exact solventlaw32_sanity.mono _)
      | (with_reducible exact LeO.refl _)
      | (with_reducible exact LeO.none _)
      | (with_reducible refine LeO.ite ?_ ?_)
      | (with_reducible refine LeO.bind ?_ (fun _ => ?_))
      | exact ih0 _ _ _ _
      | exact ih1 _ _ _ _ _
      | exact ih2 _ _ _ _ _ _ _
      | exact ih3 _ _ _ _ _ _ _ _ _
      | exact ih4 _ _ _ _ _ _ _ _ _
      | exact ih5 _ _ _ _ _ _ _ _ _ _
      | exact quota_Allowance.mono _ _ _
      | exact quota_Valid.mono _ _ _ _ _ _ _
      | exact solventlaw32_sanity.mono _
      | exact LeO.none _
      | refine LeO.ite ?_ ?_
      | refine LeO.bind ?_ (fun _ => ?_)
    · intro y0 y1 y2 y3 y4 y5 y6 y7 y8
      unfold solventlaw32_QuotaAllowanceIsFair.l2
      repeat' first
      | (with_reducible exact ih0 _ _ _ _)
      | (with_reducible exact ih1 _ _ _ _ _)
      | (with_reducible exact ih2 _ _ _ _ _ _ _)
      | (with_reducible exact ih3 _ _ _ _ _ _ _ _ _)
      | (with_reducible exact ih4 _ _ _ _ _ _ _ _ _)
      | (with_reducible exact ih5 _ _ _ _ _ _ _ _ _ _)
      | (with_reducible exact quota_Allowance.mono _ _ _)
      | (with_reducible exact quota_Valid.mono _ _ _ _ _ _ _)
      | (with_reducible exact solventlaw32_sanity.mono _)
      | (with_reducible exact LeO.refl _)
      | (with_reducible exact LeO.none _)
      | (with_reducible refine LeO.ite ?_ ?_)
      | (with_reducible refine LeO.bind ?_ (fun _ => ?_))
      | exact ih0 _ _ _ _
      | exact ih1 _ _ _ _ _
      | exact ih2 _ _ _ _ _ _ _
      | exact ih3 _ _ _ _ _ _ _ _ _
      | exact ih4 _ _ _ _ _ _ _ _ _
      | exact ih5 _ _ _ _ _ _ _ _ _ _
      | exact quota_Allowance.mono _ _ _
      | exact quota_Valid.mono _ _ _ _ _ _ _
      | exact solventlaw32_sanity.mono _
      | exact LeO.none _
      | refine LeO.ite ?_ ?_
      | refine LeO.bind ?_ (fun _ => ?_)
    · intro y0 y1 y2 y3 y4 y5 y6 y7 y8 y9
      unfold solventlaw32_QuotaAllowanceIsFair.j5
      repeat' first
      | (with_reducible exact ih0 _ _ _ _)
      | (with_reducible exact ih1 _ _ _ _ _)
      | (with_reducible exact ih2 _ _ _ _ _ _ _)
      | (with_reducible exact ih3 _ _ _ _ _ _ _ _ _)
      | (with_reducible exact ih4 _ _ _ _ _ _ _ _ _)
      | (with_reducible exact ih5 _ _ _ _ _ _ _ _ _ _)
      | (with_reducible exact quota_Allowance.mono _ _ _)
      | (with_reducible exact quota_Valid.mono _ _ _ _ _ _ _)
      | (with_reducible exact solventlaw32_sanity.mono _)
      | (with_reducible exact LeO.refl _)
      | (with_reducible exact LeO.none _)
      | (with_reducible refine LeO.ite ?_ ?_)
      | (with_reducible refine LeO.bind ?_ (fun _ => ?_))
      | exact ih0 _ _ _ _
      | exact ih1 _ _ _ _ _
      | exact ih2 _ _ _ _ _ _ _
      | exact ih3 _ _ _ _ _ _ _ _ _
      | exact ih4 _ _ _ _ _ _ _ _ _
      | exact ih5 _ _ _ _ _ _ _ _ _ _
      | exact quota_Allowance.mono _ _ _
      | exact quota_Valid.mono _ _ _ _ _ _ _
      | exact solventlaw32_sanity.mono _
      | exact LeO.none _
      | refine LeO.ite ?_ ?_
      | refine LeO.bind ?_ (fun _ => ?_)
theorem solventlaw32_QuotaAllowanceIsFair.mono : ∀ a0 a1 k, LeO (solventlaw32_QuotaAllowanceIsFair.f k a0 a1) (solventlaw32_QuotaAllowanceIsFair.f (k + 1) a0 a1) := by
  intro a0 a1 k
  obtain ⟨ih0, ih1, ih2, ih3, ih4, ih5⟩ := solventlaw32_QuotaAllowanceIsFair.mono_l k
  unfold solventlaw32_QuotaAllowanceIsFair.f
  repeat' first
      | (with_reducible exact ih0 _ _ _ _)
      | (with_reducible exact ih1 _ _ _ _ _)
      | (with_reducible exact ih2 _ _ _ _ _ _ _)
      | (with_reducible exact ih3 _ _ _ _ _ _ _ _ _)
      | (with_reducible exact ih4 _ _ _ _ _ _ _ _ _)
      | (with_reducible exact ih5 _ _ _ _ _ _ _ _ _ _)
      | (with_reducible exact quota_Allowance.mono _ _ _)
      | (with_reducible exact quota_Valid.mono _ _ _ _ _ _ _)
      | (with_reducible exact solventlaw32_sanity.mono _)
      | (with_reducible exact LeO.refl _)
      | (with_reducible exact LeO.none _)
      | (with_reducible refine LeO.ite ?_ ?_)
      | (with_reducible refine LeO.bind ?_ (fun _ => ?_))
      | exact ih0 _ _ _ _
      | exact ih1 _ _ _ _ _
      | exact ih2 _ _ _ _ _ _ _
      | exact ih3 _ _ _ _ _ _ _ _ _
      | exact ih4 _ _ _ _ _ _ _ _ _
      | exact ih5 _ _ _ _ _ _ _ _ _ _
      | exact quota_Allowance.mono _ _ _
      | exact quota_Valid.mono _ _ _ _ _ _ _
      | exact solventlaw32_sanity.mono _
      | exact LeO.none _
      | refine LeO.ite ?_ ?_
      | refine LeO.bind ?_ (fun _ => ?_)
set_option maxHeartbeats 8000000 in
set_option maxRecDepth 100000 in
theorem solventlaw32_QuotaAllowanceIsFair.calls (k : Nat) (A0 : Option Addr) (c0 : Nat) (l0 : List (S23)) (a1 : Int) (r : Bool) (w : World) (hr0 : Kd.C k23 w A0 l0.length l0) (hc0 : l0.length ≤ c0) (h : solventlaw32_QuotaAllowanceIsFair.f k l0 a1 = some r) :
    Calls Try.prog 7 #[.slice A0 l0.length c0, .int .i64 a1] w fun e w' => e = .returned (.bool r) ∧ Below w.heap.size w w' := by
  have hu23 := Try.underlying23
  have HR0 := Aside0.mk hr0
  have HC0 := Aside0.mk hc0
  clear hr0 hc0
  have HB := Aside0.mk (Below.refl w.heap.size w)
  have H : ((solventlaw32_sanity.f k).bind fun t187 => (if (l0.length : Int) > 20 then (solventlaw32_QuotaAllowanceIsFair.j0 k l0 a1 t187 true) else (solventlaw32_QuotaAllowanceIsFair.j0 k l0 a1 t187 (decide (a1 < 0))))) = some r := h
  clear h
  replace H := Option.bind_eq_some_iff.mp H
  obtain ⟨t187, A30, H⟩ := H
  replace H : (if (l0.length : Int) > 20 then (solventlaw32_QuotaAllowanceIsFair.j0 k l0 a1 t187 true) else (solventlaw32_QuotaAllowanceIsFair.j0 k l0 a1 t187 (decide (a1 < 0)))) = some r := H
  have A3 := Aside0.mk A30
  clear A30
  have HC4 := Aside0.mk H
  clear H
  go_enter Try.func7, Try.ntmps7
  go_upto_region 2 with (first | (go_at_call 10; (with_reducible refine (solventlaw32_sanity.calls k  t187 _ A3.out).mono ?_); rintro e w5 ⟨rfl, hb⟩; have n0_ := Aside0.mk (below_step (by repeat (first | (with_reducible first | exact HB.out | apply below_alloc | apply pw_below_drewN | apply below_drew1) | exact HB.out)) hb); clear HB; have HB := n0_; clear n0_; (try clear hb); (try clear hb2); (try clear hk); (try clear hi)))
  repeat (go_quiet (first | (go_at_call 10; (with_reducible refine (solventlaw32_sanity.calls k  t187 _ A3.out).mono ?_); rintro e w5 ⟨rfl, hb⟩; have n0_ := Aside0.mk (below_step (by repeat (first | (with_reducible first | exact HB.out | apply below_alloc | apply pw_below_drewN | apply below_drew1) | exact HB.out)) hb); clear HB; have HB := n0_; clear n0_; (try clear hb); (try clear hb2); (try clear hk); (try clear hi))); go_upto_region 2 with (first | (go_at_call 10; (with_reducible refine (solventlaw32_sanity.calls k  t187 _ A3.out).mono ?_); rintro e w5 ⟨rfl, hb⟩; have n0_ := Aside0.mk (below_step (by repeat (first | (with_reducible first | exact HB.out | apply below_alloc | apply pw_below_drewN | apply below_drew1) | exact HB.out)) hb); clear HB; have HB := n0_; clear n0_; (try clear hb); (try clear hb2); (try clear hk); (try clear hi))))
  (try simp only [Act.put, List.setIfInBounds_toArray, List.set_cons_zero, List.set_cons_succ])
  go_cut [20] (fun v20 wc => ∃ (kq : Nat) (x20_3 : Bool), v20 = .bool x20_3 ∧ Aside0 (solventlaw32_QuotaAllowanceIsFair.j0 kq l0 a1 t187 x20_3 = some r) ∧ Aside0 (kq ≤ k) ∧ Aside0 (Below w.heap.size w wc))
  case first =>
    have H := HC4.out
    clear HC4
    by_cases c6 : (l0.length : Int) > 20
    · rw [if_pos c6] at H
      have c6b0 : decide (20 < (l0.length : Int)) = true := decide_eq_true c6
      have c6b1 : decide (20 < l0.length) = true := decide_eq_true (by omega)
      clear c6
      (first | rw [c6b0] | (simp only [i64_w, i32_w]; rw [c6b0]) | skip)
      have H' := Aside0.mk H
      clear H
      go_wp2
      repeat (go_quiet (fail); try go_wp2)
      go_meet
      case rel => exact ⟨_, (true), (by first | rfl | (simp; done) | (simp [*]; done)), H', ⟨by first | omega | exact Nat.le_refl _⟩, ⟨by repeat (first | (with_reducible first | exact HB.out | apply below_alloc | apply pw_below_drewN | apply below_drew1) | exact HB.out)⟩⟩
    · rw [if_neg c6] at H
      have c6b0 : decide (20 < (l0.length : Int)) = false := decide_eq_false c6
      have c6b1 : decide (20 < l0.length) = false := decide_eq_false (by omega)
      clear c6
      (first | rw [c6b0] | (simp only [i64_w, i32_w]; rw [c6b0]) | skip)
      have H' := Aside0.mk H
      clear H
      go_wp2
      repeat (go_quiet (fail); try go_wp2)
      go_meet
      case rel => exact ⟨_, (decide (a1 < 0)), (by first | rfl | (simp; done) | (simp [*]; done)), H', ⟨by first | omega | exact Nat.le_refl _⟩, ⟨by repeat (first | (with_reducible first | exact HB.out | apply below_alloc | apply pw_below_drewN | apply below_drew1) | exact HB.out)⟩⟩
  case rest =>
    clear HC4
    try clear p2
    try clear c6
    try clear c6b0
    try clear c6b1
    obtain ⟨kq, x20_3, rfl, HA, HJ3, HB⟩ := hcut
    cases kq with
    | zero => exact absurd HA.out (by simp [solventlaw32_QuotaAllowanceIsFair.j0])
    | succ kj3 =>
      have H := HA.out
      clear HA
      simp only [solventlaw32_QuotaAllowanceIsFair.j0] at H
      by_cases c7 : x20_3 = true
      · subst c7
        have H1 : (some t187) = some r := by rw [if_pos rfl] at H; exact H
        clear H
        have H := H1
        clear H1
        obtain rfl := Option.some.inj H
        go_wp2
        repeat (go_quiet (fail); try go_wp2)
        go_ret
        exact ⟨by first | rfl | (simp [errW_none, errW_some] <;> rfl) | (simp [*, errW_none, errW_some] <;> rfl), by repeat (first | (with_reducible first | exact HB.out | apply below_alloc | apply pw_below_drewN | apply below_drew1) | exact HB.out)⟩
      · replace c7 := Bool.eq_false_iff.mpr c7
        subst c7
        have H1 : (solventlaw32_QuotaAllowanceIsFair.l0 kj3 l0 a1 t187 0 0) = some r := by rw [if_neg (show ¬ (false = true) by decide)] at H; exact H
        clear H
        have H := H1
        clear H1
        have H' := Aside0.mk H
        clear H
        go_wp2
        repeat (go_quiet (fail); try go_wp2)
        go_loopg [6, 7] kj3 (fun kq v6 v7 w' => ∃ (x6_2 : Int) (x7_2 : Int), v6 = .int .i64 x6_2 ∧ v7 = .int .i64 x7_2 ∧ Aside0 (solventlaw32_QuotaAllowanceIsFair.l0 kq l0 a1 t187 x6_2 x7_2 = some r) ∧ Aside0 (kq ≤ kj3) ∧ Aside0 (Below w.heap.size w w'))
        case atStart => exact ⟨(0), (0), (by first | rfl | (simp; done) | (simp [*]; done)), (by first | rfl | (simp; done) | (simp [*]; done)), H', ⟨Nat.le_refl _⟩, ⟨by repeat (first | (with_reducible first | exact HB.out | apply below_alloc | apply pw_below_drewN | apply below_drew1) | exact HB.out)⟩⟩
        case round =>
          clear H'
          try clear p2
          try clear c6
          try clear c6b0
          try clear c6b1
          try clear c7
          try clear p2
          obtain ⟨x6_2, x7_2, rfl, rfl, HA, HK2, HB⟩ := hrel
          cases gk with
          | zero => exact absurd HA.out (by simp [solventlaw32_QuotaAllowanceIsFair.l0])
          | succ k2 =>
            have H := HA.out
            clear HA
            simp only [solventlaw32_QuotaAllowanceIsFair.l0] at H
            by_cases c8 : x7_2 < (l0.length : Int)
            · rw [if_pos c8] at H
              have c8b0 : decide (x7_2 < (l0.length : Int)) = true := decide_eq_true c8
              clear c8
              by_cases c9 : 0 ≤ x7_2
              · rw [if_pos c9] at H
                have c9b0 : decide (0 ≤ x7_2) = true := decide_eq_true c9
                clear c9
                replace H := Option.bind_eq_some_iff.mp H
                obtain ⟨t189, A100, H⟩ := H
                replace H : (if t189 = true then ((solventref32_Wish.f ((rd_T23 l0 x7_2).f0) ((rd_T23 l0 x7_2).f1) ((rd_T23 l0 x7_2).f2) ((rd_T23 l0 x7_2).f3) ((rd_T23 l0 x7_2).f4) ((rd_T23 l0 x7_2).f5)).bind fun t191 => (solventlaw32_QuotaAllowanceIsFair.l0 k2 l0 a1 t187 (wrap64 (x6_2 + t191)) (wrap64 (x7_2 + 1)))) else (some t187)) = some r := H
                have A10 := Aside0.mk A100
                clear A100
                by_cases c11 : t189 = true
                · subst c11
                  have H1 : ((solventref32_Wish.f ((rd_T23 l0 x7_2).f0) ((rd_T23 l0 x7_2).f1) ((rd_T23 l0 x7_2).f2) ((rd_T23 l0 x7_2).f3) ((rd_T23 l0 x7_2).f4) ((rd_T23 l0 x7_2).f5)).bind fun t191 => (solventlaw32_QuotaAllowanceIsFair.l0 k2 l0 a1 t187 (wrap64 (x6_2 + t191)) (wrap64 (x7_2 + 1)))) = some r := by rw [if_pos rfl] at H; exact H
                  clear H
                  have H := H1
                  clear H1
                  replace H := Option.bind_eq_some_iff.mp H
                  obtain ⟨t191, A120, H⟩ := H
                  replace H : (solventlaw32_QuotaAllowanceIsFair.l0 k2 l0 a1 t187 (wrap64 (x6_2 + t191)) (wrap64 (x7_2 + 1))) = some r := H
                  have A12 := Aside0.mk A120
                  clear A120
                  have H' := Aside0.mk H
                  clear H
                  have p188 : 0 ≤ (x7_2 : Int) := of_decide_eq_true (by first | (with_reducible assumption) | assumption)
                  have q188 : x7_2 < (l0.length : Int) := of_decide_eq_true (by first | (with_reducible assumption) | assumption)
                  obtain ⟨ad188, e188, hx188_0, hx188_1, hx188_2, hx188_3, hx188_4, hx188_5⟩ := at_T23 HR0.out x7_2 p188 q188
                  cases e188
                  replace hx188_0 := (HB.out.cell (World.block_lt_of_cell? w _ hx188_0)).trans hx188_0
                  replace hx188_1 := (HB.out.cell (World.block_lt_of_cell? w _ hx188_1)).trans hx188_1
                  replace hx188_2 := (HB.out.cell (World.block_lt_of_cell? w _ hx188_2)).trans hx188_2
                  replace hx188_3 := (HB.out.cell (World.block_lt_of_cell? w _ hx188_3)).trans hx188_3
                  replace hx188_4 := (HB.out.cell (World.block_lt_of_cell? w _ hx188_4)).trans hx188_4
                  replace hx188_5 := (HB.out.cell (World.block_lt_of_cell? w _ hx188_5)).trans hx188_5
                  replace p188 := eq_true p188
                  replace q188 := eq_true q188
                  go_wp2_with (first | (go_at_call 13; (with_reducible refine (quota_Valid.calls k2 ((rd_T23 l0 x7_2).f0) ((rd_T23 l0 x7_2).f1) ((rd_T23 l0 x7_2).f2) ((rd_T23 l0 x7_2).f3) ((rd_T23 l0 x7_2).f4) ((rd_T23 l0 x7_2).f5) true _ A10.out).mono ?_); rintro e w13 ⟨rfl, hb⟩; have n0_ := Aside0.mk (below_step (by repeat (first | (with_reducible first | exact HB.out | apply below_alloc | apply pw_below_drewN | apply below_drew1) | exact HB.out)) hb); clear HB; have HB := n0_; clear n0_; (try clear hb); (try clear hb2); (try clear hk); (try clear hi); have p190 : 0 ≤ (x7_2 : Int) := of_decide_eq_true (by first | (with_reducible assumption) | assumption); have q190 : x7_2 < (l0.length : Int) := of_decide_eq_true (by first | (with_reducible assumption) | assumption); obtain ⟨ad190, e190, hx190_0, hx190_1, hx190_2, hx190_3, hx190_4, hx190_5⟩ := at_T23 HR0.out x7_2 p190 q190; obtain rfl : ad188 = ad190 := (by injection e190); replace hx190_0 := (HB.out.cell (World.block_lt_of_cell? w _ hx190_0)).trans hx190_0; replace hx190_1 := (HB.out.cell (World.block_lt_of_cell? w _ hx190_1)).trans hx190_1; replace hx190_2 := (HB.out.cell (World.block_lt_of_cell? w _ hx190_2)).trans hx190_2; replace hx190_3 := (HB.out.cell (World.block_lt_of_cell? w _ hx190_3)).trans hx190_3; replace hx190_4 := (HB.out.cell (World.block_lt_of_cell? w _ hx190_4)).trans hx190_4; replace hx190_5 := (HB.out.cell (World.block_lt_of_cell? w _ hx190_5)).trans hx190_5; replace p190 := eq_true p190; replace q190 := eq_true q190) | (go_at_call 23; (with_reducible refine (solventref32_Wish.calls ((rd_T23 l0 x7_2).f0) ((rd_T23 l0 x7_2).f1) ((rd_T23 l0 x7_2).f2) ((rd_T23 l0 x7_2).f3) ((rd_T23 l0 x7_2).f4) ((rd_T23 l0 x7_2).f5) t191 _ A12.out).mono ?_); rintro e w14 ⟨rfl, hb⟩; have n0_ := Aside0.mk (below_step (by repeat (first | (with_reducible first | exact HB.out | apply below_alloc | apply pw_below_drewN | apply below_drew1) | exact HB.out)) hb); clear HB; have HB := n0_; clear n0_; (try clear hb); (try clear hb2); (try clear hk); (try clear hi)))
                  repeat (go_quiet (first | (go_at_call 13; (with_reducible refine (quota_Valid.calls k2 ((rd_T23 l0 x7_2).f0) ((rd_T23 l0 x7_2).f1) ((rd_T23 l0 x7_2).f2) ((rd_T23 l0 x7_2).f3) ((rd_T23 l0 x7_2).f4) ((rd_T23 l0 x7_2).f5) true _ A10.out).mono ?_); rintro e w13 ⟨rfl, hb⟩; have n0_ := Aside0.mk (below_step (by repeat (first | (with_reducible first | exact HB.out | apply below_alloc | apply pw_below_drewN | apply below_drew1) | exact HB.out)) hb); clear HB; have HB := n0_; clear n0_; (try clear hb); (try clear hb2); (try clear hk); (try clear hi); have p190 : 0 ≤ (x7_2 : Int) := of_decide_eq_true (by first | (with_reducible assumption) | assumption); have q190 : x7_2 < (l0.length : Int) := of_decide_eq_true (by first | (with_reducible assumption) | assumption); obtain ⟨ad190, e190, hx190_0, hx190_1, hx190_2, hx190_3, hx190_4, hx190_5⟩ := at_T23 HR0.out x7_2 p190 q190; obtain rfl : ad188 = ad190 := (by injection e190); replace hx190_0 := (HB.out.cell (World.block_lt_of_cell? w _ hx190_0)).trans hx190_0; replace hx190_1 := (HB.out.cell (World.block_lt_of_cell? w _ hx190_1)).trans hx190_1; replace hx190_2 := (HB.out.cell (World.block_lt_of_cell? w _ hx190_2)).trans hx190_2; replace hx190_3 := (HB.out.cell (World.block_lt_of_cell? w _ hx190_3)).trans hx190_3; replace hx190_4 := (HB.out.cell (World.block_lt_of_cell? w _ hx190_4)).trans hx190_4; replace hx190_5 := (HB.out.cell (World.block_lt_of_cell? w _ hx190_5)).trans hx190_5; replace p190 := eq_true p190; replace q190 := eq_true q190) | (go_at_call 23; (with_reducible refine (solventref32_Wish.calls ((rd_T23 l0 x7_2).f0) ((rd_T23 l0 x7_2).f1) ((rd_T23 l0 x7_2).f2) ((rd_T23 l0 x7_2).f3) ((rd_T23 l0 x7_2).f4) ((rd_T23 l0 x7_2).f5) t191 _ A12.out).mono ?_); rintro e w14 ⟨rfl, hb⟩; have n0_ := Aside0.mk (below_step (by repeat (first | (with_reducible first | exact HB.out | apply below_alloc | apply pw_below_drewN | apply below_drew1) | exact HB.out)) hb); clear HB; have HB := n0_; clear n0_; (try clear hb); (try clear hb2); (try clear hk); (try clear hi))); try go_wp2_with (first | (go_at_call 13; (with_reducible refine (quota_Valid.calls k2 ((rd_T23 l0 x7_2).f0) ((rd_T23 l0 x7_2).f1) ((rd_T23 l0 x7_2).f2) ((rd_T23 l0 x7_2).f3) ((rd_T23 l0 x7_2).f4) ((rd_T23 l0 x7_2).f5) true _ A10.out).mono ?_); rintro e w13 ⟨rfl, hb⟩; have n0_ := Aside0.mk (below_step (by repeat (first | (with_reducible first | exact HB.out | apply below_alloc | apply pw_below_drewN | apply below_drew1) | exact HB.out)) hb); clear HB; have HB := n0_; clear n0_; (try clear hb); (try clear hb2); (try clear hk); (try clear hi); have p190 : 0 ≤ (x7_2 : Int) := of_decide_eq_true (by first | (with_reducible assumption) | assumption); have q190 : x7_2 < (l0.length : Int) := of_decide_eq_true (by first | (with_reducible assumption) | assumption); obtain ⟨ad190, e190, hx190_0, hx190_1, hx190_2, hx190_3, hx190_4, hx190_5⟩ := at_T23 HR0.out x7_2 p190 q190; obtain rfl : ad188 = ad190 := (by injection e190); replace hx190_0 := (HB.out.cell (World.block_lt_of_cell? w _ hx190_0)).trans hx190_0; replace hx190_1 := (HB.out.cell (World.block_lt_of_cell? w _ hx190_1)).trans hx190_1; replace hx190_2 := (HB.out.cell (World.block_lt_of_cell? w _ hx190_2)).trans hx190_2; replace hx190_3 := (HB.out.cell (World.block_lt_of_cell? w _ hx190_3)).trans hx190_3; replace hx190_4 := (HB.out.cell (World.block_lt_of_cell? w _ hx190_4)).trans hx190_4; replace hx190_5 := (HB.out.cell (World.block_lt_of_cell? w _ hx190_5)).trans hx190_5; replace p190 := eq_true p190; replace q190 := eq_true q190) | (go_at_call 23; (with_reducible refine (solventref32_Wish.calls ((rd_T23 l0 x7_2).f0) ((rd_T23 l0 x7_2).f1) ((rd_T23 l0 x7_2).f2) ((rd_T23 l0 x7_2).f3) ((rd_T23 l0 x7_2).f4) ((rd_T23 l0 x7_2).f5) t191 _ A12.out).mono ?_); rintro e w14 ⟨rfl, hb⟩; have n0_ := Aside0.mk (below_step (by repeat (first | (with_reducible first | exact HB.out | apply below_alloc | apply pw_below_drewN | apply below_drew1) | exact HB.out)) hb); clear HB; have HB := n0_; clear n0_; (try clear hb); (try clear hb2); (try clear hk); (try clear hi))))
                  go_roundg k2
                  case measure => have := HJ3.out; have := HK2.out; omega
                  case rel => exact ⟨(wrap64 (x6_2 + t191)), (wrap64 (x7_2 + 1)), (by first | rfl | (simp; done) | (simp [*]; done)), (by first | rfl | (simp; done) | (simp [*]; done)), H', ⟨by have := HJ3.out; have := HK2.out; omega⟩, ⟨by repeat (first | (with_reducible first | exact HB.out | apply below_alloc | apply pw_below_drewN | apply below_drew1) | exact HB.out)⟩⟩
                · replace c11 := Bool.eq_false_iff.mpr c11
                  subst c11
                  have H1 : (some t187) = some r := by rw [if_neg (show ¬ (false = true) by decide)] at H; exact H
                  clear H
                  have H := H1
                  clear H1
                  obtain rfl := Option.some.inj H
                  have p188 : 0 ≤ (x7_2 : Int) := of_decide_eq_true (by first | (with_reducible assumption) | assumption)
                  have q188 : x7_2 < (l0.length : Int) := of_decide_eq_true (by first | (with_reducible assumption) | assumption)
                  obtain ⟨ad188, e188, hx188_0, hx188_1, hx188_2, hx188_3, hx188_4, hx188_5⟩ := at_T23 HR0.out x7_2 p188 q188
                  cases e188
                  replace hx188_0 := (HB.out.cell (World.block_lt_of_cell? w _ hx188_0)).trans hx188_0
                  replace hx188_1 := (HB.out.cell (World.block_lt_of_cell? w _ hx188_1)).trans hx188_1
                  replace hx188_2 := (HB.out.cell (World.block_lt_of_cell? w _ hx188_2)).trans hx188_2
                  replace hx188_3 := (HB.out.cell (World.block_lt_of_cell? w _ hx188_3)).trans hx188_3
                  replace hx188_4 := (HB.out.cell (World.block_lt_of_cell? w _ hx188_4)).trans hx188_4
                  replace hx188_5 := (HB.out.cell (World.block_lt_of_cell? w _ hx188_5)).trans hx188_5
                  replace p188 := eq_true p188
                  replace q188 := eq_true q188
                  go_wp2_with (first | (go_at_call 13; (with_reducible refine (quota_Valid.calls k2 ((rd_T23 l0 x7_2).f0) ((rd_T23 l0 x7_2).f1) ((rd_T23 l0 x7_2).f2) ((rd_T23 l0 x7_2).f3) ((rd_T23 l0 x7_2).f4) ((rd_T23 l0 x7_2).f5) false _ A10.out).mono ?_); rintro e w15 ⟨rfl, hb⟩; have n0_ := Aside0.mk (below_step (by repeat (first | (with_reducible first | exact HB.out | apply below_alloc | apply pw_below_drewN | apply below_drew1) | exact HB.out)) hb); clear HB; have HB := n0_; clear n0_; (try clear hb); (try clear hb2); (try clear hk); (try clear hi)))
                  repeat (go_quiet (first | (go_at_call 13; (with_reducible refine (quota_Valid.calls k2 ((rd_T23 l0 x7_2).f0) ((rd_T23 l0 x7_2).f1) ((rd_T23 l0 x7_2).f2) ((rd_T23 l0 x7_2).f3) ((rd_T23 l0 x7_2).f4) ((rd_T23 l0 x7_2).f5) false _ A10.out).mono ?_); rintro e w15 ⟨rfl, hb⟩; have n0_ := Aside0.mk (below_step (by repeat (first | (with_reducible first | exact HB.out | apply below_alloc | apply pw_below_drewN | apply below_drew1) | exact HB.out)) hb); clear HB; have HB := n0_; clear n0_; (try clear hb); (try clear hb2); (try clear hk); (try clear hi))); try go_wp2_with (first | (go_at_call 13; (with_reducible refine (quota_Valid.calls k2 ((rd_T23 l0 x7_2).f0) ((rd_T23 l0 x7_2).f1) ((rd_T23 l0 x7_2).f2) ((rd_T23 l0 x7_2).f3) ((rd_T23 l0 x7_2).f4) ((rd_T23 l0 x7_2).f5) false _ A10.out).mono ?_); rintro e w15 ⟨rfl, hb⟩; have n0_ := Aside0.mk (below_step (by repeat (first | (with_reducible first | exact HB.out | apply below_alloc | apply pw_below_drewN | apply below_drew1) | exact HB.out)) hb); clear HB; have HB := n0_; clear n0_; (try clear hb); (try clear hb2); (try clear hk); (try clear hi))))
                  go_ret
                  exact ⟨by first | rfl | (simp [errW_none, errW_some] <;> rfl) | (simp [*, errW_none, errW_some] <;> rfl), by repeat (first | (with_reducible first | exact HB.out | apply below_alloc | apply pw_below_drewN | apply below_drew1) | exact HB.out)⟩
              · rw [if_neg c9] at H
                exact absurd H (by simp)
            · rw [if_neg c8] at H
              have c8b0 : decide (x7_2 < (l0.length : Int)) = false := decide_eq_false c8
              clear c8
              replace H := Option.bind_eq_some_iff.mp H
              obtain ⟨t192, A160, H⟩ := H
              replace H : (if (t192.length : Int) = (l0.length : Int) then (solventlaw32_QuotaAllowanceIsFair.l1 k2 l0 a1 t187 x6_2 t192 0 0) else (none)) = some r := H
              have A16 := Aside0.mk A160
              clear A160
              by_cases c17 : (t192.length : Int) = (l0.length : Int)
              · rw [if_pos c17] at H
                have c17b0 : ((t192.length : Int) == (l0.length : Int)) = true := beq_iff_eq.mpr c17
                have c17b1 : ((t192.length : Int) != (l0.length : Int)) = false := bne_eq_false_iff_eq.mpr c17
                have c17b2 : (t192.length == l0.length) = true := by first | simpa using c17 | (simp at c17 ⊢; omega)
                clear c17
                have H' := Aside0.mk H
                clear H
                go_wp2_with (first | (go_at_call 20; (with_reducible refine (quota_Allowance.calls k2 _ _ l0 a1 t192 _ ?side1 ?side2 A16.out).mono ?_); (case side1 => repeat (first | exact (Kd.C_below HR0.out HB.out) | (with_reducible refine Kd.C_alloc ?_ _) | (with_reducible refine Kd.C_drewN ?_ _) | (with_reducible refine Kd.C_drew ?_))); (case side2 => exact HC0.out); rintro e w18 ⟨v193, rfl, ho0, hb⟩; have n0_ := Aside0.mk (Kd.R_lower ho0 (below_size (by repeat (first | (with_reducible first | exact HB.out | apply below_alloc | apply pw_below_drewN | apply below_drew1) | exact HB.out)))); have n1_ := Aside0.mk (below_step (by repeat (first | (with_reducible first | exact HB.out | apply below_alloc | apply pw_below_drewN | apply below_drew1) | exact HB.out)) hb); clear HB; have HO194 := n0_; have HB := n1_; clear n0_ n1_; (try clear hb); (try clear hb2); (try clear hk); (try clear hi); (try clear ho0); obtain ⟨Ao19, co19, eo19⟩ := Kd.R_slice HO194.out; subst eo19))
                repeat (go_quiet (first | (go_at_call 20; (with_reducible refine (quota_Allowance.calls k2 _ _ l0 a1 t192 _ ?side1 ?side2 A16.out).mono ?_); (case side1 => repeat (first | exact (Kd.C_below HR0.out HB.out) | (with_reducible refine Kd.C_alloc ?_ _) | (with_reducible refine Kd.C_drewN ?_ _) | (with_reducible refine Kd.C_drew ?_))); (case side2 => exact HC0.out); rintro e w18 ⟨v193, rfl, ho0, hb⟩; have n0_ := Aside0.mk (Kd.R_lower ho0 (below_size (by repeat (first | (with_reducible first | exact HB.out | apply below_alloc | apply pw_below_drewN | apply below_drew1) | exact HB.out)))); have n1_ := Aside0.mk (below_step (by repeat (first | (with_reducible first | exact HB.out | apply below_alloc | apply pw_below_drewN | apply below_drew1) | exact HB.out)) hb); clear HB; have HO194 := n0_; have HB := n1_; clear n0_ n1_; (try clear hb); (try clear hb2); (try clear hk); (try clear hi); (try clear ho0); obtain ⟨Ao19, co19, eo19⟩ := Kd.R_slice HO194.out; subst eo19)); try go_wp2_with (first | (go_at_call 20; (with_reducible refine (quota_Allowance.calls k2 _ _ l0 a1 t192 _ ?side1 ?side2 A16.out).mono ?_); (case side1 => repeat (first | exact (Kd.C_below HR0.out HB.out) | (with_reducible refine Kd.C_alloc ?_ _) | (with_reducible refine Kd.C_drewN ?_ _) | (with_reducible refine Kd.C_drew ?_))); (case side2 => exact HC0.out); rintro e w18 ⟨v193, rfl, ho0, hb⟩; have n0_ := Aside0.mk (Kd.R_lower ho0 (below_size (by repeat (first | (with_reducible first | exact HB.out | apply below_alloc | apply pw_below_drewN | apply below_drew1) | exact HB.out)))); have n1_ := Aside0.mk (below_step (by repeat (first | (with_reducible first | exact HB.out | apply below_alloc | apply pw_below_drewN | apply below_drew1) | exact HB.out)) hb); clear HB; have HO194 := n0_; have HB := n1_; clear n0_ n1_; (try clear hb); (try clear hb2); (try clear hk); (try clear hi); (try clear ho0); obtain ⟨Ao19, co19, eo19⟩ := Kd.R_slice HO194.out; subst eo19)))
                go_loopg [9, 10] k2 (fun kq v9 v10 w' => ∃ (x9_3 : Int) (x10_3 : Int), v9 = .int .i64 x9_3 ∧ v10 = .int .i64 x10_3 ∧ Aside0 (solventlaw32_QuotaAllowanceIsFair.l1 kq l0 a1 t187 x6_2 t192 x9_3 x10_3 = some r) ∧ Aside0 (kq ≤ k2) ∧ Aside0 (Kd.R (Kd.int .i64) 3 w' w.heap.size (fun _ => True) (.slice Ao19 t192.length co19) t192) ∧ Aside0 (Below w.heap.size w w'))
                case atStart => exact ⟨(0), (0), (by first | rfl | (simp; done) | (simp [*]; done)), (by first | rfl | (simp; done) | (simp [*]; done)), H', ⟨Nat.le_refl _⟩, ⟨by (with_reducible repeat (first | apply Kd.R_alloc | apply Kd.R_drewN | apply Kd.R_drew)); exact HO194.out⟩, ⟨by repeat (first | (with_reducible first | exact HB.out | apply below_alloc | apply pw_below_drewN | apply below_drew1) | exact HB.out)⟩⟩
                case round =>
                  clear H'
                  try clear c1
                  try clear p1
                  try clear q1
                  try clear hx1
                  try clear p2
                  try clear c6
                  try clear c6b0
                  try clear c6b1
                  try clear p6
                  try clear c7
                  try clear c8
                  try clear c8b0
                  try clear c9
                  try clear c9b0
                  try clear c11
                  try clear c17
                  try clear c17b0
                  try clear c17b1
                  try clear c17b2
                  try clear p18
                  try clear q18
                  try clear hx18
                  try clear p19
                  try clear q19
                  try clear hx19
                  try clear hx188_0
                  try clear hx188_1
                  try clear hx188_2
                  try clear hx188_3
                  try clear hx188_4
                  try clear hx188_5
                  try clear hx190_0
                  try clear hx190_1
                  try clear hx190_2
                  try clear hx190_3
                  try clear hx190_4
                  try clear hx190_5
                  try clear p188
                  try clear p190
                  try clear p2
                  try clear q188
                  try clear q190
                  obtain ⟨x9_3, x10_3, rfl, rfl, HA, HK3, HO_8, HB⟩ := hrel
                  cases gk with
                  | zero => exact absurd HA.out (by simp [solventlaw32_QuotaAllowanceIsFair.l1])
                  | succ k3 =>
                    have H := HA.out
                    clear HA
                    simp only [solventlaw32_QuotaAllowanceIsFair.l1] at H
                    by_cases c20 : x10_3 < (t192.length : Int)
                    · rw [if_pos c20] at H
                      have c20b0 : decide (x10_3 < (t192.length : Int)) = true := decide_eq_true c20
                      clear c20
                      by_cases c21 : 0 ≤ x10_3
                      · rw [if_pos c21] at H
                        have c21b0 : decide (0 ≤ x10_3) = true := decide_eq_true c21
                        clear c21
                        by_cases c22 : x10_3 < (l0.length : Int)
                        · rw [if_pos c22] at H
                          have c22b0 : decide (x10_3 < (l0.length : Int)) = true := decide_eq_true c22
                          clear c22
                          replace H := Option.bind_eq_some_iff.mp H
                          obtain ⟨t197, A230, H⟩ := H
                          replace H : (if (rd t192 x10_3) < 0 then (solventlaw32_QuotaAllowanceIsFair.j3 k3 l0 a1 t187 x6_2 t192 (wrap64 (x9_3 + (rd t192 x10_3))) x10_3 t197 true) else (solventlaw32_QuotaAllowanceIsFair.j3 k3 l0 a1 t187 x6_2 t192 (wrap64 (x9_3 + (rd t192 x10_3))) x10_3 t197 (decide ((rd t192 x10_3) > t197)))) = some r := H
                          have A23 := Aside0.mk A230
                          clear A230
                          have HC24 := Aside0.mk H
                          clear H
                          have p195 : 0 ≤ (x10_3 : Int) := of_decide_eq_true (by first | (with_reducible assumption) | assumption)
                          have q195 : x10_3 < (t192.length : Int) := of_decide_eq_true (by first | (with_reducible assumption) | assumption)
                          obtain ⟨ad195, e195, hx195_0⟩ := Kd.at_int (Kd.R_reads' HO_8.out).2.2 x10_3 p195 q195
                          cases e195
                          replace p195 := eq_true p195
                          replace q195 := eq_true q195
                          have p196 : 0 ≤ (x10_3 : Int) := of_decide_eq_true (by first | (with_reducible assumption) | assumption)
                          have q196 : x10_3 < (l0.length : Int) := of_decide_eq_true (by first | (with_reducible assumption) | assumption)
                          obtain ⟨ad196, e196, hx196_0, hx196_1, hx196_2, hx196_3, hx196_4, hx196_5⟩ := at_T23 HR0.out x10_3 p196 q196
                          cases e196
                          replace hx196_0 := (HB.out.cell (World.block_lt_of_cell? w _ hx196_0)).trans hx196_0
                          replace hx196_1 := (HB.out.cell (World.block_lt_of_cell? w _ hx196_1)).trans hx196_1
                          replace hx196_2 := (HB.out.cell (World.block_lt_of_cell? w _ hx196_2)).trans hx196_2
                          replace hx196_3 := (HB.out.cell (World.block_lt_of_cell? w _ hx196_3)).trans hx196_3
                          replace hx196_4 := (HB.out.cell (World.block_lt_of_cell? w _ hx196_4)).trans hx196_4
                          replace hx196_5 := (HB.out.cell (World.block_lt_of_cell? w _ hx196_5)).trans hx196_5
                          replace p196 := eq_true p196
                          replace q196 := eq_true q196
                          go_upto_region 20 with (first | (go_at_call 23; (with_reducible refine (solventref32_Wish.calls ((rd_T23 l0 x10_3).f0) ((rd_T23 l0 x10_3).f1) ((rd_T23 l0 x10_3).f2) ((rd_T23 l0 x10_3).f3) ((rd_T23 l0 x10_3).f4) ((rd_T23 l0 x10_3).f5) t197 _ A23.out).mono ?_); rintro e w25 ⟨rfl, hb⟩; have n0_ := Aside0.mk (Kd.R_below (by (with_reducible repeat (first | apply Kd.R_alloc | apply Kd.R_drewN | apply Kd.R_drew)); exact HO_8.out) hb); have n1_ := Aside0.mk (below_step (by repeat (first | (with_reducible first | exact HB.out | apply below_alloc | apply pw_below_drewN | apply below_drew1) | exact HB.out)) hb); clear HO_8; clear HB; have HO_8 := n0_; have HB := n1_; clear n0_ n1_; (try clear hb); (try clear hb2); (try clear hk); (try clear hi)))
                          repeat (go_quiet (first | (go_at_call 23; (with_reducible refine (solventref32_Wish.calls ((rd_T23 l0 x10_3).f0) ((rd_T23 l0 x10_3).f1) ((rd_T23 l0 x10_3).f2) ((rd_T23 l0 x10_3).f3) ((rd_T23 l0 x10_3).f4) ((rd_T23 l0 x10_3).f5) t197 _ A23.out).mono ?_); rintro e w25 ⟨rfl, hb⟩; have n0_ := Aside0.mk (Kd.R_below (by (with_reducible repeat (first | apply Kd.R_alloc | apply Kd.R_drewN | apply Kd.R_drew)); exact HO_8.out) hb); have n1_ := Aside0.mk (below_step (by repeat (first | (with_reducible first | exact HB.out | apply below_alloc | apply pw_below_drewN | apply below_drew1) | exact HB.out)) hb); clear HO_8; clear HB; have HO_8 := n0_; have HB := n1_; clear n0_ n1_; (try clear hb); (try clear hb2); (try clear hk); (try clear hi))); go_upto_region 20 with (first | (go_at_call 23; (with_reducible refine (solventref32_Wish.calls ((rd_T23 l0 x10_3).f0) ((rd_T23 l0 x10_3).f1) ((rd_T23 l0 x10_3).f2) ((rd_T23 l0 x10_3).f3) ((rd_T23 l0 x10_3).f4) ((rd_T23 l0 x10_3).f5) t197 _ A23.out).mono ?_); rintro e w25 ⟨rfl, hb⟩; have n0_ := Aside0.mk (Kd.R_below (by (with_reducible repeat (first | apply Kd.R_alloc | apply Kd.R_drewN | apply Kd.R_drew)); exact HO_8.out) hb); have n1_ := Aside0.mk (below_step (by repeat (first | (with_reducible first | exact HB.out | apply below_alloc | apply pw_below_drewN | apply below_drew1) | exact HB.out)) hb); clear HO_8; clear HB; have HO_8 := n0_; have HB := n1_; clear n0_ n1_; (try clear hb); (try clear hb2); (try clear hk); (try clear hi))))
                          (try simp only [Act.put, List.setIfInBounds_toArray, List.set_cons_zero, List.set_cons_succ])
                          go_cut [79] (fun v79 wc => ∃ (kq : Nat) (x79_23 : Bool), v79 = .bool x79_23 ∧ Aside0 (solventlaw32_QuotaAllowanceIsFair.j3 kq l0 a1 t187 x6_2 t192 (wrap64 (x9_3 + (rd t192 x10_3))) x10_3 t197 x79_23 = some r) ∧ Aside0 (kq ≤ k3) ∧ Aside0 (Kd.R (Kd.int .i64) 3 wc w.heap.size (fun _ => True) (.slice (some ad195) t192.length co19) t192) ∧ Aside0 (Below w.heap.size w wc))
                          case first =>
                            have H := HC24.out
                            clear HC24
                            by_cases c26 : (rd t192 x10_3) < 0
                            · rw [if_pos c26] at H
                              have c26b0 : decide ((rd t192 x10_3) < 0) = true := decide_eq_true c26
                              clear c26
                              (first | rw [c26b0] | (simp only [i64_w, i32_w]; rw [c26b0]) | skip)
                              have H' := Aside0.mk H
                              clear H
                              have p198 : 0 ≤ (x10_3 : Int) := of_decide_eq_true (by first | (with_reducible assumption) | assumption)
                              have q198 : x10_3 < (t192.length : Int) := of_decide_eq_true (by first | (with_reducible assumption) | assumption)
                              obtain ⟨ad198, e198, hx198_0⟩ := Kd.at_int (Kd.R_reads' HO_8.out).2.2 x10_3 p198 q198
                              obtain rfl : ad195 = ad198 := (by injection e198)
                              replace p198 := eq_true p198
                              replace q198 := eq_true q198
                              go_wp2
                              repeat (go_quiet (fail); try go_wp2)
                              go_meet
                              case rel => exact ⟨_, (true), (by first | rfl | (simp; done) | (simp [*]; done)), H', ⟨by have := HJ3.out; have := HK2.out; have := HK3.out; first | omega | exact Nat.le_refl _⟩, ⟨by (with_reducible repeat (first | apply Kd.R_alloc | apply Kd.R_drewN | apply Kd.R_drew)); exact HO_8.out⟩, ⟨by repeat (first | (with_reducible first | exact HB.out | apply below_alloc | apply pw_below_drewN | apply below_drew1) | exact HB.out)⟩⟩
                            · rw [if_neg c26] at H
                              have c26b0 : decide ((rd t192 x10_3) < 0) = false := decide_eq_false c26
                              clear c26
                              (first | rw [c26b0] | (simp only [i64_w, i32_w]; rw [c26b0]) | skip)
                              have H' := Aside0.mk H
                              clear H
                              have p198 : 0 ≤ (x10_3 : Int) := of_decide_eq_true (by first | (with_reducible assumption) | assumption)
                              have q198 : x10_3 < (t192.length : Int) := of_decide_eq_true (by first | (with_reducible assumption) | assumption)
                              obtain ⟨ad198, e198, hx198_0⟩ := Kd.at_int (Kd.R_reads' HO_8.out).2.2 x10_3 p198 q198
                              obtain rfl : ad195 = ad198 := (by injection e198)
                              replace p198 := eq_true p198
                              replace q198 := eq_true q198
                              have p199 : 0 ≤ (x10_3 : Int) := of_decide_eq_true (by first | (with_reducible assumption) | assumption)
                              have q199 : x10_3 < (t192.length : Int) := of_decide_eq_true (by first | (with_reducible assumption) | assumption)
                              obtain ⟨ad199, e199, hx199_0⟩ := Kd.at_int (Kd.R_reads' HO_8.out).2.2 x10_3 p199 q199
                              obtain rfl : ad195 = ad199 := (by injection e199)
                              replace p199 := eq_true p199
                              replace q199 := eq_true q199
                              go_wp2
                              repeat (go_quiet (fail); try go_wp2)
                              go_meet
                              case rel => exact ⟨_, (decide ((rd t192 x10_3) > t197)), (by first | rfl | (simp; done) | (simp [*]; done)), H', ⟨by have := HJ3.out; have := HK2.out; have := HK3.out; first | omega | exact Nat.le_refl _⟩, ⟨by (with_reducible repeat (first | apply Kd.R_alloc | apply Kd.R_drewN | apply Kd.R_drew)); exact HO_8.out⟩, ⟨by repeat (first | (with_reducible first | exact HB.out | apply below_alloc | apply pw_below_drewN | apply below_drew1) | exact HB.out)⟩⟩
                          case rest =>
                            clear HC24
                            try clear c1
                            try clear p1
                            try clear q1
                            try clear hx1
                            try clear c2
                            try clear p2
                            try clear c6
                            try clear c6b0
                            try clear c6b1
                            try clear p6
                            try clear c7
                            try clear c8
                            try clear c8b0
                            try clear c9
                            try clear c9b0
                            try clear c11
                            try clear c17
                            try clear c17b0
                            try clear c17b1
                            try clear c17b2
                            try clear p18
                            try clear q18
                            try clear hx18
                            try clear p19
                            try clear q19
                            try clear hx19
                            try clear c20
                            try clear c20b0
                            try clear c21
                            try clear c21b0
                            try clear c22
                            try clear c22b0
                            try clear c26
                            try clear c26b0
                            try clear hx188_0
                            try clear hx188_1
                            try clear hx188_2
                            try clear hx188_3
                            try clear hx188_4
                            try clear hx188_5
                            try clear hx190_0
                            try clear hx190_1
                            try clear hx190_2
                            try clear hx190_3
                            try clear hx190_4
                            try clear hx190_5
                            try clear hx195_0
                            try clear hx196_0
                            try clear hx196_1
                            try clear hx196_2
                            try clear hx196_3
                            try clear hx196_4
                            try clear hx196_5
                            try clear hx198_0
                            try clear hx199_0
                            try clear p1
                            try clear p18
                            try clear p188
                            try clear p19
                            try clear p190
                            try clear p195
                            try clear p196
                            try clear p198
                            try clear p199
                            try clear p2
                            try clear p6
                            try clear q1
                            try clear q18
                            try clear q188
                            try clear q19
                            try clear q190
                            try clear q195
                            try clear q196
                            try clear q198
                            try clear q199
                            obtain ⟨kq, x79_23, rfl, HA, HJ23, HO_8, HB⟩ := hcut
                            cases kq with
                            | zero => exact absurd HA.out (by simp [solventlaw32_QuotaAllowanceIsFair.j3])
                            | succ kj23 =>
                              have H := HA.out
                              clear HA
                              simp only [solventlaw32_QuotaAllowanceIsFair.j3] at H
                              by_cases c27 : x79_23 = true
                              · subst c27
                                have H1 : (none) = some r := by rw [if_pos rfl] at H; exact H
                                clear H
                                have H := H1
                                clear H1
                                exact absurd H (by simp)
                              · replace c27 := Bool.eq_false_iff.mpr c27
                                subst c27
                                have H1 : (solventlaw32_QuotaAllowanceIsFair.l2 kj23 l0 a1 t187 x6_2 t192 (wrap64 (x9_3 + (rd t192 x10_3))) x10_3 t197 0) = some r := by rw [if_neg (show ¬ (false = true) by decide)] at H; exact H
                                clear H
                                have H := H1
                                clear H1
                                have H' := Aside0.mk H
                                clear H
                                as_aux_lemma =>
                                  go_wp2
                                  repeat (go_quiet (fail); try go_wp2)
                                  go_loopg [12] kj23 (fun kq v12 w' => ∃ (x12_5 : Int), v12 = .int .i64 x12_5 ∧ Aside0 (solventlaw32_QuotaAllowanceIsFair.l2 kq l0 a1 t187 x6_2 t192 (wrap64 (x9_3 + (rd t192 x10_3))) x10_3 t197 x12_5 = some r) ∧ Aside0 (kq ≤ kj23) ∧ Aside0 (Kd.R (Kd.int .i64) 3 w' w.heap.size (fun _ => True) (.slice (some ad195) t192.length co19) t192) ∧ Aside0 (Below w.heap.size w w'))
                                  case atStart => exact ⟨(0), (by first | rfl | (simp; done) | (simp [*]; done)), H', ⟨Nat.le_refl _⟩, ⟨by (with_reducible repeat (first | apply Kd.R_alloc | apply Kd.R_drewN | apply Kd.R_drew)); exact HO_8.out⟩, ⟨by repeat (first | (with_reducible first | exact HB.out | apply below_alloc | apply pw_below_drewN | apply below_drew1) | exact HB.out)⟩⟩
                                  case round =>
                                    clear H'
                                    try clear c1
                                    try clear p1
                                    try clear q1
                                    try clear hx1
                                    try clear c2
                                    try clear p2
                                    try clear c6
                                    try clear c6b0
                                    try clear c6b1
                                    try clear p6
                                    try clear c7
                                    try clear c8
                                    try clear c8b0
                                    try clear c9
                                    try clear c9b0
                                    try clear c11
                                    try clear c17
                                    try clear c17b0
                                    try clear c17b1
                                    try clear c17b2
                                    try clear p18
                                    try clear q18
                                    try clear hx18
                                    try clear p19
                                    try clear q19
                                    try clear hx19
                                    try clear c20
                                    try clear c20b0
                                    try clear c21
                                    try clear c21b0
                                    try clear c22
                                    try clear c22b0
                                    try clear c26
                                    try clear c26b0
                                    try clear c27
                                    try clear hx188_0
                                    try clear hx188_1
                                    try clear hx188_2
                                    try clear hx188_3
                                    try clear hx188_4
                                    try clear hx188_5
                                    try clear hx190_0
                                    try clear hx190_1
                                    try clear hx190_2
                                    try clear hx190_3
                                    try clear hx190_4
                                    try clear hx190_5
                                    try clear hx195_0
                                    try clear hx196_0
                                    try clear hx196_1
                                    try clear hx196_2
                                    try clear hx196_3
                                    try clear hx196_4
                                    try clear hx196_5
                                    try clear hx198_0
                                    try clear hx199_0
                                    try clear p1
                                    try clear p18
                                    try clear p188
                                    try clear p19
                                    try clear p190
                                    try clear p195
                                    try clear p196
                                    try clear p198
                                    try clear p199
                                    try clear p2
                                    try clear p6
                                    try clear q1
                                    try clear q18
                                    try clear q188
                                    try clear q19
                                    try clear q190
                                    try clear q195
                                    try clear q196
                                    try clear q198
                                    try clear q199
                                    obtain ⟨x12_5, rfl, HA, HK5, HO_8, HB⟩ := hrel
                                    cases gk with
                                    | zero => exact absurd HA.out (by simp [solventlaw32_QuotaAllowanceIsFair.l2])
                                    | succ k5 =>
                                      have H := HA.out
                                      clear HA
                                      simp only [solventlaw32_QuotaAllowanceIsFair.l2] at H
                                      have HC28 := Aside0.mk H
                                      clear H
                                      go_upto_region 23 with (fail)
                                      repeat (go_quiet (fail); go_upto_region 23 with (fail))
                                      go_cut [91] (fun v91 wc => ∃ (kq : Nat) (x91_27 : Bool), v91 = .bool x91_27 ∧ Aside0 (solventlaw32_QuotaAllowanceIsFair.j5 kq l0 a1 t187 x6_2 t192 (wrap64 (x9_3 + (rd t192 x10_3))) x10_3 t197 x12_5 x91_27 = some r) ∧ Aside0 (kq ≤ k5) ∧ Aside0 (Kd.R (Kd.int .i64) 3 wc w.heap.size (fun _ => True) (.slice (some ad195) t192.length co19) t192) ∧ Aside0 (Below w.heap.size w wc))
                                      case first =>
                                        have H := HC28.out
                                        clear HC28
                                        by_cases c29 : x12_5 < (t192.length : Int)
                                        · rw [if_pos c29] at H
                                          have c29b0 : decide (x12_5 < (t192.length : Int)) = true := decide_eq_true c29
                                          clear c29
                                          (first | rw [c29b0] | (simp only [i64_w, i32_w]; rw [c29b0]) | skip)
                                          by_cases c30 : 0 ≤ x10_3
                                          · rw [if_pos c30] at H
                                            have c30b0 : decide (0 ≤ x10_3) = true := decide_eq_true c30
                                            clear c30
                                            by_cases c31 : x10_3 < (t192.length : Int)
                                            · rw [if_pos c31] at H
                                              have c31b0 : decide (x10_3 < (t192.length : Int)) = true := decide_eq_true c31
                                              clear c31
                                              have H' := Aside0.mk H
                                              clear H
                                              have p200 : 0 ≤ (x10_3 : Int) := of_decide_eq_true (by first | (with_reducible assumption) | assumption)
                                              have q200 : x10_3 < (t192.length : Int) := of_decide_eq_true (by first | (with_reducible assumption) | assumption)
                                              obtain ⟨ad200, e200, hx200_0⟩ := Kd.at_int (Kd.R_reads' HO_8.out).2.2 x10_3 p200 q200
                                              obtain rfl : ad195 = ad200 := (by injection e200)
                                              replace p200 := eq_true p200
                                              replace q200 := eq_true q200
                                              go_wp2
                                              repeat (go_quiet (fail); try go_wp2)
                                              go_meet
                                              case rel => exact ⟨_, (decide ((rd t192 x10_3) < t197)), (by first | rfl | (simp; done) | (simp [*]; done)), H', ⟨by have := HJ3.out; have := HK2.out; have := HK3.out; have := HJ23.out; have := HK5.out; first | omega | exact Nat.le_refl _⟩, ⟨by (with_reducible repeat (first | apply Kd.R_alloc | apply Kd.R_drewN | apply Kd.R_drew)); exact HO_8.out⟩, ⟨by repeat (first | (with_reducible first | exact HB.out | apply below_alloc | apply pw_below_drewN | apply below_drew1) | exact HB.out)⟩⟩
                                            · rw [if_neg c31] at H
                                              exact absurd H (by simp)
                                          · rw [if_neg c30] at H
                                            exact absurd H (by simp)
                                        · rw [if_neg c29] at H
                                          have c29b0 : decide (x12_5 < (t192.length : Int)) = false := decide_eq_false c29
                                          clear c29
                                          (first | rw [c29b0] | (simp only [i64_w, i32_w]; rw [c29b0]) | skip)
                                          have H' := Aside0.mk H
                                          clear H
                                          go_wp2
                                          repeat (go_quiet (fail); try go_wp2)
                                          go_meet
                                          case rel => exact ⟨_, (false), (by first | rfl | (simp; done) | (simp [*]; done)), H', ⟨by have := HJ3.out; have := HK2.out; have := HK3.out; have := HJ23.out; have := HK5.out; first | omega | exact Nat.le_refl _⟩, ⟨by (with_reducible repeat (first | apply Kd.R_alloc | apply Kd.R_drewN | apply Kd.R_drew)); exact HO_8.out⟩, ⟨by repeat (first | (with_reducible first | exact HB.out | apply below_alloc | apply pw_below_drewN | apply below_drew1) | exact HB.out)⟩⟩
                                      case rest =>
                                        clear HC28
                                        try clear c1
                                        try clear p1
                                        try clear q1
                                        try clear hx1
                                        try clear c2
                                        try clear p2
                                        try clear q2
                                        try clear hx2
                                        try clear c3
                                        try clear c6
                                        try clear c6b0
                                        try clear c6b1
                                        try clear p6
                                        try clear c7
                                        try clear c8
                                        try clear c8b0
                                        try clear c9
                                        try clear c9b0
                                        try clear c11
                                        try clear c17
                                        try clear c17b0
                                        try clear c17b1
                                        try clear c17b2
                                        try clear p18
                                        try clear q18
                                        try clear hx18
                                        try clear p19
                                        try clear q19
                                        try clear hx19
                                        try clear c20
                                        try clear c20b0
                                        try clear p20
                                        try clear q20
                                        try clear hx20
                                        try clear c21
                                        try clear c21b0
                                        try clear c22
                                        try clear c22b0
                                        try clear c26
                                        try clear c26b0
                                        try clear c27
                                        try clear c29
                                        try clear c29b0
                                        try clear c30
                                        try clear c30b0
                                        try clear c31
                                        try clear c31b0
                                        try clear hx188_0
                                        try clear hx188_1
                                        try clear hx188_2
                                        try clear hx188_3
                                        try clear hx188_4
                                        try clear hx188_5
                                        try clear hx190_0
                                        try clear hx190_1
                                        try clear hx190_2
                                        try clear hx190_3
                                        try clear hx190_4
                                        try clear hx190_5
                                        try clear hx195_0
                                        try clear hx196_0
                                        try clear hx196_1
                                        try clear hx196_2
                                        try clear hx196_3
                                        try clear hx196_4
                                        try clear hx196_5
                                        try clear hx198_0
                                        try clear hx199_0
                                        try clear hx200_0
                                        try clear p1
                                        try clear p18
                                        try clear p188
                                        try clear p19
                                        try clear p190
                                        try clear p195
                                        try clear p196
                                        try clear p198
                                        try clear p199
                                        try clear p2
                                        try clear p200
                                        try clear p6
                                        try clear q1
                                        try clear q18
                                        try clear q188
                                        try clear q19
                                        try clear q190
                                        try clear q195
                                        try clear q196
                                        try clear q198
                                        try clear q199
                                        try clear q200
                                        obtain ⟨kq, x91_27, rfl, HA, HJ27, HO_8, HB⟩ := hcut
                                        cases kq with
                                        | zero => exact absurd HA.out (by simp [solventlaw32_QuotaAllowanceIsFair.j5])
                                        | succ kj27 =>
                                          have H := HA.out
                                          clear HA
                                          simp only [solventlaw32_QuotaAllowanceIsFair.j5] at H
                                          by_cases c32 : x91_27 = true
                                          · subst c32
                                            have H1 : (if 0 ≤ x12_5 then (if x12_5 < (l0.length : Int) then (if 0 ≤ x10_3 then (if x10_3 < (l0.length : Int) then (if ((rd_T23 l0 x12_5).f3) > ((rd_T23 l0 x10_3).f3) then (if x12_5 < (t192.length : Int) then (if (rd t192 x12_5) > 0 then (none) else (if ((rd_T23 l0 x12_5).f3) = ((rd_T23 l0 x10_3).f3) then (if x10_3 < (t192.length : Int) then (if (rd t192 x12_5) > (wrap64 ((rd t192 x10_3) + 1)) then (none) else (if x12_5 > x10_3 then (if (rd t192 x12_5) > (rd t192 x10_3) then (none) else (solventlaw32_QuotaAllowanceIsFair.l2 kj27 l0 a1 t187 x6_2 t192 (wrap64 (x9_3 + (rd t192 x10_3))) x10_3 t197 (wrap64 (x12_5 + 1)))) else (solventlaw32_QuotaAllowanceIsFair.l2 kj27 l0 a1 t187 x6_2 t192 (wrap64 (x9_3 + (rd t192 x10_3))) x10_3 t197 (wrap64 (x12_5 + 1))))) else (none)) else (solventlaw32_QuotaAllowanceIsFair.l2 kj27 l0 a1 t187 x6_2 t192 (wrap64 (x9_3 + (rd t192 x10_3))) x10_3 t197 (wrap64 (x12_5 + 1))))) else (none)) else (if ((rd_T23 l0 x12_5).f3) = ((rd_T23 l0 x10_3).f3) then (if x12_5 < (t192.length : Int) then (if x10_3 < (t192.length : Int) then (if (rd t192 x12_5) > (wrap64 ((rd t192 x10_3) + 1)) then (none) else (if x12_5 > x10_3 then (if (rd t192 x12_5) > (rd t192 x10_3) then (none) else (solventlaw32_QuotaAllowanceIsFair.l2 kj27 l0 a1 t187 x6_2 t192 (wrap64 (x9_3 + (rd t192 x10_3))) x10_3 t197 (wrap64 (x12_5 + 1)))) else (solventlaw32_QuotaAllowanceIsFair.l2 kj27 l0 a1 t187 x6_2 t192 (wrap64 (x9_3 + (rd t192 x10_3))) x10_3 t197 (wrap64 (x12_5 + 1))))) else (none)) else (none)) else (solventlaw32_QuotaAllowanceIsFair.l2 kj27 l0 a1 t187 x6_2 t192 (wrap64 (x9_3 + (rd t192 x10_3))) x10_3 t197 (wrap64 (x12_5 + 1))))) else (none)) else (none)) else (none)) else (none)) = some r := by rw [if_pos rfl] at H; exact H
                                            clear H
                                            have H := H1
                                            clear H1
                                            by_cases c33 : 0 ≤ x12_5
                                            · rw [if_pos c33] at H
                                              have c33b0 : decide (0 ≤ x12_5) = true := decide_eq_true c33
                                              clear c33
                                              by_cases c34 : x12_5 < (l0.length : Int)
                                              · rw [if_pos c34] at H
                                                have c34b0 : decide (x12_5 < (l0.length : Int)) = true := decide_eq_true c34
                                                clear c34
                                                by_cases c35 : 0 ≤ x10_3
                                                · rw [if_pos c35] at H
                                                  have c35b0 : decide (0 ≤ x10_3) = true := decide_eq_true c35
                                                  clear c35
                                                  by_cases c36 : x10_3 < (l0.length : Int)
                                                  · rw [if_pos c36] at H
                                                    have c36b0 : decide (x10_3 < (l0.length : Int)) = true := decide_eq_true c36
                                                    clear c36
                                                    by_cases c37 : ((rd_T23 l0 x12_5).f3) > ((rd_T23 l0 x10_3).f3)
                                                    · rw [if_pos c37] at H
                                                      have c37b0 : decide (((rd_T23 l0 x10_3).f3) < ((rd_T23 l0 x12_5).f3)) = true := decide_eq_true c37
                                                      clear c37
                                                      by_cases c38 : x12_5 < (t192.length : Int)
                                                      · rw [if_pos c38] at H
                                                        have c38b0 : decide (x12_5 < (t192.length : Int)) = true := decide_eq_true c38
                                                        clear c38
                                                        by_cases c39 : (rd t192 x12_5) > 0
                                                        · rw [if_pos c39] at H
                                                          exact absurd H (by simp)
                                                        · rw [if_neg c39] at H
                                                          have c39b0 : decide (0 < (rd t192 x12_5)) = false := decide_eq_false c39
                                                          clear c39
                                                          by_cases c40 : ((rd_T23 l0 x12_5).f3) = ((rd_T23 l0 x10_3).f3)
                                                          · rw [if_pos c40] at H
                                                            have c40b0 : (((rd_T23 l0 x12_5).f3) == ((rd_T23 l0 x10_3).f3)) = true := beq_iff_eq.mpr c40
                                                            have c40b1 : (((rd_T23 l0 x12_5).f3) != ((rd_T23 l0 x10_3).f3)) = false := bne_eq_false_iff_eq.mpr c40
                                                            clear c40
                                                            by_cases c41 : x10_3 < (t192.length : Int)
                                                            · rw [if_pos c41] at H
                                                              have c41b0 : decide (x10_3 < (t192.length : Int)) = true := decide_eq_true c41
                                                              clear c41
                                                              by_cases c42 : (rd t192 x12_5) > (wrap64 ((rd t192 x10_3) + 1))
                                                              · rw [if_pos c42] at H
                                                                exact absurd H (by simp)
                                                              · rw [if_neg c42] at H
                                                                have c42b0 : decide ((wrap64 ((rd t192 x10_3) + 1)) < (rd t192 x12_5)) = false := decide_eq_false c42
                                                                clear c42
                                                                by_cases c43 : x12_5 > x10_3
                                                                · rw [if_pos c43] at H
                                                                  have c43b0 : decide (x10_3 < x12_5) = true := decide_eq_true c43
                                                                  clear c43
                                                                  by_cases c44 : (rd t192 x12_5) > (rd t192 x10_3)
                                                                  · rw [if_pos c44] at H
                                                                    exact absurd H (by simp)
                                                                  · rw [if_neg c44] at H
                                                                    have c44b0 : decide ((rd t192 x10_3) < (rd t192 x12_5)) = false := decide_eq_false c44
                                                                    clear c44
                                                                    have H' := Aside0.mk H
                                                                    clear H
                                                                    have p201 : 0 ≤ (x12_5 : Int) := of_decide_eq_true (by first | (with_reducible assumption) | assumption)
                                                                    have q201 : x12_5 < (l0.length : Int) := of_decide_eq_true (by first | (with_reducible assumption) | assumption)
                                                                    obtain ⟨ad201, e201, hx201_0, hx201_1, hx201_2, hx201_3, hx201_4, hx201_5⟩ := at_T23 HR0.out x12_5 p201 q201
                                                                    obtain rfl : ad196 = ad201 := (by injection e201)
                                                                    replace hx201_0 := (HB.out.cell (World.block_lt_of_cell? w _ hx201_0)).trans hx201_0
                                                                    replace hx201_1 := (HB.out.cell (World.block_lt_of_cell? w _ hx201_1)).trans hx201_1
                                                                    replace hx201_2 := (HB.out.cell (World.block_lt_of_cell? w _ hx201_2)).trans hx201_2
                                                                    replace hx201_3 := (HB.out.cell (World.block_lt_of_cell? w _ hx201_3)).trans hx201_3
                                                                    replace hx201_4 := (HB.out.cell (World.block_lt_of_cell? w _ hx201_4)).trans hx201_4
                                                                    replace hx201_5 := (HB.out.cell (World.block_lt_of_cell? w _ hx201_5)).trans hx201_5
                                                                    replace p201 := eq_true p201
                                                                    replace q201 := eq_true q201
                                                                    have p202 : 0 ≤ (x10_3 : Int) := of_decide_eq_true (by first | (with_reducible assumption) | assumption)
                                                                    have q202 : x10_3 < (l0.length : Int) := of_decide_eq_true (by first | (with_reducible assumption) | assumption)
                                                                    obtain ⟨ad202, e202, hx202_0, hx202_1, hx202_2, hx202_3, hx202_4, hx202_5⟩ := at_T23 HR0.out x10_3 p202 q202
                                                                    obtain rfl : ad196 = ad202 := (by injection e202)
                                                                    replace hx202_0 := (HB.out.cell (World.block_lt_of_cell? w _ hx202_0)).trans hx202_0
                                                                    replace hx202_1 := (HB.out.cell (World.block_lt_of_cell? w _ hx202_1)).trans hx202_1
                                                                    replace hx202_2 := (HB.out.cell (World.block_lt_of_cell? w _ hx202_2)).trans hx202_2
                                                                    replace hx202_3 := (HB.out.cell (World.block_lt_of_cell? w _ hx202_3)).trans hx202_3
                                                                    replace hx202_4 := (HB.out.cell (World.block_lt_of_cell? w _ hx202_4)).trans hx202_4
                                                                    replace hx202_5 := (HB.out.cell (World.block_lt_of_cell? w _ hx202_5)).trans hx202_5
                                                                    replace p202 := eq_true p202
                                                                    replace q202 := eq_true q202
                                                                    have p203 : 0 ≤ (x12_5 : Int) := of_decide_eq_true (by first | (with_reducible assumption) | assumption)
                                                                    have q203 : x12_5 < (t192.length : Int) := of_decide_eq_true (by first | (with_reducible assumption) | assumption)
                                                                    obtain ⟨ad203, e203, hx203_0⟩ := Kd.at_int (Kd.R_reads' HO_8.out).2.2 x12_5 p203 q203
                                                                    obtain rfl : ad195 = ad203 := (by injection e203)
                                                                    replace p203 := eq_true p203
                                                                    replace q203 := eq_true q203
                                                                    have p204 : 0 ≤ (x12_5 : Int) := of_decide_eq_true (by first | (with_reducible assumption) | assumption)
                                                                    have q204 : x12_5 < (l0.length : Int) := of_decide_eq_true (by first | (with_reducible assumption) | assumption)
                                                                    obtain ⟨ad204, e204, hx204_0, hx204_1, hx204_2, hx204_3, hx204_4, hx204_5⟩ := at_T23 HR0.out x12_5 p204 q204
                                                                    obtain rfl : ad196 = ad204 := (by injection e204)
                                                                    replace hx204_0 := (HB.out.cell (World.block_lt_of_cell? w _ hx204_0)).trans hx204_0
                                                                    replace hx204_1 := (HB.out.cell (World.block_lt_of_cell? w _ hx204_1)).trans hx204_1
                                                                    replace hx204_2 := (HB.out.cell (World.block_lt_of_cell? w _ hx204_2)).trans hx204_2
                                                                    replace hx204_3 := (HB.out.cell (World.block_lt_of_cell? w _ hx204_3)).trans hx204_3
                                                                    replace hx204_4 := (HB.out.cell (World.block_lt_of_cell? w _ hx204_4)).trans hx204_4
                                                                    replace hx204_5 := (HB.out.cell (World.block_lt_of_cell? w _ hx204_5)).trans hx204_5
                                                                    replace p204 := eq_true p204
                                                                    replace q204 := eq_true q204
                                                                    have p205 : 0 ≤ (x10_3 : Int) := of_decide_eq_true (by first | (with_reducible assumption) | assumption)
                                                                    have q205 : x10_3 < (l0.length : Int) := of_decide_eq_true (by first | (with_reducible assumption) | assumption)
                                                                    obtain ⟨ad205, e205, hx205_0, hx205_1, hx205_2, hx205_3, hx205_4, hx205_5⟩ := at_T23 HR0.out x10_3 p205 q205
                                                                    obtain rfl : ad196 = ad205 := (by injection e205)
                                                                    replace hx205_0 := (HB.out.cell (World.block_lt_of_cell? w _ hx205_0)).trans hx205_0
                                                                    replace hx205_1 := (HB.out.cell (World.block_lt_of_cell? w _ hx205_1)).trans hx205_1
                                                                    replace hx205_2 := (HB.out.cell (World.block_lt_of_cell? w _ hx205_2)).trans hx205_2
                                                                    replace hx205_3 := (HB.out.cell (World.block_lt_of_cell? w _ hx205_3)).trans hx205_3
                                                                    replace hx205_4 := (HB.out.cell (World.block_lt_of_cell? w _ hx205_4)).trans hx205_4
                                                                    replace hx205_5 := (HB.out.cell (World.block_lt_of_cell? w _ hx205_5)).trans hx205_5
                                                                    replace p205 := eq_true p205
                                                                    replace q205 := eq_true q205
                                                                    have p206 : 0 ≤ (x12_5 : Int) := of_decide_eq_true (by first | (with_reducible assumption) | assumption)
                                                                    have q206 : x12_5 < (t192.length : Int) := of_decide_eq_true (by first | (with_reducible assumption) | assumption)
                                                                    obtain ⟨ad206, e206, hx206_0⟩ := Kd.at_int (Kd.R_reads' HO_8.out).2.2 x12_5 p206 q206
                                                                    obtain rfl : ad195 = ad206 := (by injection e206)
                                                                    replace p206 := eq_true p206
                                                                    replace q206 := eq_true q206
                                                                    have p207 : 0 ≤ (x10_3 : Int) := of_decide_eq_true (by first | (with_reducible assumption) | assumption)
                                                                    have q207 : x10_3 < (t192.length : Int) := of_decide_eq_true (by first | (with_reducible assumption) | assumption)
                                                                    obtain ⟨ad207, e207, hx207_0⟩ := Kd.at_int (Kd.R_reads' HO_8.out).2.2 x10_3 p207 q207
                                                                    obtain rfl : ad195 = ad207 := (by injection e207)
                                                                    replace p207 := eq_true p207
                                                                    replace q207 := eq_true q207
                                                                    have p208 : 0 ≤ (x12_5 : Int) := of_decide_eq_true (by first | (with_reducible assumption) | assumption)
                                                                    have q208 : x12_5 < (l0.length : Int) := of_decide_eq_true (by first | (with_reducible assumption) | assumption)
                                                                    obtain ⟨ad208, e208, hx208_0, hx208_1, hx208_2, hx208_3, hx208_4, hx208_5⟩ := at_T23 HR0.out x12_5 p208 q208
                                                                    obtain rfl : ad196 = ad208 := (by injection e208)
                                                                    replace hx208_0 := (HB.out.cell (World.block_lt_of_cell? w _ hx208_0)).trans hx208_0
                                                                    replace hx208_1 := (HB.out.cell (World.block_lt_of_cell? w _ hx208_1)).trans hx208_1
                                                                    replace hx208_2 := (HB.out.cell (World.block_lt_of_cell? w _ hx208_2)).trans hx208_2
                                                                    replace hx208_3 := (HB.out.cell (World.block_lt_of_cell? w _ hx208_3)).trans hx208_3
                                                                    replace hx208_4 := (HB.out.cell (World.block_lt_of_cell? w _ hx208_4)).trans hx208_4
                                                                    replace hx208_5 := (HB.out.cell (World.block_lt_of_cell? w _ hx208_5)).trans hx208_5
                                                                    replace p208 := eq_true p208
                                                                    replace q208 := eq_true q208
                                                                    have p209 : 0 ≤ (x10_3 : Int) := of_decide_eq_true (by first | (with_reducible assumption) | assumption)
                                                                    have q209 : x10_3 < (l0.length : Int) := of_decide_eq_true (by first | (with_reducible assumption) | assumption)
                                                                    obtain ⟨ad209, e209, hx209_0, hx209_1, hx209_2, hx209_3, hx209_4, hx209_5⟩ := at_T23 HR0.out x10_3 p209 q209
                                                                    obtain rfl : ad196 = ad209 := (by injection e209)
                                                                    replace hx209_0 := (HB.out.cell (World.block_lt_of_cell? w _ hx209_0)).trans hx209_0
                                                                    replace hx209_1 := (HB.out.cell (World.block_lt_of_cell? w _ hx209_1)).trans hx209_1
                                                                    replace hx209_2 := (HB.out.cell (World.block_lt_of_cell? w _ hx209_2)).trans hx209_2
                                                                    replace hx209_3 := (HB.out.cell (World.block_lt_of_cell? w _ hx209_3)).trans hx209_3
                                                                    replace hx209_4 := (HB.out.cell (World.block_lt_of_cell? w _ hx209_4)).trans hx209_4
                                                                    replace hx209_5 := (HB.out.cell (World.block_lt_of_cell? w _ hx209_5)).trans hx209_5
                                                                    replace p209 := eq_true p209
                                                                    replace q209 := eq_true q209
                                                                    have p210 : 0 ≤ (x12_5 : Int) := of_decide_eq_true (by first | (with_reducible assumption) | assumption)
                                                                    have q210 : x12_5 < (t192.length : Int) := of_decide_eq_true (by first | (with_reducible assumption) | assumption)
                                                                    obtain ⟨ad210, e210, hx210_0⟩ := Kd.at_int (Kd.R_reads' HO_8.out).2.2 x12_5 p210 q210
                                                                    obtain rfl : ad195 = ad210 := (by injection e210)
                                                                    replace p210 := eq_true p210
                                                                    replace q210 := eq_true q210
                                                                    have p211 : 0 ≤ (x10_3 : Int) := of_decide_eq_true (by first | (with_reducible assumption) | assumption)
                                                                    have q211 : x10_3 < (t192.length : Int) := of_decide_eq_true (by first | (with_reducible assumption) | assumption)
                                                                    obtain ⟨ad211, e211, hx211_0⟩ := Kd.at_int (Kd.R_reads' HO_8.out).2.2 x10_3 p211 q211
                                                                    obtain rfl : ad195 = ad211 := (by injection e211)
                                                                    replace p211 := eq_true p211
                                                                    replace q211 := eq_true q211
                                                                    go_wp2
                                                                    repeat (go_quiet (fail); try go_wp2)
                                                                    go_roundg kj27
                                                                    case measure => have := HJ3.out; have := HK2.out; have := HK3.out; have := HJ23.out; have := HK5.out; have := HJ27.out; omega
                                                                    case rel => exact ⟨(wrap64 (x12_5 + 1)), (by first | rfl | (simp; done) | (simp [*]; done)), H', ⟨by have := HJ3.out; have := HK2.out; have := HK3.out; have := HJ23.out; have := HK5.out; have := HJ27.out; omega⟩, ⟨by (with_reducible repeat (first | apply Kd.R_alloc | apply Kd.R_drewN | apply Kd.R_drew)); exact HO_8.out⟩, ⟨by repeat (first | (with_reducible first | exact HB.out | apply below_alloc | apply pw_below_drewN | apply below_drew1) | exact HB.out)⟩⟩
                                                                · rw [if_neg c43] at H
                                                                  have c43b0 : decide (x10_3 < x12_5) = false := decide_eq_false c43
                                                                  clear c43
                                                                  have H' := Aside0.mk H
                                                                  clear H
                                                                  have p201 : 0 ≤ (x12_5 : Int) := of_decide_eq_true (by first | (with_reducible assumption) | assumption)
                                                                  have q201 : x12_5 < (l0.length : Int) := of_decide_eq_true (by first | (with_reducible assumption) | assumption)
                                                                  obtain ⟨ad201, e201, hx201_0, hx201_1, hx201_2, hx201_3, hx201_4, hx201_5⟩ := at_T23 HR0.out x12_5 p201 q201
                                                                  obtain rfl : ad196 = ad201 := (by injection e201)
                                                                  replace hx201_0 := (HB.out.cell (World.block_lt_of_cell? w _ hx201_0)).trans hx201_0
                                                                  replace hx201_1 := (HB.out.cell (World.block_lt_of_cell? w _ hx201_1)).trans hx201_1
                                                                  replace hx201_2 := (HB.out.cell (World.block_lt_of_cell? w _ hx201_2)).trans hx201_2
                                                                  replace hx201_3 := (HB.out.cell (World.block_lt_of_cell? w _ hx201_3)).trans hx201_3
                                                                  replace hx201_4 := (HB.out.cell (World.block_lt_of_cell? w _ hx201_4)).trans hx201_4
                                                                  replace hx201_5 := (HB.out.cell (World.block_lt_of_cell? w _ hx201_5)).trans hx201_5
                                                                  replace p201 := eq_true p201
                                                                  replace q201 := eq_true q201
                                                                  have p202 : 0 ≤ (x10_3 : Int) := of_decide_eq_true (by first | (with_reducible assumption) | assumption)
                                                                  have q202 : x10_3 < (l0.length : Int) := of_decide_eq_true (by first | (with_reducible assumption) | assumption)
                                                                  obtain ⟨ad202, e202, hx202_0, hx202_1, hx202_2, hx202_3, hx202_4, hx202_5⟩ := at_T23 HR0.out x10_3 p202 q202
                                                                  obtain rfl : ad196 = ad202 := (by injection e202)
                                                                  replace hx202_0 := (HB.out.cell (World.block_lt_of_cell? w _ hx202_0)).trans hx202_0
                                                                  replace hx202_1 := (HB.out.cell (World.block_lt_of_cell? w _ hx202_1)).trans hx202_1
                                                                  replace hx202_2 := (HB.out.cell (World.block_lt_of_cell? w _ hx202_2)).trans hx202_2
                                                                  replace hx202_3 := (HB.out.cell (World.block_lt_of_cell? w _ hx202_3)).trans hx202_3
                                                                  replace hx202_4 := (HB.out.cell (World.block_lt_of_cell? w _ hx202_4)).trans hx202_4
                                                                  replace hx202_5 := (HB.out.cell (World.block_lt_of_cell? w _ hx202_5)).trans hx202_5
                                                                  replace p202 := eq_true p202
                                                                  replace q202 := eq_true q202
                                                                  have p203 : 0 ≤ (x12_5 : Int) := of_decide_eq_true (by first | (with_reducible assumption) | assumption)
                                                                  have q203 : x12_5 < (t192.length : Int) := of_decide_eq_true (by first | (with_reducible assumption) | assumption)
                                                                  obtain ⟨ad203, e203, hx203_0⟩ := Kd.at_int (Kd.R_reads' HO_8.out).2.2 x12_5 p203 q203
                                                                  obtain rfl : ad195 = ad203 := (by injection e203)
                                                                  replace p203 := eq_true p203
                                                                  replace q203 := eq_true q203
                                                                  have p204 : 0 ≤ (x12_5 : Int) := of_decide_eq_true (by first | (with_reducible assumption) | assumption)
                                                                  have q204 : x12_5 < (l0.length : Int) := of_decide_eq_true (by first | (with_reducible assumption) | assumption)
                                                                  obtain ⟨ad204, e204, hx204_0, hx204_1, hx204_2, hx204_3, hx204_4, hx204_5⟩ := at_T23 HR0.out x12_5 p204 q204
                                                                  obtain rfl : ad196 = ad204 := (by injection e204)
                                                                  replace hx204_0 := (HB.out.cell (World.block_lt_of_cell? w _ hx204_0)).trans hx204_0
                                                                  replace hx204_1 := (HB.out.cell (World.block_lt_of_cell? w _ hx204_1)).trans hx204_1
                                                                  replace hx204_2 := (HB.out.cell (World.block_lt_of_cell? w _ hx204_2)).trans hx204_2
                                                                  replace hx204_3 := (HB.out.cell (World.block_lt_of_cell? w _ hx204_3)).trans hx204_3
                                                                  replace hx204_4 := (HB.out.cell (World.block_lt_of_cell? w _ hx204_4)).trans hx204_4
                                                                  replace hx204_5 := (HB.out.cell (World.block_lt_of_cell? w _ hx204_5)).trans hx204_5
                                                                  replace p204 := eq_true p204
                                                                  replace q204 := eq_true q204
                                                                  have p205 : 0 ≤ (x10_3 : Int) := of_decide_eq_true (by first | (with_reducible assumption) | assumption)
                                                                  have q205 : x10_3 < (l0.length : Int) := of_decide_eq_true (by first | (with_reducible assumption) | assumption)
                                                                  obtain ⟨ad205, e205, hx205_0, hx205_1, hx205_2, hx205_3, hx205_4, hx205_5⟩ := at_T23 HR0.out x10_3 p205 q205
                                                                  obtain rfl : ad196 = ad205 := (by injection e205)
                                                                  replace hx205_0 := (HB.out.cell (World.block_lt_of_cell? w _ hx205_0)).trans hx205_0
                                                                  replace hx205_1 := (HB.out.cell (World.block_lt_of_cell? w _ hx205_1)).trans hx205_1
                                                                  replace hx205_2 := (HB.out.cell (World.block_lt_of_cell? w _ hx205_2)).trans hx205_2
                                                                  replace hx205_3 := (HB.out.cell (World.block_lt_of_cell? w _ hx205_3)).trans hx205_3
                                                                  replace hx205_4 := (HB.out.cell (World.block_lt_of_cell? w _ hx205_4)).trans hx205_4
                                                                  replace hx205_5 := (HB.out.cell (World.block_lt_of_cell? w _ hx205_5)).trans hx205_5
                                                                  replace p205 := eq_true p205
                                                                  replace q205 := eq_true q205
                                                                  have p206 : 0 ≤ (x12_5 : Int) := of_decide_eq_true (by first | (with_reducible assumption) | assumption)
                                                                  have q206 : x12_5 < (t192.length : Int) := of_decide_eq_true (by first | (with_reducible assumption) | assumption)
                                                                  obtain ⟨ad206, e206, hx206_0⟩ := Kd.at_int (Kd.R_reads' HO_8.out).2.2 x12_5 p206 q206
                                                                  obtain rfl : ad195 = ad206 := (by injection e206)
                                                                  replace p206 := eq_true p206
                                                                  replace q206 := eq_true q206
                                                                  have p207 : 0 ≤ (x10_3 : Int) := of_decide_eq_true (by first | (with_reducible assumption) | assumption)
                                                                  have q207 : x10_3 < (t192.length : Int) := of_decide_eq_true (by first | (with_reducible assumption) | assumption)
                                                                  obtain ⟨ad207, e207, hx207_0⟩ := Kd.at_int (Kd.R_reads' HO_8.out).2.2 x10_3 p207 q207
                                                                  obtain rfl : ad195 = ad207 := (by injection e207)
                                                                  replace p207 := eq_true p207
                                                                  replace q207 := eq_true q207
                                                                  have p208 : 0 ≤ (x12_5 : Int) := of_decide_eq_true (by first | (with_reducible assumption) | assumption)
                                                                  have q208 : x12_5 < (l0.length : Int) := of_decide_eq_true (by first | (with_reducible assumption) | assumption)
                                                                  obtain ⟨ad208, e208, hx208_0, hx208_1, hx208_2, hx208_3, hx208_4, hx208_5⟩ := at_T23 HR0.out x12_5 p208 q208
                                                                  obtain rfl : ad196 = ad208 := (by injection e208)
                                                                  replace hx208_0 := (HB.out.cell (World.block_lt_of_cell? w _ hx208_0)).trans hx208_0
                                                                  replace hx208_1 := (HB.out.cell (World.block_lt_of_cell? w _ hx208_1)).trans hx208_1
                                                                  replace hx208_2 := (HB.out.cell (World.block_lt_of_cell? w _ hx208_2)).trans hx208_2
                                                                  replace hx208_3 := (HB.out.cell (World.block_lt_of_cell? w _ hx208_3)).trans hx208_3
                                                                  replace hx208_4 := (HB.out.cell (World.block_lt_of_cell? w _ hx208_4)).trans hx208_4
                                                                  replace hx208_5 := (HB.out.cell (World.block_lt_of_cell? w _ hx208_5)).trans hx208_5
                                                                  replace p208 := eq_true p208
                                                                  replace q208 := eq_true q208
                                                                  have p209 : 0 ≤ (x10_3 : Int) := of_decide_eq_true (by first | (with_reducible assumption) | assumption)
                                                                  have q209 : x10_3 < (l0.length : Int) := of_decide_eq_true (by first | (with_reducible assumption) | assumption)
                                                                  obtain ⟨ad209, e209, hx209_0, hx209_1, hx209_2, hx209_3, hx209_4, hx209_5⟩ := at_T23 HR0.out x10_3 p209 q209
                                                                  obtain rfl : ad196 = ad209 := (by injection e209)
                                                                  replace hx209_0 := (HB.out.cell (World.block_lt_of_cell? w _ hx209_0)).trans hx209_0
                                                                  replace hx209_1 := (HB.out.cell (World.block_lt_of_cell? w _ hx209_1)).trans hx209_1
                                                                  replace hx209_2 := (HB.out.cell (World.block_lt_of_cell? w _ hx209_2)).trans hx209_2
                                                                  replace hx209_3 := (HB.out.cell (World.block_lt_of_cell? w _ hx209_3)).trans hx209_3
                                                                  replace hx209_4 := (HB.out.cell (World.block_lt_of_cell? w _ hx209_4)).trans hx209_4
                                                                  replace hx209_5 := (HB.out.cell (World.block_lt_of_cell? w _ hx209_5)).trans hx209_5
                                                                  replace p209 := eq_true p209
                                                                  replace q209 := eq_true q209
                                                                  go_wp2
                                                                  repeat (go_quiet (fail); try go_wp2)
                                                                  go_roundg kj27
                                                                  case measure => have := HJ3.out; have := HK2.out; have := HK3.out; have := HJ23.out; have := HK5.out; have := HJ27.out; omega
                                                                  case rel => exact ⟨(wrap64 (x12_5 + 1)), (by first | rfl | (simp; done) | (simp [*]; done)), H', ⟨by have := HJ3.out; have := HK2.out; have := HK3.out; have := HJ23.out; have := HK5.out; have := HJ27.out; omega⟩, ⟨by (with_reducible repeat (first | apply Kd.R_alloc | apply Kd.R_drewN | apply Kd.R_drew)); exact HO_8.out⟩, ⟨by repeat (first | (with_reducible first | exact HB.out | apply below_alloc | apply pw_below_drewN | apply below_drew1) | exact HB.out)⟩⟩
                                                            · rw [if_neg c41] at H
                                                              exact absurd H (by simp)
                                                          · rw [if_neg c40] at H
                                                            have c40b0 : (((rd_T23 l0 x12_5).f3) == ((rd_T23 l0 x10_3).f3)) = false := beq_eq_false_iff_ne.mpr c40
                                                            have c40b1 : (((rd_T23 l0 x12_5).f3) != ((rd_T23 l0 x10_3).f3)) = true := bne_iff_ne.mpr c40
                                                            have H' := Aside0.mk H
                                                            clear H
                                                            have p201 : 0 ≤ (x12_5 : Int) := of_decide_eq_true (by first | (with_reducible assumption) | assumption)
                                                            have q201 : x12_5 < (l0.length : Int) := of_decide_eq_true (by first | (with_reducible assumption) | assumption)
                                                            obtain ⟨ad201, e201, hx201_0, hx201_1, hx201_2, hx201_3, hx201_4, hx201_5⟩ := at_T23 HR0.out x12_5 p201 q201
                                                            obtain rfl : ad196 = ad201 := (by injection e201)
                                                            replace hx201_0 := (HB.out.cell (World.block_lt_of_cell? w _ hx201_0)).trans hx201_0
                                                            replace hx201_1 := (HB.out.cell (World.block_lt_of_cell? w _ hx201_1)).trans hx201_1
                                                            replace hx201_2 := (HB.out.cell (World.block_lt_of_cell? w _ hx201_2)).trans hx201_2
                                                            replace hx201_3 := (HB.out.cell (World.block_lt_of_cell? w _ hx201_3)).trans hx201_3
                                                            replace hx201_4 := (HB.out.cell (World.block_lt_of_cell? w _ hx201_4)).trans hx201_4
                                                            replace hx201_5 := (HB.out.cell (World.block_lt_of_cell? w _ hx201_5)).trans hx201_5
                                                            replace p201 := eq_true p201
                                                            replace q201 := eq_true q201
                                                            have p202 : 0 ≤ (x10_3 : Int) := of_decide_eq_true (by first | (with_reducible assumption) | assumption)
                                                            have q202 : x10_3 < (l0.length : Int) := of_decide_eq_true (by first | (with_reducible assumption) | assumption)
                                                            obtain ⟨ad202, e202, hx202_0, hx202_1, hx202_2, hx202_3, hx202_4, hx202_5⟩ := at_T23 HR0.out x10_3 p202 q202
                                                            obtain rfl : ad196 = ad202 := (by injection e202)
                                                            replace hx202_0 := (HB.out.cell (World.block_lt_of_cell? w _ hx202_0)).trans hx202_0
                                                            replace hx202_1 := (HB.out.cell (World.block_lt_of_cell? w _ hx202_1)).trans hx202_1
                                                            replace hx202_2 := (HB.out.cell (World.block_lt_of_cell? w _ hx202_2)).trans hx202_2
                                                            replace hx202_3 := (HB.out.cell (World.block_lt_of_cell? w _ hx202_3)).trans hx202_3
                                                            replace hx202_4 := (HB.out.cell (World.block_lt_of_cell? w _ hx202_4)).trans hx202_4
                                                            replace hx202_5 := (HB.out.cell (World.block_lt_of_cell? w _ hx202_5)).trans hx202_5
                                                            replace p202 := eq_true p202
                                                            replace q202 := eq_true q202
                                                            have p203 : 0 ≤ (x12_5 : Int) := of_decide_eq_true (by first | (with_reducible assumption) | assumption)
                                                            have q203 : x12_5 < (t192.length : Int) := of_decide_eq_true (by first | (with_reducible assumption) | assumption)
                                                            obtain ⟨ad203, e203, hx203_0⟩ := Kd.at_int (Kd.R_reads' HO_8.out).2.2 x12_5 p203 q203
                                                            obtain rfl : ad195 = ad203 := (by injection e203)
                                                            replace p203 := eq_true p203
                                                            replace q203 := eq_true q203
                                                            have p204 : 0 ≤ (x12_5 : Int) := of_decide_eq_true (by first | (with_reducible assumption) | assumption)
                                                            have q204 : x12_5 < (l0.length : Int) := of_decide_eq_true (by first | (with_reducible assumption) | assumption)
                                                            obtain ⟨ad204, e204, hx204_0, hx204_1, hx204_2, hx204_3, hx204_4, hx204_5⟩ := at_T23 HR0.out x12_5 p204 q204
                                                            obtain rfl : ad196 = ad204 := (by injection e204)
                                                            replace hx204_0 := (HB.out.cell (World.block_lt_of_cell? w _ hx204_0)).trans hx204_0
                                                            replace hx204_1 := (HB.out.cell (World.block_lt_of_cell? w _ hx204_1)).trans hx204_1
                                                            replace hx204_2 := (HB.out.cell (World.block_lt_of_cell? w _ hx204_2)).trans hx204_2
                                                            replace hx204_3 := (HB.out.cell (World.block_lt_of_cell? w _ hx204_3)).trans hx204_3
                                                            replace hx204_4 := (HB.out.cell (World.block_lt_of_cell? w _ hx204_4)).trans hx204_4
                                                            replace hx204_5 := (HB.out.cell (World.block_lt_of_cell? w _ hx204_5)).trans hx204_5
                                                            replace p204 := eq_true p204
                                                            replace q204 := eq_true q204
                                                            have p205 : 0 ≤ (x10_3 : Int) := of_decide_eq_true (by first | (with_reducible assumption) | assumption)
                                                            have q205 : x10_3 < (l0.length : Int) := of_decide_eq_true (by first | (with_reducible assumption) | assumption)
                                                            obtain ⟨ad205, e205, hx205_0, hx205_1, hx205_2, hx205_3, hx205_4, hx205_5⟩ := at_T23 HR0.out x10_3 p205 q205
                                                            obtain rfl : ad196 = ad205 := (by injection e205)
                                                            replace hx205_0 := (HB.out.cell (World.block_lt_of_cell? w _ hx205_0)).trans hx205_0
                                                            replace hx205_1 := (HB.out.cell (World.block_lt_of_cell? w _ hx205_1)).trans hx205_1
                                                            replace hx205_2 := (HB.out.cell (World.block_lt_of_cell? w _ hx205_2)).trans hx205_2
                                                            replace hx205_3 := (HB.out.cell (World.block_lt_of_cell? w _ hx205_3)).trans hx205_3
                                                            replace hx205_4 := (HB.out.cell (World.block_lt_of_cell? w _ hx205_4)).trans hx205_4
                                                            replace hx205_5 := (HB.out.cell (World.block_lt_of_cell? w _ hx205_5)).trans hx205_5
                                                            replace p205 := eq_true p205
                                                            replace q205 := eq_true q205
                                                            have p212 : 0 ≤ (x12_5 : Int) := of_decide_eq_true (by first | (with_reducible assumption) | assumption)
                                                            have q212 : x12_5 < (l0.length : Int) := of_decide_eq_true (by first | (with_reducible assumption) | assumption)
                                                            obtain ⟨ad212, e212, hx212_0, hx212_1, hx212_2, hx212_3, hx212_4, hx212_5⟩ := at_T23 HR0.out x12_5 p212 q212
                                                            obtain rfl : ad196 = ad212 := (by injection e212)
                                                            replace hx212_0 := (HB.out.cell (World.block_lt_of_cell? w _ hx212_0)).trans hx212_0
                                                            replace hx212_1 := (HB.out.cell (World.block_lt_of_cell? w _ hx212_1)).trans hx212_1
                                                            replace hx212_2 := (HB.out.cell (World.block_lt_of_cell? w _ hx212_2)).trans hx212_2
                                                            replace hx212_3 := (HB.out.cell (World.block_lt_of_cell? w _ hx212_3)).trans hx212_3
                                                            replace hx212_4 := (HB.out.cell (World.block_lt_of_cell? w _ hx212_4)).trans hx212_4
                                                            replace hx212_5 := (HB.out.cell (World.block_lt_of_cell? w _ hx212_5)).trans hx212_5
                                                            replace p212 := eq_true p212
                                                            replace q212 := eq_true q212
                                                            have p213 : 0 ≤ (x10_3 : Int) := of_decide_eq_true (by first | (with_reducible assumption) | assumption)
                                                            have q213 : x10_3 < (l0.length : Int) := of_decide_eq_true (by first | (with_reducible assumption) | assumption)
                                                            obtain ⟨ad213, e213, hx213_0, hx213_1, hx213_2, hx213_3, hx213_4, hx213_5⟩ := at_T23 HR0.out x10_3 p213 q213
                                                            obtain rfl : ad196 = ad213 := (by injection e213)
                                                            replace hx213_0 := (HB.out.cell (World.block_lt_of_cell? w _ hx213_0)).trans hx213_0
                                                            replace hx213_1 := (HB.out.cell (World.block_lt_of_cell? w _ hx213_1)).trans hx213_1
                                                            replace hx213_2 := (HB.out.cell (World.block_lt_of_cell? w _ hx213_2)).trans hx213_2
                                                            replace hx213_3 := (HB.out.cell (World.block_lt_of_cell? w _ hx213_3)).trans hx213_3
                                                            replace hx213_4 := (HB.out.cell (World.block_lt_of_cell? w _ hx213_4)).trans hx213_4
                                                            replace hx213_5 := (HB.out.cell (World.block_lt_of_cell? w _ hx213_5)).trans hx213_5
                                                            replace p213 := eq_true p213
                                                            replace q213 := eq_true q213
                                                            go_wp2
                                                            repeat (go_quiet (fail); try go_wp2)
                                                            go_roundg kj27
                                                            case measure => have := HJ3.out; have := HK2.out; have := HK3.out; have := HJ23.out; have := HK5.out; have := HJ27.out; omega
                                                            case rel => exact ⟨(wrap64 (x12_5 + 1)), (by first | rfl | (simp; done) | (simp [*]; done)), H', ⟨by have := HJ3.out; have := HK2.out; have := HK3.out; have := HJ23.out; have := HK5.out; have := HJ27.out; omega⟩, ⟨by (with_reducible repeat (first | apply Kd.R_alloc | apply Kd.R_drewN | apply Kd.R_drew)); exact HO_8.out⟩, ⟨by repeat (first | (with_reducible first | exact HB.out | apply below_alloc | apply pw_below_drewN | apply below_drew1) | exact HB.out)⟩⟩
                                                      · rw [if_neg c38] at H
                                                        exact absurd H (by simp)
                                                    · rw [if_neg c37] at H
                                                      have c37b0 : decide (((rd_T23 l0 x10_3).f3) < ((rd_T23 l0 x12_5).f3)) = false := decide_eq_false c37
                                                      clear c37
                                                      by_cases c45 : ((rd_T23 l0 x12_5).f3) = ((rd_T23 l0 x10_3).f3)
                                                      · rw [if_pos c45] at H
                                                        have c45b0 : (((rd_T23 l0 x12_5).f3) == ((rd_T23 l0 x10_3).f3)) = true := beq_iff_eq.mpr c45
                                                        have c45b1 : (((rd_T23 l0 x12_5).f3) != ((rd_T23 l0 x10_3).f3)) = false := bne_eq_false_iff_eq.mpr c45
                                                        clear c45
                                                        by_cases c46 : x12_5 < (t192.length : Int)
                                                        · rw [if_pos c46] at H
                                                          have c46b0 : decide (x12_5 < (t192.length : Int)) = true := decide_eq_true c46
                                                          clear c46
                                                          by_cases c47 : x10_3 < (t192.length : Int)
                                                          · rw [if_pos c47] at H
                                                            have c47b0 : decide (x10_3 < (t192.length : Int)) = true := decide_eq_true c47
                                                            clear c47
                                                            by_cases c48 : (rd t192 x12_5) > (wrap64 ((rd t192 x10_3) + 1))
                                                            · rw [if_pos c48] at H
                                                              exact absurd H (by simp)
                                                            · rw [if_neg c48] at H
                                                              have c48b0 : decide ((wrap64 ((rd t192 x10_3) + 1)) < (rd t192 x12_5)) = false := decide_eq_false c48
                                                              clear c48
                                                              by_cases c49 : x12_5 > x10_3
                                                              · rw [if_pos c49] at H
                                                                have c49b0 : decide (x10_3 < x12_5) = true := decide_eq_true c49
                                                                clear c49
                                                                by_cases c50 : (rd t192 x12_5) > (rd t192 x10_3)
                                                                · rw [if_pos c50] at H
                                                                  exact absurd H (by simp)
                                                                · rw [if_neg c50] at H
                                                                  have c50b0 : decide ((rd t192 x10_3) < (rd t192 x12_5)) = false := decide_eq_false c50
                                                                  clear c50
                                                                  have H' := Aside0.mk H
                                                                  clear H
                                                                  have p201 : 0 ≤ (x12_5 : Int) := of_decide_eq_true (by first | (with_reducible assumption) | assumption)
                                                                  have q201 : x12_5 < (l0.length : Int) := of_decide_eq_true (by first | (with_reducible assumption) | assumption)
                                                                  obtain ⟨ad201, e201, hx201_0, hx201_1, hx201_2, hx201_3, hx201_4, hx201_5⟩ := at_T23 HR0.out x12_5 p201 q201
                                                                  obtain rfl : ad196 = ad201 := (by injection e201)
                                                                  replace hx201_0 := (HB.out.cell (World.block_lt_of_cell? w _ hx201_0)).trans hx201_0
                                                                  replace hx201_1 := (HB.out.cell (World.block_lt_of_cell? w _ hx201_1)).trans hx201_1
                                                                  replace hx201_2 := (HB.out.cell (World.block_lt_of_cell? w _ hx201_2)).trans hx201_2
                                                                  replace hx201_3 := (HB.out.cell (World.block_lt_of_cell? w _ hx201_3)).trans hx201_3
                                                                  replace hx201_4 := (HB.out.cell (World.block_lt_of_cell? w _ hx201_4)).trans hx201_4
                                                                  replace hx201_5 := (HB.out.cell (World.block_lt_of_cell? w _ hx201_5)).trans hx201_5
                                                                  replace p201 := eq_true p201
                                                                  replace q201 := eq_true q201
                                                                  have p202 : 0 ≤ (x10_3 : Int) := of_decide_eq_true (by first | (with_reducible assumption) | assumption)
                                                                  have q202 : x10_3 < (l0.length : Int) := of_decide_eq_true (by first | (with_reducible assumption) | assumption)
                                                                  obtain ⟨ad202, e202, hx202_0, hx202_1, hx202_2, hx202_3, hx202_4, hx202_5⟩ := at_T23 HR0.out x10_3 p202 q202
                                                                  obtain rfl : ad196 = ad202 := (by injection e202)
                                                                  replace hx202_0 := (HB.out.cell (World.block_lt_of_cell? w _ hx202_0)).trans hx202_0
                                                                  replace hx202_1 := (HB.out.cell (World.block_lt_of_cell? w _ hx202_1)).trans hx202_1
                                                                  replace hx202_2 := (HB.out.cell (World.block_lt_of_cell? w _ hx202_2)).trans hx202_2
                                                                  replace hx202_3 := (HB.out.cell (World.block_lt_of_cell? w _ hx202_3)).trans hx202_3
                                                                  replace hx202_4 := (HB.out.cell (World.block_lt_of_cell? w _ hx202_4)).trans hx202_4
                                                                  replace hx202_5 := (HB.out.cell (World.block_lt_of_cell? w _ hx202_5)).trans hx202_5
                                                                  replace p202 := eq_true p202
                                                                  replace q202 := eq_true q202
                                                                  have p214 : 0 ≤ (x12_5 : Int) := of_decide_eq_true (by first | (with_reducible assumption) | assumption)
                                                                  have q214 : x12_5 < (l0.length : Int) := of_decide_eq_true (by first | (with_reducible assumption) | assumption)
                                                                  obtain ⟨ad214, e214, hx214_0, hx214_1, hx214_2, hx214_3, hx214_4, hx214_5⟩ := at_T23 HR0.out x12_5 p214 q214
                                                                  obtain rfl : ad196 = ad214 := (by injection e214)
                                                                  replace hx214_0 := (HB.out.cell (World.block_lt_of_cell? w _ hx214_0)).trans hx214_0
                                                                  replace hx214_1 := (HB.out.cell (World.block_lt_of_cell? w _ hx214_1)).trans hx214_1
                                                                  replace hx214_2 := (HB.out.cell (World.block_lt_of_cell? w _ hx214_2)).trans hx214_2
                                                                  replace hx214_3 := (HB.out.cell (World.block_lt_of_cell? w _ hx214_3)).trans hx214_3
                                                                  replace hx214_4 := (HB.out.cell (World.block_lt_of_cell? w _ hx214_4)).trans hx214_4
                                                                  replace hx214_5 := (HB.out.cell (World.block_lt_of_cell? w _ hx214_5)).trans hx214_5
                                                                  replace p214 := eq_true p214
                                                                  replace q214 := eq_true q214
                                                                  have p215 : 0 ≤ (x10_3 : Int) := of_decide_eq_true (by first | (with_reducible assumption) | assumption)
                                                                  have q215 : x10_3 < (l0.length : Int) := of_decide_eq_true (by first | (with_reducible assumption) | assumption)
                                                                  obtain ⟨ad215, e215, hx215_0, hx215_1, hx215_2, hx215_3, hx215_4, hx215_5⟩ := at_T23 HR0.out x10_3 p215 q215
                                                                  obtain rfl : ad196 = ad215 := (by injection e215)
                                                                  replace hx215_0 := (HB.out.cell (World.block_lt_of_cell? w _ hx215_0)).trans hx215_0
                                                                  replace hx215_1 := (HB.out.cell (World.block_lt_of_cell? w _ hx215_1)).trans hx215_1
                                                                  replace hx215_2 := (HB.out.cell (World.block_lt_of_cell? w _ hx215_2)).trans hx215_2
                                                                  replace hx215_3 := (HB.out.cell (World.block_lt_of_cell? w _ hx215_3)).trans hx215_3
                                                                  replace hx215_4 := (HB.out.cell (World.block_lt_of_cell? w _ hx215_4)).trans hx215_4
                                                                  replace hx215_5 := (HB.out.cell (World.block_lt_of_cell? w _ hx215_5)).trans hx215_5
                                                                  replace p215 := eq_true p215
                                                                  replace q215 := eq_true q215
                                                                  have p216 : 0 ≤ (x12_5 : Int) := of_decide_eq_true (by first | (with_reducible assumption) | assumption)
                                                                  have q216 : x12_5 < (t192.length : Int) := of_decide_eq_true (by first | (with_reducible assumption) | assumption)
                                                                  obtain ⟨ad216, e216, hx216_0⟩ := Kd.at_int (Kd.R_reads' HO_8.out).2.2 x12_5 p216 q216
                                                                  obtain rfl : ad195 = ad216 := (by injection e216)
                                                                  replace p216 := eq_true p216
                                                                  replace q216 := eq_true q216
                                                                  have p217 : 0 ≤ (x10_3 : Int) := of_decide_eq_true (by first | (with_reducible assumption) | assumption)
                                                                  have q217 : x10_3 < (t192.length : Int) := of_decide_eq_true (by first | (with_reducible assumption) | assumption)
                                                                  obtain ⟨ad217, e217, hx217_0⟩ := Kd.at_int (Kd.R_reads' HO_8.out).2.2 x10_3 p217 q217
                                                                  obtain rfl : ad195 = ad217 := (by injection e217)
                                                                  replace p217 := eq_true p217
                                                                  replace q217 := eq_true q217
                                                                  have p218 : 0 ≤ (x12_5 : Int) := of_decide_eq_true (by first | (with_reducible assumption) | assumption)
                                                                  have q218 : x12_5 < (l0.length : Int) := of_decide_eq_true (by first | (with_reducible assumption) | assumption)
                                                                  obtain ⟨ad218, e218, hx218_0, hx218_1, hx218_2, hx218_3, hx218_4, hx218_5⟩ := at_T23 HR0.out x12_5 p218 q218
                                                                  obtain rfl : ad196 = ad218 := (by injection e218)
                                                                  replace hx218_0 := (HB.out.cell (World.block_lt_of_cell? w _ hx218_0)).trans hx218_0
                                                                  replace hx218_1 := (HB.out.cell (World.block_lt_of_cell? w _ hx218_1)).trans hx218_1
                                                                  replace hx218_2 := (HB.out.cell (World.block_lt_of_cell? w _ hx218_2)).trans hx218_2
                                                                  replace hx218_3 := (HB.out.cell (World.block_lt_of_cell? w _ hx218_3)).trans hx218_3
                                                                  replace hx218_4 := (HB.out.cell (World.block_lt_of_cell? w _ hx218_4)).trans hx218_4
                                                                  replace hx218_5 := (HB.out.cell (World.block_lt_of_cell? w _ hx218_5)).trans hx218_5
                                                                  replace p218 := eq_true p218
                                                                  replace q218 := eq_true q218
                                                                  have p219 : 0 ≤ (x10_3 : Int) := of_decide_eq_true (by first | (with_reducible assumption) | assumption)
                                                                  have q219 : x10_3 < (l0.length : Int) := of_decide_eq_true (by first | (with_reducible assumption) | assumption)
                                                                  obtain ⟨ad219, e219, hx219_0, hx219_1, hx219_2, hx219_3, hx219_4, hx219_5⟩ := at_T23 HR0.out x10_3 p219 q219
                                                                  obtain rfl : ad196 = ad219 := (by injection e219)
                                                                  replace hx219_0 := (HB.out.cell (World.block_lt_of_cell? w _ hx219_0)).trans hx219_0
                                                                  replace hx219_1 := (HB.out.cell (World.block_lt_of_cell? w _ hx219_1)).trans hx219_1
                                                                  replace hx219_2 := (HB.out.cell (World.block_lt_of_cell? w _ hx219_2)).trans hx219_2
                                                                  replace hx219_3 := (HB.out.cell (World.block_lt_of_cell? w _ hx219_3)).trans hx219_3
                                                                  replace hx219_4 := (HB.out.cell (World.block_lt_of_cell? w _ hx219_4)).trans hx219_4
                                                                  replace hx219_5 := (HB.out.cell (World.block_lt_of_cell? w _ hx219_5)).trans hx219_5
                                                                  replace p219 := eq_true p219
                                                                  replace q219 := eq_true q219
                                                                  have p220 : 0 ≤ (x12_5 : Int) := of_decide_eq_true (by first | (with_reducible assumption) | assumption)
                                                                  have q220 : x12_5 < (t192.length : Int) := of_decide_eq_true (by first | (with_reducible assumption) | assumption)
                                                                  obtain ⟨ad220, e220, hx220_0⟩ := Kd.at_int (Kd.R_reads' HO_8.out).2.2 x12_5 p220 q220
                                                                  obtain rfl : ad195 = ad220 := (by injection e220)
                                                                  replace p220 := eq_true p220
                                                                  replace q220 := eq_true q220
                                                                  have p221 : 0 ≤ (x10_3 : Int) := of_decide_eq_true (by first | (with_reducible assumption) | assumption)
                                                                  have q221 : x10_3 < (t192.length : Int) := of_decide_eq_true (by first | (with_reducible assumption) | assumption)
                                                                  obtain ⟨ad221, e221, hx221_0⟩ := Kd.at_int (Kd.R_reads' HO_8.out).2.2 x10_3 p221 q221
                                                                  obtain rfl : ad195 = ad221 := (by injection e221)
                                                                  replace p221 := eq_true p221
                                                                  replace q221 := eq_true q221
                                                                  go_wp2
                                                                  repeat (go_quiet (fail); try go_wp2)
                                                                  go_roundg kj27
                                                                  case measure => have := HJ3.out; have := HK2.out; have := HK3.out; have := HJ23.out; have := HK5.out; have := HJ27.out; omega
                                                                  case rel => exact ⟨(wrap64 (x12_5 + 1)), (by first | rfl | (simp; done) | (simp [*]; done)), H', ⟨by have := HJ3.out; have := HK2.out; have := HK3.out; have := HJ23.out; have := HK5.out; have := HJ27.out; omega⟩, ⟨by (with_reducible repeat (first | apply Kd.R_alloc | apply Kd.R_drewN | apply Kd.R_drew)); exact HO_8.out⟩, ⟨by repeat (first | (with_reducible first | exact HB.out | apply below_alloc | apply pw_below_drewN | apply below_drew1) | exact HB.out)⟩⟩
                                                              · rw [if_neg c49] at H
                                                                have c49b0 : decide (x10_3 < x12_5) = false := decide_eq_false c49
                                                                clear c49
                                                                have H' := Aside0.mk H
                                                                clear H
                                                                have p201 : 0 ≤ (x12_5 : Int) := of_decide_eq_true (by first | (with_reducible assumption) | assumption)
                                                                have q201 : x12_5 < (l0.length : Int) := of_decide_eq_true (by first | (with_reducible assumption) | assumption)
                                                                obtain ⟨ad201, e201, hx201_0, hx201_1, hx201_2, hx201_3, hx201_4, hx201_5⟩ := at_T23 HR0.out x12_5 p201 q201
                                                                obtain rfl : ad196 = ad201 := (by injection e201)
                                                                replace hx201_0 := (HB.out.cell (World.block_lt_of_cell? w _ hx201_0)).trans hx201_0
                                                                replace hx201_1 := (HB.out.cell (World.block_lt_of_cell? w _ hx201_1)).trans hx201_1
                                                                replace hx201_2 := (HB.out.cell (World.block_lt_of_cell? w _ hx201_2)).trans hx201_2
                                                                replace hx201_3 := (HB.out.cell (World.block_lt_of_cell? w _ hx201_3)).trans hx201_3
                                                                replace hx201_4 := (HB.out.cell (World.block_lt_of_cell? w _ hx201_4)).trans hx201_4
                                                                replace hx201_5 := (HB.out.cell (World.block_lt_of_cell? w _ hx201_5)).trans hx201_5
                                                                replace p201 := eq_true p201
                                                                replace q201 := eq_true q201
                                                                have p202 : 0 ≤ (x10_3 : Int) := of_decide_eq_true (by first | (with_reducible assumption) | assumption)
                                                                have q202 : x10_3 < (l0.length : Int) := of_decide_eq_true (by first | (with_reducible assumption) | assumption)
                                                                obtain ⟨ad202, e202, hx202_0, hx202_1, hx202_2, hx202_3, hx202_4, hx202_5⟩ := at_T23 HR0.out x10_3 p202 q202
                                                                obtain rfl : ad196 = ad202 := (by injection e202)
                                                                replace hx202_0 := (HB.out.cell (World.block_lt_of_cell? w _ hx202_0)).trans hx202_0
                                                                replace hx202_1 := (HB.out.cell (World.block_lt_of_cell? w _ hx202_1)).trans hx202_1
                                                                replace hx202_2 := (HB.out.cell (World.block_lt_of_cell? w _ hx202_2)).trans hx202_2
                                                                replace hx202_3 := (HB.out.cell (World.block_lt_of_cell? w _ hx202_3)).trans hx202_3
                                                                replace hx202_4 := (HB.out.cell (World.block_lt_of_cell? w _ hx202_4)).trans hx202_4
                                                                replace hx202_5 := (HB.out.cell (World.block_lt_of_cell? w _ hx202_5)).trans hx202_5
                                                                replace p202 := eq_true p202
                                                                replace q202 := eq_true q202
                                                                have p214 : 0 ≤ (x12_5 : Int) := of_decide_eq_true (by first | (with_reducible assumption) | assumption)
                                                                have q214 : x12_5 < (l0.length : Int) := of_decide_eq_true (by first | (with_reducible assumption) | assumption)
                                                                obtain ⟨ad214, e214, hx214_0, hx214_1, hx214_2, hx214_3, hx214_4, hx214_5⟩ := at_T23 HR0.out x12_5 p214 q214
                                                                obtain rfl : ad196 = ad214 := (by injection e214)
                                                                replace hx214_0 := (HB.out.cell (World.block_lt_of_cell? w _ hx214_0)).trans hx214_0
                                                                replace hx214_1 := (HB.out.cell (World.block_lt_of_cell? w _ hx214_1)).trans hx214_1
                                                                replace hx214_2 := (HB.out.cell (World.block_lt_of_cell? w _ hx214_2)).trans hx214_2
                                                                replace hx214_3 := (HB.out.cell (World.block_lt_of_cell? w _ hx214_3)).trans hx214_3
                                                                replace hx214_4 := (HB.out.cell (World.block_lt_of_cell? w _ hx214_4)).trans hx214_4
                                                                replace hx214_5 := (HB.out.cell (World.block_lt_of_cell? w _ hx214_5)).trans hx214_5
                                                                replace p214 := eq_true p214
                                                                replace q214 := eq_true q214
                                                                have p215 : 0 ≤ (x10_3 : Int) := of_decide_eq_true (by first | (with_reducible assumption) | assumption)
                                                                have q215 : x10_3 < (l0.length : Int) := of_decide_eq_true (by first | (with_reducible assumption) | assumption)
                                                                obtain ⟨ad215, e215, hx215_0, hx215_1, hx215_2, hx215_3, hx215_4, hx215_5⟩ := at_T23 HR0.out x10_3 p215 q215
                                                                obtain rfl : ad196 = ad215 := (by injection e215)
                                                                replace hx215_0 := (HB.out.cell (World.block_lt_of_cell? w _ hx215_0)).trans hx215_0
                                                                replace hx215_1 := (HB.out.cell (World.block_lt_of_cell? w _ hx215_1)).trans hx215_1
                                                                replace hx215_2 := (HB.out.cell (World.block_lt_of_cell? w _ hx215_2)).trans hx215_2
                                                                replace hx215_3 := (HB.out.cell (World.block_lt_of_cell? w _ hx215_3)).trans hx215_3
                                                                replace hx215_4 := (HB.out.cell (World.block_lt_of_cell? w _ hx215_4)).trans hx215_4
                                                                replace hx215_5 := (HB.out.cell (World.block_lt_of_cell? w _ hx215_5)).trans hx215_5
                                                                replace p215 := eq_true p215
                                                                replace q215 := eq_true q215
                                                                have p216 : 0 ≤ (x12_5 : Int) := of_decide_eq_true (by first | (with_reducible assumption) | assumption)
                                                                have q216 : x12_5 < (t192.length : Int) := of_decide_eq_true (by first | (with_reducible assumption) | assumption)
                                                                obtain ⟨ad216, e216, hx216_0⟩ := Kd.at_int (Kd.R_reads' HO_8.out).2.2 x12_5 p216 q216
                                                                obtain rfl : ad195 = ad216 := (by injection e216)
                                                                replace p216 := eq_true p216
                                                                replace q216 := eq_true q216
                                                                have p217 : 0 ≤ (x10_3 : Int) := of_decide_eq_true (by first | (with_reducible assumption) | assumption)
                                                                have q217 : x10_3 < (t192.length : Int) := of_decide_eq_true (by first | (with_reducible assumption) | assumption)
                                                                obtain ⟨ad217, e217, hx217_0⟩ := Kd.at_int (Kd.R_reads' HO_8.out).2.2 x10_3 p217 q217
                                                                obtain rfl : ad195 = ad217 := (by injection e217)
                                                                replace p217 := eq_true p217
                                                                replace q217 := eq_true q217
                                                                have p218 : 0 ≤ (x12_5 : Int) := of_decide_eq_true (by first | (with_reducible assumption) | assumption)
                                                                have q218 : x12_5 < (l0.length : Int) := of_decide_eq_true (by first | (with_reducible assumption) | assumption)
                                                                obtain ⟨ad218, e218, hx218_0, hx218_1, hx218_2, hx218_3, hx218_4, hx218_5⟩ := at_T23 HR0.out x12_5 p218 q218
                                                                obtain rfl : ad196 = ad218 := (by injection e218)
                                                                replace hx218_0 := (HB.out.cell (World.block_lt_of_cell? w _ hx218_0)).trans hx218_0
                                                                replace hx218_1 := (HB.out.cell (World.block_lt_of_cell? w _ hx218_1)).trans hx218_1
                                                                replace hx218_2 := (HB.out.cell (World.block_lt_of_cell? w _ hx218_2)).trans hx218_2
                                                                replace hx218_3 := (HB.out.cell (World.block_lt_of_cell? w _ hx218_3)).trans hx218_3
                                                                replace hx218_4 := (HB.out.cell (World.block_lt_of_cell? w _ hx218_4)).trans hx218_4
                                                                replace hx218_5 := (HB.out.cell (World.block_lt_of_cell? w _ hx218_5)).trans hx218_5
                                                                replace p218 := eq_true p218
                                                                replace q218 := eq_true q218
                                                                have p219 : 0 ≤ (x10_3 : Int) := of_decide_eq_true (by first | (with_reducible assumption) | assumption)
                                                                have q219 : x10_3 < (l0.length : Int) := of_decide_eq_true (by first | (with_reducible assumption) | assumption)
                                                                obtain ⟨ad219, e219, hx219_0, hx219_1, hx219_2, hx219_3, hx219_4, hx219_5⟩ := at_T23 HR0.out x10_3 p219 q219
                                                                obtain rfl : ad196 = ad219 := (by injection e219)
                                                                replace hx219_0 := (HB.out.cell (World.block_lt_of_cell? w _ hx219_0)).trans hx219_0
                                                                replace hx219_1 := (HB.out.cell (World.block_lt_of_cell? w _ hx219_1)).trans hx219_1
                                                                replace hx219_2 := (HB.out.cell (World.block_lt_of_cell? w _ hx219_2)).trans hx219_2
                                                                replace hx219_3 := (HB.out.cell (World.block_lt_of_cell? w _ hx219_3)).trans hx219_3
                                                                replace hx219_4 := (HB.out.cell (World.block_lt_of_cell? w _ hx219_4)).trans hx219_4
                                                                replace hx219_5 := (HB.out.cell (World.block_lt_of_cell? w _ hx219_5)).trans hx219_5
                                                                replace p219 := eq_true p219
                                                                replace q219 := eq_true q219
                                                                go_wp2
                                                                repeat (go_quiet (fail); try go_wp2)
                                                                go_roundg kj27
                                                                case measure => have := HJ3.out; have := HK2.out; have := HK3.out; have := HJ23.out; have := HK5.out; have := HJ27.out; omega
                                                                case rel => exact ⟨(wrap64 (x12_5 + 1)), (by first | rfl | (simp; done) | (simp [*]; done)), H', ⟨by have := HJ3.out; have := HK2.out; have := HK3.out; have := HJ23.out; have := HK5.out; have := HJ27.out; omega⟩, ⟨by (with_reducible repeat (first | apply Kd.R_alloc | apply Kd.R_drewN | apply Kd.R_drew)); exact HO_8.out⟩, ⟨by repeat (first | (with_reducible first | exact HB.out | apply below_alloc | apply pw_below_drewN | apply below_drew1) | exact HB.out)⟩⟩
                                                          · rw [if_neg c47] at H
                                                            exact absurd H (by simp)
                                                        · rw [if_neg c46] at H
                                                          exact absurd H (by simp)
                                                      · rw [if_neg c45] at H
                                                        have c45b0 : (((rd_T23 l0 x12_5).f3) == ((rd_T23 l0 x10_3).f3)) = false := beq_eq_false_iff_ne.mpr c45
                                                        have c45b1 : (((rd_T23 l0 x12_5).f3) != ((rd_T23 l0 x10_3).f3)) = true := bne_iff_ne.mpr c45
                                                        have H' := Aside0.mk H
                                                        clear H
                                                        have p201 : 0 ≤ (x12_5 : Int) := of_decide_eq_true (by first | (with_reducible assumption) | assumption)
                                                        have q201 : x12_5 < (l0.length : Int) := of_decide_eq_true (by first | (with_reducible assumption) | assumption)
                                                        obtain ⟨ad201, e201, hx201_0, hx201_1, hx201_2, hx201_3, hx201_4, hx201_5⟩ := at_T23 HR0.out x12_5 p201 q201
                                                        obtain rfl : ad196 = ad201 := (by injection e201)
                                                        replace hx201_0 := (HB.out.cell (World.block_lt_of_cell? w _ hx201_0)).trans hx201_0
                                                        replace hx201_1 := (HB.out.cell (World.block_lt_of_cell? w _ hx201_1)).trans hx201_1
                                                        replace hx201_2 := (HB.out.cell (World.block_lt_of_cell? w _ hx201_2)).trans hx201_2
                                                        replace hx201_3 := (HB.out.cell (World.block_lt_of_cell? w _ hx201_3)).trans hx201_3
                                                        replace hx201_4 := (HB.out.cell (World.block_lt_of_cell? w _ hx201_4)).trans hx201_4
                                                        replace hx201_5 := (HB.out.cell (World.block_lt_of_cell? w _ hx201_5)).trans hx201_5
                                                        replace p201 := eq_true p201
                                                        replace q201 := eq_true q201
                                                        have p202 : 0 ≤ (x10_3 : Int) := of_decide_eq_true (by first | (with_reducible assumption) | assumption)
                                                        have q202 : x10_3 < (l0.length : Int) := of_decide_eq_true (by first | (with_reducible assumption) | assumption)
                                                        obtain ⟨ad202, e202, hx202_0, hx202_1, hx202_2, hx202_3, hx202_4, hx202_5⟩ := at_T23 HR0.out x10_3 p202 q202
                                                        obtain rfl : ad196 = ad202 := (by injection e202)
                                                        replace hx202_0 := (HB.out.cell (World.block_lt_of_cell? w _ hx202_0)).trans hx202_0
                                                        replace hx202_1 := (HB.out.cell (World.block_lt_of_cell? w _ hx202_1)).trans hx202_1
                                                        replace hx202_2 := (HB.out.cell (World.block_lt_of_cell? w _ hx202_2)).trans hx202_2
                                                        replace hx202_3 := (HB.out.cell (World.block_lt_of_cell? w _ hx202_3)).trans hx202_3
                                                        replace hx202_4 := (HB.out.cell (World.block_lt_of_cell? w _ hx202_4)).trans hx202_4
                                                        replace hx202_5 := (HB.out.cell (World.block_lt_of_cell? w _ hx202_5)).trans hx202_5
                                                        replace p202 := eq_true p202
                                                        replace q202 := eq_true q202
                                                        have p214 : 0 ≤ (x12_5 : Int) := of_decide_eq_true (by first | (with_reducible assumption) | assumption)
                                                        have q214 : x12_5 < (l0.length : Int) := of_decide_eq_true (by first | (with_reducible assumption) | assumption)
                                                        obtain ⟨ad214, e214, hx214_0, hx214_1, hx214_2, hx214_3, hx214_4, hx214_5⟩ := at_T23 HR0.out x12_5 p214 q214
                                                        obtain rfl : ad196 = ad214 := (by injection e214)
                                                        replace hx214_0 := (HB.out.cell (World.block_lt_of_cell? w _ hx214_0)).trans hx214_0
                                                        replace hx214_1 := (HB.out.cell (World.block_lt_of_cell? w _ hx214_1)).trans hx214_1
                                                        replace hx214_2 := (HB.out.cell (World.block_lt_of_cell? w _ hx214_2)).trans hx214_2
                                                        replace hx214_3 := (HB.out.cell (World.block_lt_of_cell? w _ hx214_3)).trans hx214_3
                                                        replace hx214_4 := (HB.out.cell (World.block_lt_of_cell? w _ hx214_4)).trans hx214_4
                                                        replace hx214_5 := (HB.out.cell (World.block_lt_of_cell? w _ hx214_5)).trans hx214_5
                                                        replace p214 := eq_true p214
                                                        replace q214 := eq_true q214
                                                        have p215 : 0 ≤ (x10_3 : Int) := of_decide_eq_true (by first | (with_reducible assumption) | assumption)
                                                        have q215 : x10_3 < (l0.length : Int) := of_decide_eq_true (by first | (with_reducible assumption) | assumption)
                                                        obtain ⟨ad215, e215, hx215_0, hx215_1, hx215_2, hx215_3, hx215_4, hx215_5⟩ := at_T23 HR0.out x10_3 p215 q215
                                                        obtain rfl : ad196 = ad215 := (by injection e215)
                                                        replace hx215_0 := (HB.out.cell (World.block_lt_of_cell? w _ hx215_0)).trans hx215_0
                                                        replace hx215_1 := (HB.out.cell (World.block_lt_of_cell? w _ hx215_1)).trans hx215_1
                                                        replace hx215_2 := (HB.out.cell (World.block_lt_of_cell? w _ hx215_2)).trans hx215_2
                                                        replace hx215_3 := (HB.out.cell (World.block_lt_of_cell? w _ hx215_3)).trans hx215_3
                                                        replace hx215_4 := (HB.out.cell (World.block_lt_of_cell? w _ hx215_4)).trans hx215_4
                                                        replace hx215_5 := (HB.out.cell (World.block_lt_of_cell? w _ hx215_5)).trans hx215_5
                                                        replace p215 := eq_true p215
                                                        replace q215 := eq_true q215
                                                        have p222 : 0 ≤ (x12_5 : Int) := of_decide_eq_true (by first | (with_reducible assumption) | assumption)
                                                        have q222 : x12_5 < (l0.length : Int) := of_decide_eq_true (by first | (with_reducible assumption) | assumption)
                                                        obtain ⟨ad222, e222, hx222_0, hx222_1, hx222_2, hx222_3, hx222_4, hx222_5⟩ := at_T23 HR0.out x12_5 p222 q222
                                                        obtain rfl : ad196 = ad222 := (by injection e222)
                                                        replace hx222_0 := (HB.out.cell (World.block_lt_of_cell? w _ hx222_0)).trans hx222_0
                                                        replace hx222_1 := (HB.out.cell (World.block_lt_of_cell? w _ hx222_1)).trans hx222_1
                                                        replace hx222_2 := (HB.out.cell (World.block_lt_of_cell? w _ hx222_2)).trans hx222_2
                                                        replace hx222_3 := (HB.out.cell (World.block_lt_of_cell? w _ hx222_3)).trans hx222_3
                                                        replace hx222_4 := (HB.out.cell (World.block_lt_of_cell? w _ hx222_4)).trans hx222_4
                                                        replace hx222_5 := (HB.out.cell (World.block_lt_of_cell? w _ hx222_5)).trans hx222_5
                                                        replace p222 := eq_true p222
                                                        replace q222 := eq_true q222
                                                        have p223 : 0 ≤ (x10_3 : Int) := of_decide_eq_true (by first | (with_reducible assumption) | assumption)
                                                        have q223 : x10_3 < (l0.length : Int) := of_decide_eq_true (by first | (with_reducible assumption) | assumption)
                                                        obtain ⟨ad223, e223, hx223_0, hx223_1, hx223_2, hx223_3, hx223_4, hx223_5⟩ := at_T23 HR0.out x10_3 p223 q223
                                                        obtain rfl : ad196 = ad223 := (by injection e223)
                                                        replace hx223_0 := (HB.out.cell (World.block_lt_of_cell? w _ hx223_0)).trans hx223_0
                                                        replace hx223_1 := (HB.out.cell (World.block_lt_of_cell? w _ hx223_1)).trans hx223_1
                                                        replace hx223_2 := (HB.out.cell (World.block_lt_of_cell? w _ hx223_2)).trans hx223_2
                                                        replace hx223_3 := (HB.out.cell (World.block_lt_of_cell? w _ hx223_3)).trans hx223_3
                                                        replace hx223_4 := (HB.out.cell (World.block_lt_of_cell? w _ hx223_4)).trans hx223_4
                                                        replace hx223_5 := (HB.out.cell (World.block_lt_of_cell? w _ hx223_5)).trans hx223_5
                                                        replace p223 := eq_true p223
                                                        replace q223 := eq_true q223
                                                        go_wp2
                                                        repeat (go_quiet (fail); try go_wp2)
                                                        go_roundg kj27
                                                        case measure => have := HJ3.out; have := HK2.out; have := HK3.out; have := HJ23.out; have := HK5.out; have := HJ27.out; omega
                                                        case rel => exact ⟨(wrap64 (x12_5 + 1)), (by first | rfl | (simp; done) | (simp [*]; done)), H', ⟨by have := HJ3.out; have := HK2.out; have := HK3.out; have := HJ23.out; have := HK5.out; have := HJ27.out; omega⟩, ⟨by (with_reducible repeat (first | apply Kd.R_alloc | apply Kd.R_drewN | apply Kd.R_drew)); exact HO_8.out⟩, ⟨by repeat (first | (with_reducible first | exact HB.out | apply below_alloc | apply pw_below_drewN | apply below_drew1) | exact HB.out)⟩⟩
                                                  · rw [if_neg c36] at H
                                                    exact absurd H (by simp)
                                                · rw [if_neg c35] at H
                                                  exact absurd H (by simp)
                                              · rw [if_neg c34] at H
                                                exact absurd H (by simp)
                                            · rw [if_neg c33] at H
                                              exact absurd H (by simp)
                                          · replace c32 := Bool.eq_false_iff.mpr c32
                                            subst c32
                                            have H1 : (solventlaw32_QuotaAllowanceIsFair.l1 kj27 l0 a1 t187 x6_2 t192 (wrap64 (x9_3 + (rd t192 x10_3))) (wrap64 (x10_3 + 1))) = some r := by rw [if_neg (show ¬ (false = true) by decide)] at H; exact H
                                            clear H
                                            have H := H1
                                            clear H1
                                            have H' := Aside0.mk H
                                            clear H
                                            go_wp2
                                            repeat (go_quiet (fail); try go_wp2)
                                            go_roundg kj27
                                            case measure => have := HJ3.out; have := HK2.out; have := HK3.out; have := HJ23.out; have := HK5.out; have := HJ27.out; omega
                                            case rel => exact ⟨((wrap64 (x9_3 + (rd t192 x10_3)))), (wrap64 (x10_3 + 1)), (by first | rfl | (simp; done) | (simp [*]; done)), (by first | rfl | (simp; done) | (simp [*]; done)), H', ⟨by have := HJ3.out; have := HK2.out; have := HK3.out; have := HJ23.out; have := HK5.out; have := HJ27.out; omega⟩, ⟨by (with_reducible repeat (first | apply Kd.R_alloc | apply Kd.R_drewN | apply Kd.R_drew)); exact HO_8.out⟩, ⟨by repeat (first | (with_reducible first | exact HB.out | apply below_alloc | apply pw_below_drewN | apply below_drew1) | exact HB.out)⟩⟩
                        · rw [if_neg c22] at H
                          exact absurd H (by simp)
                      · rw [if_neg c21] at H
                        exact absurd H (by simp)
                    · rw [if_neg c20] at H
                      have c20b0 : decide (x10_3 < (t192.length : Int)) = false := decide_eq_false c20
                      clear c20
                      by_cases c51 : t187 = true
                      · subst c51
                        have H1 : (some (x9_3 == (mn a1 x6_2))) = some r := by rw [if_pos rfl] at H; exact H
                        clear H
                        have H := H1
                        clear H1
                        obtain ⟨ji52, hji52⟩ : ∃ j_ : Int, (mn a1 x6_2) = j_ := ⟨_, rfl⟩
                        replace H : (some (x9_3 == (ji52))) = some r := by first | (rw [hji52] at H; exact H) | (simp only [hji52] at H ⊢; exact H)
                        have hji52_ : (if x6_2 < a1 then x6_2 else a1) = ji52 := hji52
                        obtain rfl := Option.some.inj H
                        go_wp2
                        repeat (go_quiet (fail); try go_wp2)
                        go_ret
                        exact ⟨by first | rfl | (simp [errW_none, errW_some] <;> rfl) | (simp only [← hji52]; first | rfl | (simp [errW_none, errW_some] <;> rfl)) | (simp [*, errW_none, errW_some] <;> rfl), by repeat (first | (with_reducible first | exact HB.out | apply below_alloc | apply pw_below_drewN | apply below_drew1) | exact HB.out)⟩
                      · replace c51 := Bool.eq_false_iff.mpr c51
                        subst c51
                        have H1 : (none) = some r := by rw [if_neg (show ¬ (false = true) by decide)] at H; exact H
                        clear H
                        have H := H1
                        clear H1
                        exact absurd H (by simp)
              · rw [if_neg c17] at H
                exact absurd H (by simp)

end Go.Proofs.Ytdapoclangoobaa.Q
