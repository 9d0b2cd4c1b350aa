/- Printed by a program of this session (wip/tools) out of the translation: Lean functions that answer as the Go functions do, and the proofs of that; turned by hand where the program calls closures or cuts with three indexes. -/
import Derived.Test.YtiejibkjhmmpaaaQ0
import Derived.Test.YtiejibkjhmmpaaaQE1
import Derived.Test.YtiejibkjhmmpaaaQL
import Derived.Test.YtiejibkjhmmpaaaQP
import Derived.Test.YtiejibkjhmmpaaaQK
import Derived.Test.YtiejibkjhmmpaaaQU
namespace Go.Proofs.Ytiejibkjhmmpaaa.Q
open Go.RowKit Go.Proofs.YtiejibkjhmmpaaaW.PrintWords Go.Proofs.YtiejibkjhmmpaaaW.PrintLast Go.Proofs.YtiejibkjhmmpaaaW.PrintMore
attribute [local go_sem] max2_int min2_int max_two min_two max_three min_three max_four min_four   -- for this text's walks alone
set_option linter.unusedVariables false
set_option linter.unusedSimpArgs false

attribute [local go_sem high] eqA45
/-! ### solventlaw14_LayoutIsPartition: function 12 -/
mutual
def solventlaw14_LayoutIsPartition.j0 : Nat → Int → Int → Bool → Bool → Int → Int → Int → Int → Int → Int → Option (Bool)
  | 0, _, _, _, _, _, _, _, _, _, _ => none
  | k + 1, x1, x2, x7, x31, x386000, x386001, x386002, x386003, x386004, x386005 => if x31 = true then (some x7) else (solventlaw14_LayoutIsPartition.j1 k x1 x2 x386000 x386001 x386002 x386003 x386004 x386005)
def solventlaw14_LayoutIsPartition.j1 : Nat → Int → Int → Int → Int → Int → Int → Int → Int → Option (Bool)
  | 0, _, _, _, _, _, _, _, _ => none
  | k + 1, x1, x2, x386000, x386001, x386002, x386003, x386004, x386005 => if x386002 = 0 then (none) else (if 0 ≤ x386000 then (if (x386000 : Int).toNat ≤ 35184372088832 then (solventlaw14_LayoutIsPartition.l0 k x1 (Int.tmod (wrap64 (x2)) x386002) (List.replicate (x386000 : Int).toNat 0) 0 x386000 x386001 x386002 x386003 x386004 x386005) else (none)) else (none))
def solventlaw14_LayoutIsPartition.j7 : Nat → Int → Int → List Int → Int → Int → Int → Int → Int → Int → Option (Bool)
  | 0, _, _, _, _, _, _, _, _, _ => none
  | k + 1, x1, x8, x9, x386000, x386001, x386002, x386003, x386004, x386005 => (layout_Spares.f k x386000 x386001 x386002 x386003 x386004 x386005 x8 x1).bind fun t413 => (solventlaw14_LayoutIsPartition.l2 k x1 x8 x9 t413 0 x386000 x386001 x386002 x386003 x386004 x386005)
def solventlaw14_LayoutIsPartition.j11 : Nat → Int → List Int → List Int → Int → Int → Int → Int → Int → Int → Option (Bool)
  | 0, _, _, _, _, _, _, _, _, _ => none
  | k + 1, x1, x9, x18, x386000, x386001, x386002, x386003, x386004, x386005 => solventlaw14_LayoutIsPartition.l3 k x1 x9 x18 0 x386000 x386001 x386002 x386003 x386004 x386005
def solventlaw14_LayoutIsPartition.l3 : Nat → Int → List Int → List Int → Int → Int → Int → Int → Int → Int → Int → Option (Bool)
  | 0, _, _, _, _, _, _, _, _, _, _ => none
  | k + 1, x1, x9, x18, x22, x386000, x386001, x386002, x386003, x386004, x386005 => if x22 < x386000 then (if 0 ≤ x22 then (if x22 < (x9.length : Int) then (if (rd x9 x22) = 1 then (solventlaw14_LayoutIsPartition.l3 k x1 x9 x18 (wrap64 (x22 + 1)) x386000 x386001 x386002 x386003 x386004 x386005) else (none)) else (none)) else (none)) else (if (x18.length : Int) ≥ x386003 then (some (decide ((x18.length : Int) < (wrap64 (x386003 + x1))))) else (none))
def solventlaw14_LayoutIsPartition.l2 : Nat → Int → Int → List Int → List Int → Int → Int → Int → Int → Int → Int → Int → Option (Bool)
  | 0, _, _, _, _, _, _, _, _, _, _, _ => none
  | k + 1, x1, x8, x9, x18, x19, x386000, x386001, x386002, x386003, x386004, x386005 => if x19 < (x18.length : Int) then (solventlaw14_LayoutIsPartition.j9 k x1 x8 x9 x18 x19 x386000 x386001 x386002 x386003 x386004 x386005) else (solventlaw14_LayoutIsPartition.j11 k x1 x9 x18 x386000 x386001 x386002 x386003 x386004 x386005)
def solventlaw14_LayoutIsPartition.j9 : Nat → Int → Int → List Int → List Int → Int → Int → Int → Int → Int → Int → Int → Option (Bool)
  | 0, _, _, _, _, _, _, _, _, _, _, _ => none
  | k + 1, x1, x8, x9, x18, x19, x386000, x386001, x386002, x386003, x386004, x386005 => if 0 ≤ x19 then (if x19 < (x18.length : Int) then (if (rd x18 x19) < 0 then (solventlaw14_LayoutIsPartition.j10 k x1 x8 x9 x18 x19 true x386000 x386001 x386002 x386003 x386004 x386005) else (solventlaw14_LayoutIsPartition.j10 k x1 x8 x9 x18 x19 (decide ((rd x18 x19) ≥ x386000)) x386000 x386001 x386002 x386003 x386004 x386005)) else (none)) else (none)
def solventlaw14_LayoutIsPartition.j10 : Nat → Int → Int → List Int → List Int → Int → Bool → Int → Int → Int → Int → Int → Int → Option (Bool)
  | 0, _, _, _, _, _, _, _, _, _, _, _, _ => none
  | k + 1, x1, x8, x9, x18, x19, x164, x386000, x386001, x386002, x386003, x386004, x386005 => if x164 = true then (none) else (if 0 ≤ x19 then (if x19 < (x18.length : Int) then ((layout_Find.f k x386000 x386001 x386002 x386003 x386004 x386005 x8 x1 (rd x18 x19)).bind fun bt419 => (if bt419.2.2.2 = 12 then (if 0 ≤ (rd x18 x19) then (if (rd x18 x19) < (x9.length : Int) then (solventlaw14_LayoutIsPartition.l2 k x1 x8 (x9.set ((rd x18 x19) : Int).toNat (wrap64 ((rd x9 (rd x18 x19)) + 1))) x18 (wrap64 (x19 + 1)) x386000 x386001 x386002 x386003 x386004 x386005) else (none)) else (none)) else (none))) else (none)) else (none))
def solventlaw14_LayoutIsPartition.l0 : Nat → Int → Int → List Int → Int → Int → Int → Int → Int → Int → Int → Option (Bool)
  | 0, _, _, _, _, _, _, _, _, _, _ => none
  | k + 1, x1, x8, x9, x10, x386000, x386001, x386002, x386003, x386004, x386005 => (layout_Groups.f k x386000 x386001 x386002 x386003 x386004 x386005 x1).bind fun t391 => (if x10 < t391 then (solventlaw14_LayoutIsPartition.j3 k x1 x8 x9 x10 x386000 x386001 x386002 x386003 x386004 x386005) else (solventlaw14_LayoutIsPartition.j7 k x1 x8 x9 x386000 x386001 x386002 x386003 x386004 x386005))
def solventlaw14_LayoutIsPartition.j3 : Nat → Int → Int → List Int → Int → Int → Int → Int → Int → Int → Int → Option (Bool)
  | 0, _, _, _, _, _, _, _, _, _, _ => none
  | k + 1, x1, x8, x9, x10, x386000, x386001, x386002, x386003, x386004, x386005 => (layout_Place.f k x386000 x386001 x386002 x386003 x386004 x386005 x8 x1 x10).bind fun t392 => (if (t392.length : Int) = x1 then (solventlaw14_LayoutIsPartition.j4 k x1 x8 x9 x10 t392 x386000 x386001 x386002 x386003 x386004 x386005) else (none))
def solventlaw14_LayoutIsPartition.j4 : Nat → Int → Int → List Int → Int → List Int → Int → Int → Int → Int → Int → Int → Option (Bool)
  | 0, _, _, _, _, _, _, _, _, _, _, _ => none
  | k + 1, x1, x8, x9, x10, x11, x386000, x386001, x386002, x386003, x386004, x386005 => solventlaw14_LayoutIsPartition.l1 k x1 x8 x9 x10 x11 0 x386000 x386001 x386002 x386003 x386004 x386005
def solventlaw14_LayoutIsPartition.l1 : Nat → Int → Int → List Int → Int → List Int → Int → Int → Int → Int → Int → Int → Int → Option (Bool)
  | 0, _, _, _, _, _, _, _, _, _, _, _, _ => none
  | k + 1, x1, x8, x9, x10, x11, x12, x386000, x386001, x386002, x386003, x386004, x386005 => if x12 < x1 then (solventlaw14_LayoutIsPartition.j6 k x1 x8 x9 x10 x11 x12 x386000 x386001 x386002 x386003 x386004 x386005) else (solventlaw14_LayoutIsPartition.l0 k x1 x8 x9 (wrap64 (x10 + 1)) x386000 x386001 x386002 x386003 x386004 x386005)
def solventlaw14_LayoutIsPartition.j6 : Nat → Int → Int → List Int → Int → List Int → Int → Int → Int → Int → Int → Int → Int → Option (Bool)
  | 0, _, _, _, _, _, _, _, _, _, _, _, _ => none
  | k + 1, x1, x8, x9, x10, x11, x12, x386000, x386001, x386002, x386003, x386004, x386005 => (layout_At.f k x386000 x386001 x386002 x386003 x386004 x386005 x1 x8 x10 x12).bind fun bt396 => (if 0 ≤ x12 then (if x12 < (x11.length : Int) then ((layout_Find.f k x386000 x386001 x386002 x386003 x386004 x386005 x8 x1 (rd x11 x12)).bind fun bt402 => (if bt396.2.2.2 = 0 then (if bt402.2.2.2 = 0 then (if ((!(bt402.1 == x8) || (!(bt402.2.1 == x10))) || (!(bt402.2.2.1 == x12))) = true then (none) else (if bt396.1 = (rd x11 x12) then (if bt396.2.1 = 4 then (if bt396.2.2.1 = x8 then (if (rd x11 x12) < 0 then (none) else (if (rd x11 x12) ≥ x386000 then (none) else (if 0 ≤ (rd x11 x12) then (if (rd x11 x12) < (x9.length : Int) then (solventlaw14_LayoutIsPartition.l1 k x1 x8 (x9.set ((rd x11 x12) : Int).toNat (wrap64 ((rd x9 (rd x11 x12)) + 1))) x10 x11 (wrap64 (x12 + 1)) x386000 x386001 x386002 x386003 x386004 x386005) else (none)) else (none)))) else (none)) else (none)) else (none))) else (none)) else (none))) else (none)) else (none))
end
def solventlaw14_LayoutIsPartition.f (k : Nat) (a0_0 : Int) (a0_1 : Int) (a0_2 : Int) (a0_3 : Int) (a0_4 : Int) (a0_5 : Int) (a1 : Int) (a2 : Int) : Option (Bool) := (solventlaw14_sanity.f k).bind fun t386 => (if t386 = true then ((solventlaw14_proper.f k a0_0 a0_1 a0_2 a0_3 a0_4 a0_5 a1).bind fun t387 => (solventlaw14_LayoutIsPartition.j0 k a1 a2 t386 (!t387) a0_0 a0_1 a0_2 a0_3 a0_4 a0_5)) else (solventlaw14_LayoutIsPartition.j0 k a1 a2 t386 true a0_0 a0_1 a0_2 a0_3 a0_4 a0_5))
theorem solventlaw14_LayoutIsPartition.mono_l : ∀ k, (∀ y0 y1 y2 y3 y4 y5 y6 y7 y8 y9, LeO (solventlaw14_LayoutIsPartition.j0 k y0 y1 y2 y3 y4 y5 y6 y7 y8 y9) (solventlaw14_LayoutIsPartition.j0 (k + 1) y0 y1 y2 y3 y4 y5 y6 y7 y8 y9)) ∧ (∀ y0 y1 y2 y3 y4 y5 y6 y7, LeO (solventlaw14_LayoutIsPartition.j1 k y0 y1 y2 y3 y4 y5 y6 y7) (solventlaw14_LayoutIsPartition.j1 (k + 1) y0 y1 y2 y3 y4 y5 y6 y7)) ∧ (∀ y0 y1 y2 y3 y4 y5 y6 y7 y8, LeO (solventlaw14_LayoutIsPartition.j7 k y0 y1 y2 y3 y4 y5 y6 y7 y8) (solventlaw14_LayoutIsPartition.j7 (k + 1) y0 y1 y2 y3 y4 y5 y6 y7 y8)) ∧ (∀ y0 y1 y2 y3 y4 y5 y6 y7 y8, LeO (solventlaw14_LayoutIsPartition.j11 k y0 y1 y2 y3 y4 y5 y6 y7 y8) (solventlaw14_LayoutIsPartition.j11 (k + 1) y0 y1 y2 y3 y4 y5 y6 y7 y8)) ∧ (∀ y0 y1 y2 y3 y4 y5 y6 y7 y8 y9, LeO (solventlaw14_LayoutIsPartition.l3 k y0 y1 y2 y3 y4 y5 y6 y7 y8 y9) (solventlaw14_LayoutIsPartition.l3 (k + 1) y0 y1 y2 y3 y4 y5 y6 y7 y8 y9)) ∧ (∀ y0 y1 y2 y3 y4 y5 y6 y7 y8 y9 y10, LeO (solventlaw14_LayoutIsPartition.l2 k y0 y1 y2 y3 y4 y5 y6 y7 y8 y9 y10) (solventlaw14_LayoutIsPartition.l2 (k + 1) y0 y1 y2 y3 y4 y5 y6 y7 y8 y9 y10)) ∧ (∀ y0 y1 y2 y3 y4 y5 y6 y7 y8 y9 y10, LeO (solventlaw14_LayoutIsPartition.j9 k y0 y1 y2 y3 y4 y5 y6 y7 y8 y9 y10) (solventlaw14_LayoutIsPartition.j9 (k + 1) y0 y1 y2 y3 y4 y5 y6 y7 y8 y9 y10)) ∧ (∀ y0 y1 y2 y3 y4 y5 y6 y7 y8 y9 y10 y11, LeO (solventlaw14_LayoutIsPartition.j10 k y0 y1 y2 y3 y4 y5 y6 y7 y8 y9 y10 y11) (solventlaw14_LayoutIsPartition.j10 (k + 1) y0 y1 y2 y3 y4 y5 y6 y7 y8 y9 y10 y11)) ∧ (∀ y0 y1 y2 y3 y4 y5 y6 y7 y8 y9, LeO (solventlaw14_LayoutIsPartition.l0 k y0 y1 y2 y3 y4 y5 y6 y7 y8 y9) (solventlaw14_LayoutIsPartition.l0 (k + 1) y0 y1 y2 y3 y4 y5 y6 y7 y8 y9)) ∧ (∀ y0 y1 y2 y3 y4 y5 y6 y7 y8 y9, LeO (solventlaw14_LayoutIsPartition.j3 k y0 y1 y2 y3 y4 y5 y6 y7 y8 y9) (solventlaw14_LayoutIsPartition.j3 (k + 1) y0 y1 y2 y3 y4 y5 y6 y7 y8 y9)) ∧ (∀ y0 y1 y2 y3 y4 y5 y6 y7 y8 y9 y10, LeO (solventlaw14_LayoutIsPartition.j4 k y0 y1 y2 y3 y4 y5 y6 y7 y8 y9 y10) (solventlaw14_LayoutIsPartition.j4 (k + 1) y0 y1 y2 y3 y4 y5 y6 y7 y8 y9 y10)) ∧ (∀ y0 y1 y2 y3 y4 y5 y6 y7 y8 y9 y10 y11, LeO (solventlaw14_LayoutIsPartition.l1 k y0 y1 y2 y3 y4 y5 y6 y7 y8 y9 y10 y11) (solventlaw14_LayoutIsPartition.l1 (k + 1) y0 y1 y2 y3 y4 y5 y6 y7 y8 y9 y10 y11)) ∧ (∀ y0 y1 y2 y3 y4 y5 y6 y7 y8 y9 y10 y11, LeO (solventlaw14_LayoutIsPartition.j6 k y0 y1 y2 y3 y4 y5 y6 y7 y8 y9 y10 y11) (solventlaw14_LayoutIsPartition.j6 (k + 1) y0 y1 y2 y3 y4 y5 y6 y7 y8 y9 y10 y11))
  | 0 => ⟨fun _ _ _ _ _ _ _ _ _ _ r h => by simp [solventlaw14_LayoutIsPartition.j0] at h, fun _ _ _ _ _ _ _ _ r h => by simp [solventlaw14_LayoutIsPartition.j1] at h, fun _ _ _ _ _ _ _ _ _ r h => by simp [solventlaw14_LayoutIsPartition.j7] at h, fun _ _ _ _ _ _ _ _ _ r h => by simp [solventlaw14_LayoutIsPartition.j11] at h, fun _ _ _ _ _ _ _ _ _ _ r h => by simp [solventlaw14_LayoutIsPartition.l3] at h, fun _ _ _ _ _ _ _ _ _ _ _ r h => by simp [solventlaw14_LayoutIsPartition.l2] at h, fun _ _ _ _ _ _ _ _ _ _ _ r h => by simp [solventlaw14_LayoutIsPartition.j9] at h, fun _ _ _ _ _ _ _ _ _ _ _ _ r h => by simp [solventlaw14_LayoutIsPartition.j10] at h, fun _ _ _ _ _ _ _ _ _ _ r h => by simp [solventlaw14_LayoutIsPartition.l0] at h, fun _ _ _ _ _ _ _ _ _ _ r h => by simp [solventlaw14_LayoutIsPartition.j3] at h, fun _ _ _ _ _ _ _ _ _ _ _ r h => by simp [solventlaw14_LayoutIsPartition.j4] at h, fun _ _ _ _ _ _ _ _ _ _ _ _ r h => by simp [solventlaw14_LayoutIsPartition.l1] at h, fun _ _ _ _ _ _ _ _ _ _ _ _ r h => by simp [solventlaw14_LayoutIsPartition.j6] at h⟩
  | k + 1 => by
    obtain ⟨ih0, ih1, ih2, ih3, ih4, ih5, ih6, ih7, ih8, ih9, ih10, ih11, ih12⟩ := solventlaw14_LayoutIsPartition.mono_l k
    refine ⟨?_, ?_, ?_, ?_, ?_, ?_, ?_, ?_, ?_, ?_, ?_, ?_, ?_⟩
    · intro y0 y1 y2 y3 y4 y5 y6 y7 y8 y9
      unfold solventlaw14_LayoutIsPartition.j0
      repeat' first
      | (with_reducible exact ih0 _ _ _ _ _ _ _ _ _ _)
      | (with_reducible exact ih1 _ _ _ _ _ _ _ _)
      | (with_reducible exact ih2 _ _ _ _ _ _ _ _ _)
      | (with_reducible exact ih3 _ _ _ _ _ _ _ _ _)
      | (with_reducible exact ih4 _ _ _ _ _ _ _ _ _ _)
      | (with_reducible exact ih5 _ _ _ _ _ _ _ _ _ _ _)
      | (with_reducible exact ih6 _ _ _ _ _ _ _ _ _ _ _)
      | (with_reducible exact ih7 _ _ _ _ _ _ _ _ _ _ _ _)
      | (with_reducible exact ih8 _ _ _ _ _ _ _ _ _ _)
      | (with_reducible exact ih9 _ _ _ _ _ _ _ _ _ _)
      | (with_reducible exact ih10 _ _ _ _ _ _ _ _ _ _ _)
      | (with_reducible exact ih11 _ _ _ _ _ _ _ _ _ _ _ _)
      | (with_reducible exact ih12 _ _ _ _ _ _ _ _ _ _ _ _)
      | (with_reducible exact layout_At.mono _ _ _ _ _ _ _ _ _ _ _)
      | (with_reducible exact layout_Find.mono _ _ _ _ _ _ _ _ _ _)
      | (with_reducible exact layout_Groups.mono _ _ _ _ _ _ _ _)
      | (with_reducible exact layout_Place.mono _ _ _ _ _ _ _ _ _ _)
      | (with_reducible exact layout_Spares.mono _ _ _ _ _ _ _ _ _)
      | (with_reducible exact solventlaw14_proper.mono _ _ _ _ _ _ _ _)
      | (with_reducible exact solventlaw14_sanity.mono _)
      | (with_reducible exact LeO.refl _)
      | (with_reducible exact LeO.none _)
      | (with_reducible refine LeO.ite ?_ ?_)
      | (with_reducible refine LeO.bind ?_ (fun _ => ?_))
      | exact ih0 _ _ _ _ _ _ _ _ _ _
      | exact ih1 _ _ _ _ _ _ _ _
      | exact ih2 _ _ _ _ _ _ _ _ _
      | exact ih3 _ _ _ _ _ _ _ _ _
      | exact ih4 _ _ _ _ _ _ _ _ _ _
      | exact ih5 _ _ _ _ _ _ _ _ _ _ _
      | exact ih6 _ _ _ _ _ _ _ _ _ _ _
      | exact ih7 _ _ _ _ _ _ _ _ _ _ _ _
      | exact ih8 _ _ _ _ _ _ _ _ _ _
      | exact ih9 _ _ _ _ _ _ _ _ _ _
      | exact ih10 _ _ _ _ _ _ _ _ _ _ _
      | exact ih11 _ _ _ _ _ _ _ _ _ _ _ _
      | exact ih12 _ _ _ _ _ _ _ _ _ _ _ _
      | exact layout_At.mono _ _ _ _ _ _ _ _ _ _ _
      | exact layout_Find.mono _ _ _ _ _ _ _ _ _ _
      | exact layout_Groups.mono _ _ _ _ _ _ _ _
      | exact layout_Place.mono _ _ _ _ _ _ _ _ _ _
      | exact layout_Spares.mono _ _ _ _ _ _ _ _ _
      | exact solventlaw14_proper.mono _ _ _ _ _ _ _ _
      | exact solventlaw14_sanity.mono _
      | exact LeO.none _
      | refine LeO.ite ?_ ?_
      | refine LeO.bind ?_ (fun _ => ?_)
    · intro y0 y1 y2 y3 y4 y5 y6 y7
      unfold solventlaw14_LayoutIsPartition.j1
      repeat' first
      | (with_reducible exact ih0 _ _ _ _ _ _ _ _ _ _)
      | (with_reducible exact ih1 _ _ _ _ _ _ _ _)
      | (with_reducible exact ih2 _ _ _ _ _ _ _ _ _)
      | (with_reducible exact ih3 _ _ _ _ _ _ _ _ _)
      | (with_reducible exact ih4 _ _ _ _ _ _ _ _ _ _)
      | (with_reducible exact ih5 _ _ _ _ _ _ _ _ _ _ _)
      | (with_reducible exact ih6 _ _ _ _ _ _ _ _ _ _ _)
      | (with_reducible exact ih7 _ _ _ _ _ _ _ _ _ _ _ _)
      | (with_reducible exact ih8 _ _ _ _ _ _ _ _ _ _)
      | (with_reducible exact ih9 _ _ _ _ _ _ _ _ _ _)
      | (with_reducible exact ih10 _ _ _ _ _ _ _ _ _ _ _)
      | (with_reducible exact ih11 _ _ _ _ _ _ _ _ _ _ _ _)
      | (with_reducible exact ih12 _ _ _ _ _ _ _ _ _ _ _ _)
      | (with_reducible exact layout_At.mono _ _ _ _ _ _ _ _ _ _ _)
      | (with_reducible exact layout_Find.mono _ _ _ _ _ _ _ _ _ _)
      | (with_reducible exact layout_Groups.mono _ _ _ _ _ _ _ _)
      | (with_reducible exact layout_Place.mono _ _ _ _ _ _ _ _ _ _)
      | (with_reducible exact layout_Spares.mono _ _ _ _ _ _ _ _ _)
      | (with_reducible exact solventlaw14_proper.mono _ _ _ _ _ _ _ _)
      | (with_reducible exact solventlaw14_sanity.mono _)
      | (with_reducible exact LeO.refl _)
      | (with_reducible exact LeO.none _)
      | (with_reducible refine LeO.ite ?_ ?_)
      | (with_reducible refine LeO.bind ?_ (fun _ => ?_))
      | exact ih0 _ _ _ _ _ _ _ _ _ _
      | exact ih1 _ _ _ _ _ _ _ _
      | exact ih2 _ _ _ _ _ _ _ _ _
      | exact ih3 _ _ _ _ _ _ _ _ _
      | exact ih4 _ _ _ _ _ _ _ _ _ _
      | exact ih5 _ _ _ _ _ _ _ _ _ _ _
      | exact ih6 _ _ _ _ _ _ _ _ _ _ _
      | exact ih7 _ _ _ _ _ _ _ _ _ _ _ _
      | exact ih8 _ _ _ _ _ _ _ _ _ _
      | exact ih9 _ _ _ _ _ _ _ _ _ _
      | exact ih10 _ _ _ _ _ _ _ _ _ _ _
      | exact ih11 _ _ _ _ _ _ _ _ _ _ _ _
      | exact ih12 _ _ _ _ _ _ _ _ _ _ _ _
      | exact layout_At.mono _ _ _ _ _ _ _ _ _ _ _
      | exact layout_Find.mono _ _ _ _ _ _ _ _ _ _
      | exact layout_Groups.mono _ _ _ _ _ _ _ _
      | exact layout_Place.mono _ _ _ _ _ _ _ _ _ _
      | exact layout_Spares.mono _ _ _ _ _ _ _ _ _
      | exact solventlaw14_proper.mono _ _ _ _ _ _ _ _
      | exact solventlaw14_sanity.mono _
      | exact LeO.none _
      | refine LeO.ite ?_ ?_
      | refine LeO.bind ?_ (fun _ => ?_)
    · intro y0 y1 y2 y3 y4 y5 y6 y7 y8
      unfold solventlaw14_LayoutIsPartition.j7
      repeat' first
      | (with_reducible exact ih0 _ _ _ _ _ _ _ _ _ _)
      | (with_reducible exact ih1 _ _ _ _ _ _ _ _)
      | (with_reducible exact ih2 _ _ _ _ _ _ _ _ _)
      | (with_reducible exact ih3 _ _ _ _ _ _ _ _ _)
      | (with_reducible exact ih4 _ _ _ _ _ _ _ _ _ _)
      | (with_reducible exact ih5 _ _ _ _ _ _ _ _ _ _ _)
      | (with_reducible exact ih6 _ _ _ _ _ _ _ _ _ _ _)
      | (with_reducible exact ih7 _ _ _ _ _ _ _ _ _ _ _ _)
      | (with_reducible exact ih8 _ _ _ _ _ _ _ _ _ _)
      | (with_reducible exact ih9 _ _ _ _ _ _ _ _ _ _)
      | (with_reducible exact ih10 _ _ _ _ _ _ _ _ _ _ _)
      | (with_reducible exact ih11 _ _ _ _ _ _ _ _ _ _ _ _)
      | (with_reducible exact ih12 _ _ _ _ _ _ _ _ _ _ _ _)
      | (with_reducible exact layout_At.mono _ _ _ _ _ _ _ _ _ _ _)
      | (with_reducible exact layout_Find.mono _ _ _ _ _ _ _ _ _ _)
      | (with_reducible exact layout_Groups.mono _ _ _ _ _ _ _ _)
      | (with_reducible exact layout_Place.mono _ _ _ _ _ _ _ _ _ _)
      | (with_reducible exact layout_Spares.mono _ _ _ _ _ _ _ _ _)
      | (with_reducible exact solventlaw14_proper.mono _ _ _ _ _ _ _ _)
      | (with_reducible exact solventlaw14_sanity.mono _)
      | (with_reducible exact LeO.refl _)
      | (with_reducible exact LeO.none _)
      | (with_reducible refine LeO.ite ?_ ?_)
      | (with_reducible refine LeO.bind ?_ (fun _ => ?_))
      | exact ih0 _ _ _ _ _ _ _ _ _ _
      | exact ih1 _ _ _ _ _ _ _ _
      | exact ih2 _ _ _ _ _ _ _ _ _
      | exact ih3 _ _ _ _ _ _ _ _ _
      | exact ih4 _ _ _ _ _ _ _ _ _ _
      | exact ih5 _ _ _ _ _ _ _ _ _ _ _
      | exact ih6 _ _ _ _ _ _ _ _ _ _ _
      | exact ih7 _ _ _ _ _ _ _ _ _ _ _ _
      | exact ih8 _ _ _ _ _ _ _ _ _ _
      | exact ih9 _ _ _ _ _ _ _ _ _ _
      | exact ih10 _ _ _ _ _ _ _ _ _ _ _
      | exact ih11 _ _ _ _ _ _ _ _ _ _ _ _
      | exact ih12 _ _ _ _ _ _ _ _ _ _ _ _
      | exact layout_At.mono _ _ _ _ _ _ _ _ _ _ _
      | exact layout_Find.mono _ _ _ _ _ _ _ _ _ _
      | exact layout_Groups.mono _ _ _ _ _ _ _ _
      | exact layout_Place.mono _ _ _ _ _ _ _ _ _ _
      | exact layout_Spares.mono _ _ _ _ _ _ _ _ _
      | exact solventlaw14_proper.mono _ _ _ _ _ _ _ _
      | exact solventlaw14_sanity.mono _
      | exact LeO.none _
      | refine LeO.ite ?_ ?_
      | refine LeO.bind ?_ (fun _ => ?_)
    · intro y0 y1 y2 y3 y4 y5 y6 y7 y8
      unfold solventlaw14_LayoutIsPartition.j11
      repeat' first
      | (with_reducible exact ih0 _ _ _ _ _ _ _ _ _ _)
      | (with_reducible exact ih1 _ _ _ _ _ _ _ _)
      | (with_reducible exact ih2 _ _ _ _ _ _ _ _ _)
      | (with_reducible exact ih3 _ _ _ _ _ _ _ _ _)
      | (with_reducible exact ih4 _ _ _ _ _ _ _ _ _ _)
      | (with_reducible exact ih5 _ _ _ _ _ _ _ _ _ _ _)
      | (with_reducible exact ih6 _ _ _ _ _ _ _ _ _ _ _)
      | (with_reducible exact ih7 _ _ _ _ _ _ _ _ _ _ _ _)
      | (with_reducible exact ih8 _ _ _ _ _ _ _ _ _ _)
      | (with_reducible exact ih9 _ _ _ _ _ _ _ _ _ _)
      | (with_reducible exact ih10 _ _ _ _ _ _ _ _ _ _ _)
      | (with_reducible exact ih11 _ _ _ _ _ _ _ _ _ _ _ _)
      | (with_reducible exact ih12 _ _ _ _ _ _ _ _ _ _ _ _)
      | (with_reducible exact layout_At.mono _ _ _ _ _ _ _ _ _ _ _)
      | (with_reducible exact layout_Find.mono _ _ _ _ _ _ _ _ _ _)
      | (with_reducible exact layout_Groups.mono _ _ _ _ _ _ _ _)
      | (with_reducible exact layout_Place.mono _ _ _ _ _ _ _ _ _ _)
      | (with_reducible exact layout_Spares.mono _ _ _ _ _ _ _ _ _)
      | (with_reducible exact solventlaw14_proper.mono _ _ _ _ _ _ _ _)
      | (with_reducible exact solventlaw14_sanity.mono _)
      | (with_reducible exact LeO.refl _)
      | (with_reducible exact LeO.none _)
      | (with_reducible refine LeO.ite ?_ ?_)
      | (with_reducible refine LeO.bind ?_ (fun _ => ?_))
      | exact ih0 _ _ _ _ _ _ _ _ _ _
      | exact ih1 _ _ _ _ _ _ _ _
      | exact ih2 _ _ _ _ _ _ _ _ _
      | exact ih3 _ _ _ _ _ _ _ _ _
      | exact ih4 _ _ _ _ _ _ _ _ _ _
      | exact ih5 _ _ _ _ _ _ _ _ _ _ _
      | exact ih6 _ _ _ _ _ _ _ _ _ _ _
      | exact ih7 _ _ _ _ _ _ _ _ _ _ _ _
      | exact ih8 _ _ _ _ _ _ _ _ _ _
      | exact ih9 _ _ _ _ _ _ _ _ _ _
      | exact ih10 _ _ _ _ _ _ _ _ _ _ _
      | exact ih11 _ _ _ _ _ _ _ _ _ _ _ _
      | exact ih12 _ _ _ _ _ _ _ _ _ _ _ _
      | exact layout_At.mono _ _ _ _ _ _ _ _ _ _ _
      | exact layout_Find.mono _ _ _ _ _ _ _ _ _ _
      | exact layout_Groups.mono _ _ _ _ _ _ _ _
      | exact layout_Place.mono _ _ _ _ _ _ _ _ _ _
      | exact layout_Spares.mono _ _ _ _ _ _ _ _ _
      | exact solventlaw14_proper.mono _ _ _ _ _ _ _ _
      | exact solventlaw14_sanity.mono _
      | exact LeO.none _
      | refine LeO.ite ?_ ?_
      | refine LeO.bind ?_ (fun _ => ?_)
    · intro y0 y1 y2 y3 y4 y5 y6 y7 y8 y9
      unfold solventlaw14_LayoutIsPartition.l3
      repeat' first
      | (with_reducible exact ih0 _ _ _ _ _ _ _ _ _ _)
      | (with_reducible exact ih1 _ _ _ _ _ _ _ _)
      | (with_reducible exact ih2 _ _ _ _ _ _ _ _ _)
      | (with_reducible exact ih3 _ _ _ _ _ _ _ _ _)
      | (with_reducible exact ih4 _ _ _ _ _ _ _ _ _ _)
      | (with_reducible exact ih5 _ _ _ _ _ _ _ _ _ _ _)
      | (with_reducible exact ih6 _ _ _ _ _ _ _ _ _ _ _)
      | (with_reducible exact ih7 _ _ _ _ _ _ _ _ _ _ _ _)
      | (with_reducible exact ih8 _ _ _ _ _ _ _ _ _ _)
      | (with_reducible exact ih9 _ _ _ _ _ _ _ _ _ _)
      | (with_reducible exact ih10 _ _ _ _ _ _ _ _ _ _ _)
      | (with_reducible exact ih11 _ _ _ _ _ _ _ _ _ _ _ _)
      | (with_reducible exact ih12 _ _ _ _ _ _ _ _ _ _ _ _)
      | (with_reducible exact layout_At.mono _ _ _ _ _ _ _ _ _ _ _)
      | (with_reducible exact layout_Find.mono _ _ _ _ _ _ _ _ _ _)
      | (with_reducible exact layout_Groups.mono _ _ _ _ _ _ _ _)
      | (with_reducible exact layout_Place.mono _ _ _ _ _ _ _ _ _ _)
      | (with_reducible exact layout_Spares.mono _ _ _ _ _ _ _ _ _)
      | (with_reducible exact solventlaw14_proper.mono _ _ _ _ _ _ _ _)
      | (with_reducible exact solventlaw14_sanity.mono _)
      | (with_reducible exact LeO.refl _)
      | (with_reducible exact LeO.none _)
      | (with_reducible refine LeO.ite ?_ ?_)
      | (with_reducible refine LeO.bind ?_ (fun _ => ?_))
      | exact ih0 _ _ _ _ _ _ _ _ _ _
      | exact ih1 _ _ _ _ _ _ _ _
      | exact ih2 _ _ _ _ _ _ _ _ _
      | exact ih3 _ _ _ _ _ _ _ _ _
      | exact ih4 _ _ _ _ _ _ _ _ _ _
      | exact ih5 _ _ _ _ _ _ _ _ _ _ _
      | exact ih6 _ _ _ _ _ _ _ _ _ _ _
      | exact ih7 _ _ _ _ _ _ _ _ _ _ _ _
      | exact ih8 _ _ _ _ _ _ _ _ _ _
      | exact ih9 _ _ _ _ _ _ _ _ _ _
      | exact ih10 _ _ _ _ _ _ _ _ _ _ _
      | exact ih11 _ _ _ _ _ _ _ _ _ _ _ _
      | exact ih12 _ _ _ _ _ _ _ _ _ _ _ _
      | exact layout_At.mono _ _ _ _ _ _ _ _ _ _ _
      | exact layout_Find.mono _ _ _ _ _ _ _ _ _ _
      | exact layout_Groups.mono _ _ _ _ _ _ _ _
      | exact layout_Place.mono _ _ _ _ _ _ _ _ _ _
      | exact layout_Spares.mono _ _ _ _ _ _ _ _ _
      | exact solventlaw14_proper.mono _ _ _ _ _ _ _ _
      | exact solventlaw14_sanity.mono _
      | exact LeO.none _
      | refine LeO.ite ?_ ?_
      | refine LeO.bind ?_ (fun _ => ?_)
    · intro y0 y1 y2 y3 y4 y5 y6 y7 y8 y9 y10
      unfold solventlaw14_LayoutIsPartition.l2
      repeat' first
      | (with_reducible exact ih0 _ _ _ _ _ _ _ _ _ _)
      | (with_reducible exact ih1 _ _ _ _ _ _ _ _)
      | (with_reducible exact ih2 _ _ _ _ _ _ _ _ _)
      | (with_reducible exact ih3 _ _ _ _ _ _ _ _ _)
      | (with_reducible exact ih4 _ _ _ _ _ _ _ _ _ _)
      | (with_reducible exact ih5 _ _ _ _ _ _ _ _ _ _ _)
      | (with_reducible exact ih6 _ _ _ _ _ _ _ _ _ _ _)
      | (with_reducible exact ih7 _ _ _ _ _ _ _ _ _ _ _ _)
      | (with_reducible exact ih8 _ _ _ _ _ _ _ _ _ _)
      | (with_reducible exact ih9 _ _ _ _ _ _ _ _ _ _)
      | (with_reducible exact ih10 _ _ _ _ _ _ _ _ _ _ _)
      | (with_reducible exact ih11 _ _ _ _ _ _ _ _ _ _ _ _)
      | (with_reducible exact ih12 _ _ _ _ _ _ _ _ _ _ _ _)
      | (with_reducible exact layout_At.mono _ _ _ _ _ _ _ _ _ _ _)
      | (with_reducible exact layout_Find.mono _ _ _ _ _ _ _ _ _ _)
      | (with_reducible exact layout_Groups.mono _ _ _ _ _ _ _ _)
      | (with_reducible exact layout_Place.mono _ _ _ _ _ _ _ _ _ _)
      | (with_reducible exact layout_Spares.mono _ _ _ _ _ _ _ _ _)
      | (with_reducible exact solventlaw14_proper.mono _ _ _ _ _ _ _ _)
      | (with_reducible exact solventlaw14_sanity.mono _)
      | (with_reducible exact LeO.refl _)
      | (with_reducible exact LeO.none _)
      | (with_reducible refine LeO.ite ?_ ?_)
      | (with_reducible refine LeO.bind ?_ (fun _ => ?_))
      | exact ih0 _ _ _ _ _ _ _ _ _ _
      | exact ih1 _ _ _ _ _ _ _ _
      | exact ih2 _ _ _ _ _ _ _ _ _
      | exact ih3 _ _ _ _ _ _ _ _ _
      | exact ih4 _ _ _ _ _ _ _ _ _ _
      | exact ih5 _ _ _ _ _ _ _ _ _ _ _
      | exact ih6 _ _ _ _ _ _ _ _ _ _ _
      | exact ih7 _ _ _ _ _ _ _ _ _ _ _ _
      | exact ih8 _ _ _ _ _ _ _ _ _ _
      | exact ih9 _ _ _ _ _ _ _ _ _ _
      | exact ih10 _ _ _ _ _ _ _ _ _ _ _
      | exact ih11 _ _ _ _ _ _ _ _ _ _ _ _
      | exact ih12 _ _ _ _ _ _ _ _ _ _ _ _
      | exact layout_At.mono _ _ _ _ _ _ _ _ _ _ _
      | exact layout_Find.mono _ _ _ _ _ _ _ _ _ _
      | exact layout_Groups.mono _ _ _ _ _ _ _ _
      | exact layout_Place.mono _ _ _ _ _ _ _ _ _ _
      | exact layout_Spares.mono _ _ _ _ _ _ _ _ _
      | exact solventlaw14_proper.mono _ _ _ _ _ _ _ _
      | exact solventlaw14_sanity.mono _
      | exact LeO.none _
      | refine LeO.ite ?_ ?_
      | refine LeO.bind ?_ (fun _ => ?_)
    · intro y0 y1 y2 y3 y4 y5 y6 y7 y8 y9 y10
      unfold solventlaw14_LayoutIsPartition.j9
      repeat' first
      | (with_reducible exact ih0 _ _ _ _ _ _ _ _ _ _)
      | (with_reducible exact ih1 _ _ _ _ _ _ _ _)
      | (with_reducible exact ih2 _ _ _ _ _ _ _ _ _)
      | (with_reducible exact ih3 _ _ _ _ _ _ _ _ _)
      | (with_reducible exact ih4 _ _ _ _ _ _ _ _ _ _)
      | (with_reducible exact ih5 _ _ _ _ _ _ _ _ _ _ _)
      | (with_reducible exact ih6 _ _ _ _ _ _ _ _ _ _ _)
      | (with_reducible exact ih7 _ _ _ _ _ _ _ _ _ _ _ _)
      | (with_reducible exact ih8 _ _ _ _ _ _ _ _ _ _)
      | (with_reducible exact ih9 _ _ _ _ _ _ _ _ _ _)
      | (with_reducible exact ih10 _ _ _ _ _ _ _ _ _ _ _)
      | (with_reducible exact ih11 _ _ _ _ _ _ _ _ _ _ _ _)
      | (with_reducible exact ih12 _ _ _ _ _ _ _ _ _ _ _ _)
      | (with_reducible exact layout_At.mono _ _ _ _ _ _ _ _ _ _ _)
      | (with_reducible exact layout_Find.mono _ _ _ _ _ _ _ _ _ _)
      | (with_reducible exact layout_Groups.mono _ _ _ _ _ _ _ _)
      | (with_reducible exact layout_Place.mono _ _ _ _ _ _ _ _ _ _)
      | (with_reducible exact layout_Spares.mono _ _ _ _ _ _ _ _ _)
      | (with_reducible exact solventlaw14_proper.mono _ _ _ _ _ _ _ _)
      | (with_reducible exact solventlaw14_sanity.mono _)
      | (with_reducible exact LeO.refl _)
      | (with_reducible exact LeO.none _)
      | (with_reducible refine LeO.ite ?_ ?_)
      | (with_reducible refine LeO.bind ?_ (fun _ => ?_))
      | exact ih0 _ _ _ _ _ _ _ _ _ _
      | exact ih1 _ _ _ _ _ _ _ _
      | exact ih2 _ _ _ _ _ _ _ _ _
      | exact ih3 _ _ _ _ _ _ _ _ _
      | exact ih4 _ _ _ _ _ _ _ _ _ _
      | exact ih5 _ _ _ _ _ _ _ _ _ _ _
      | exact ih6 _ _ _ _ _ _ _ _ _ _ _
      | exact ih7 _ _ _ _ _ _ _ _ _ _ _ _
      | exact ih8 _ _ _ _ _ _ _ _ _ _
      | exact ih9 _ _ _ _ _ _ _ _ _ _
      | exact ih10 _ _ _ _ _ _ _ _ _ _ _
      | exact ih11 _ _ _ _ _ _ _ _ _ _ _ _
      | exact ih12 _ _ _ _ _ _ _ _ _ _ _ _
      | exact layout_At.mono _ _ _ _ _ _ _ _ _ _ _
      | exact layout_Find.mono _ _ _ _ _ _ _ _ _ _
      | exact layout_Groups.mono _ _ _ _ _ _ _ _
      | exact layout_Place.mono _ _ _ _ _ _ _ _ _ _
      | exact layout_Spares.mono _ _ _ _ _ _ _ _ _
      | exact solventlaw14_proper.mono _ _ _ _ _ _ _ _
      | exact solventlaw14_sanity.mono _
      | exact LeO.none _
      | refine LeO.ite ?_ ?_
      | refine LeO.bind ?_ (fun _ => ?_)
    · intro y0 y1 y2 y3 y4 y5 y6 y7 y8 y9 y10 y11
      unfold solventlaw14_LayoutIsPartition.j10
      repeat' first
      | (with_reducible exact ih0 _ _ _ _ _ _ _ _ _ _)
      | (with_reducible exact ih1 _ _ _ _ _ _ _ _)
      | (with_reducible exact ih2 _ _ _ _ _ _ _ _ _)
      | (with_reducible exact ih3 _ _ _ _ _ _ _ _ _)
      | (with_reducible exact ih4 _ _ _ _ _ _ _ _ _ _)
      | (with_reducible exact ih5 _ _ _ _ _ _ _ _ _ _ _)
      | (with_reducible exact ih6 _ _ _ _ _ _ _ _ _ _ _)
      | (with_reducible exact ih7 _ _ _ _ _ _ _ _ _ _ _ _)
      | (with_reducible exact ih8 _ _ _ _ _ _ _ _ _ _)
      | (with_reducible exact ih9 _ _ _ _ _ _ _ _ _ _)
      | (with_reducible exact ih10 _ _ _ _ _ _ _ _ _ _ _)
      | (with_reducible exact ih11 _ _ _ _ _ _ _ _ _ _ _ _)
      | (with_reducible exact ih12 _ _ _ _ _ _ _ _ _ _ _ _)
      | (with_reducible exact layout_At.mono _ _ _ _ _ _ _ _ _ _ _)
      | (with_reducible exact layout_Find.mono _ _ _ _ _ _ _ _ _ _)
      | (with_reducible exact layout_Groups.mono _ _ _ _ _ _ _ _)
      | (with_reducible exact layout_Place.mono _ _ _ _ _ _ _ _ _ _)
      | (with_reducible exact layout_Spares.mono _ _ _ _ _ _ _ _ _)
      | (with_reducible exact solventlaw14_proper.mono _ _ _ _ _ _ _ _)
      | (with_reducible exact solventlaw14_sanity.mono _)
      | (with_reducible exact LeO.refl _)
      | (with_reducible exact LeO.none _)
      | (with_reducible refine LeO.ite ?_ ?_)
      | (with_reducible refine LeO.bind ?_ (fun _ => ?_))
      | exact ih0 _ _ _ _ _ _ _ _ _ _
      | exact ih1 _ _ _ _ _ _ _ _
      | exact ih2 _ _ _ _ _ _ _ _ _
      | exact ih3 _ _ _ _ _ _ _ _ _
      | exact ih4 _ _ _ _ _ _ _ _ _ _
      | exact ih5 _ _ _ _ _ _ _ _ _ _ _
      | exact ih6 _ _ _ _ _ _ _ _ _ _ _
      | exact ih7 _ _ _ _ _ _ _ _ _ _ _ _
      | exact ih8 _ _ _ _ _ _ _ _ _ _
      | exact ih9 _ _ _ _ _ _ _ _ _ _
      | exact ih10 _ _ _ _ _ _ _ _ _ _ _
      | exact ih11 _ _ _ _ _ _ _ _ _ _ _ _
      | exact ih12 _ _ _ _ _ _ _ _ _ _ _ _
      | exact layout_At.mono _ _ _ _ _ _ _ _ _ _ _
      | exact layout_Find.mono _ _ _ _ _ _ _ _ _ _
      | exact layout_Groups.mono _ _ _ _ _ _ _ _
      | exact layout_Place.mono _ _ _ _ _ _ _ _ _ _
      | exact layout_Spares.mono _ _ _ _ _ _ _ _ _
      | exact solventlaw14_proper.mono _ _ _ _ _ _ _ _
      | exact solventlaw14_sanity.mono _
      | exact LeO.none _
      | refine LeO.ite ?_ ?_
      | refine LeO.bind ?_ (fun _ => ?_)
    · intro y0 y1 y2 y3 y4 y5 y6 y7 y8 y9
      unfold solventlaw14_LayoutIsPartition.l0
      repeat' first
      | (with_reducible exact ih0 _ _ _ _ _ _ _ _ _ _)
      | (with_reducible exact ih1 _ _ _ _ _ _ _ _)
      | (with_reducible exact ih2 _ _ _ _ _ _ _ _ _)
      | (with_reducible exact ih3 _ _ _ _ _ _ _ _ _)
      | (with_reducible exact ih4 _ _ _ _ _ _ _ _ _ _)
      | (with_reducible exact ih5 _ _ _ _ _ _ _ _ _ _ _)
      | (with_reducible exact ih6 _ _ _ _ _ _ _ _ _ _ _)
      | (with_reducible exact ih7 _ _ _ _ _ _ _ _ _ _ _ _)
      | (with_reducible exact ih8 _ _ _ _ _ _ _ _ _ _)
      | (with_reducible exact ih9 _ _ _ _ _ _ _ _ _ _)
      | (with_reducible exact ih10 _ _ _ _ _ _ _ _ _ _ _)
      | (with_reducible exact ih11 _ _ _ _ _ _ _ _ _ _ _ _)
      | (with_reducible exact ih12 _ _ _ _ _ _ _ _ _ _ _ _)
      | (with_reducible exact layout_At.mono _ _ _ _ _ _ _ _ _ _ _)
      | (with_reducible exact layout_Find.mono _ _ _ _ _ _ _ _ _ _)
      | (with_reducible exact layout_Groups.mono _ _ _ _ _ _ _ _)
      | (with_reducible exact layout_Place.mono _ _ _ _ _ _ _ _ _ _)
      | (with_reducible exact layout_Spares.mono _ _ _ _ _ _ _ _ _)
      | (with_reducible exact solventlaw14_proper.mono _ _ _ _ _ _ _ _)
      | (with_reducible exact solventlaw14_sanity.mono _)
      | (with_reducible exact LeO.refl _)
      | (with_reducible exact LeO.none _)
      | (with_reducible refine LeO.ite ?_ ?_)
      | (with_reducible refine LeO.bind ?_ (fun _ => ?_))
      | exact ih0 _ _ _ _ _ _ _ _ _ _
      | exact ih1 _ _ _ _ _ _ _ _
      | exact ih2 _ _ _ _ _ _ _ _ _
      | exact ih3 _ _ _ _ _ _ _ _ _
      | exact ih4 _ _ _ _ _ _ _ _ _ _
      | exact ih5 _ _ _ _ _ _ _ _ _ _ _
      | exact ih6 _ _ _ _ _ _ _ _ _ _ _
      | exact ih7 _ _ _ _ _ _ _ _ _ _ _ _
      | exact ih8 _ _ _ _ _ _ _ _ _ _
      | exact ih9 _ _ _ _ _ _ _ _ _ _
      | exact ih10 _ _ _ _ _ _ _ _ _ _ _
      | exact ih11 _ _ _ _ _ _ _ _ _ _ _ _
      | exact ih12 _ _ _ _ _ _ _ _ _ _ _ _
      | exact layout_At.mono _ _ _ _ _ _ _ _ _ _ _
      | exact layout_Find.mono _ _ _ _ _ _ _ _ _ _
      | exact layout_Groups.mono _ _ _ _ _ _ _ _
      | exact layout_Place.mono _ _ _ _ _ _ _ _ _ _
      | exact layout_Spares.mono _ _ _ _ _ _ _ _ _
      | exact solventlaw14_proper.mono _ _ _ _ _ _ _ _
      | exact solventlaw14_sanity.mono _
      | exact LeO.none _
      | refine LeO.ite ?_ ?_
      | refine LeO.bind ?_ (fun _ => ?_)
    · intro y0 y1 y2 y3 y4 y5 y6 y7 y8 y9
      unfold solventlaw14_LayoutIsPartition.j3
      repeat' first
      | (with_reducible exact ih0 _ _ _ _ _ _ _ _ _ _)
      | (with_reducible exact ih1 _ _ _ _ _ _ _ _)
      | (with_reducible exact ih2 _ _ _ _ _ _ _ _ _)
      | (with_reducible exact ih3 _ _ _ _ _ _ _ _ _)
      | (with_reducible exact ih4 _ _ _ _ _ _ _ _ _ _)
      | (with_reducible exact ih5 _ _ _ _ _ _ _ _ _ _ _)
      | (with_reducible exact ih6 _ _ _ _ _ _ _ _ _ _ _)
      | (with_reducible exact ih7 _ _ _ _ _ _ _ _ _ _ _ _)
      | (with_reducible exact ih8 _ _ _ _ _ _ _ _ _ _)
      | (with_reducible exact ih9 _ _ _ _ _ _ _ _ _ _)
      | (with_reducible exact ih10 _ _ _ _ _ _ _ _ _ _ _)
      | (with_reducible exact ih11 _ _ _ _ _ _ _ _ _ _ _ _)
      | (with_reducible exact ih12 _ _ _ _ _ _ _ _ _ _ _ _)
      | (with_reducible exact layout_At.mono _ _ _ _ _ _ _ _ _ _ _)
      | (with_reducible exact layout_Find.mono _ _ _ _ _ _ _ _ _ _)
      | (with_reducible exact layout_Groups.mono _ _ _ _ _ _ _ _)
      | (with_reducible exact layout_Place.mono _ _ _ _ _ _ _ _ _ _)
      | (with_reducible exact layout_Spares.mono _ _ _ _ _ _ _ _ _)
      | (with_reducible exact solventlaw14_proper.mono _ _ _ _ _ _ _ _)
      | (with_reducible exact solventlaw14_sanity.mono _)
      | (with_reducible exact LeO.refl _)
      | (with_reducible exact LeO.none _)
      | (with_reducible refine LeO.ite ?_ ?_)
      | (with_reducible refine LeO.bind ?_ (fun _ => ?_))
      | exact ih0 _ _ _ _ _ _ _ _ _ _
      | exact ih1 _ _ _ _ _ _ _ _
      | exact ih2 _ _ _ _ _ _ _ _ _
      | exact ih3 _ _ _ _ _ _ _ _ _
      | exact ih4 _ _ _ _ _ _ _ _ _ _
      | exact ih5 _ _ _ _ _ _ _ _ _ _ _
      | exact ih6 _ _ _ _ _ _ _ _ _ _ _
      | exact ih7 _ _ _ _ _ _ _ _ _ _ _ _
      | exact ih8 _ _ _ _ _ _ _ _ _ _
      | exact ih9 _ _ _ _ _ _ _ _ _ _
      | exact ih10 _ _ _ _ _ _ _ _ _ _ _
      | exact ih11 _ _ _ _ _ _ _ _ _ _ _ _
      | exact ih12 _ _ _ _ _ _ _ _ _ _ _ _
      | exact layout_At.mono _ _ _ _ _ _ _ _ _ _ _
      | exact layout_Find.mono _ _ _ _ _ _ _ _ _ _
      | exact layout_Groups.mono _ _ _ _ _ _ _ _
      | exact layout_Place.mono _ _ _ _ _ _ _ _ _ _
      | exact layout_Spares.mono _ _ _ _ _ _ _ _ _
      | exact solventlaw14_proper.mono _ _ _ _ _ _ _ _
      | exact solventlaw14_sanity.mono _
      | exact LeO.none _
      | refine LeO.ite ?_ ?_
      | refine LeO.bind ?_ (fun _ => ?_)
    · intro y0 y1 y2 y3 y4 y5 y6 y7 y8 y9 y10
      unfold solventlaw14_LayoutIsPartition.j4
      repeat' first
      | (with_reducible exact ih0 _ _ _ _ _ _ _ _ _ _)
      | (with_reducible exact ih1 _ _ _ _ _ _ _ _)
      | (with_reducible exact ih2 _ _ _ _ _ _ _ _ _)
      | (with_reducible exact ih3 _ _ _ _ _ _ _ _ _)
      | (with_reducible exact ih4 _ _ _ _ _ _ _ _ _ _)
      | (with_reducible exact ih5 _ _ _ _ _ _ _ _ _ _ _)
      | (with_reducible exact ih6 _ _ _ _ _ _ _ _ _ _ _)
      | (with_reducible exact ih7 _ _ _ _ _ _ _ _ _ _ _ _)
      | (with_reducible exact ih8 _ _ _ _ _ _ _ _ _ _)
      | (with_reducible exact ih9 _ _ _ _ _ _ _ _ _ _)
      | (with_reducible exact ih10 _ _ _ _ _ _ _ _ _ _ _)
      | (with_reducible exact ih11 _ _ _ _ _ _ _ _ _ _ _ _)
      | (with_reducible exact ih12 _ _ _ _ _ _ _ _ _ _ _ _)
      | (with_reducible exact layout_At.mono _ _ _ _ _ _ _ _ _ _ _)
      | (with_reducible exact layout_Find.mono _ _ _ _ _ _ _ _ _ _)
      | (with_reducible exact layout_Groups.mono _ _ _ _ _ _ _ _)
      | (with_reducible exact layout_Place.mono _ _ _ _ _ _ _ _ _ _)
      | (with_reducible exact layout_Spares.mono _ _ _ _ _ _ _ _ _)
      | (with_reducible exact solventlaw14_proper.mono _ _ _ _ _ _ _ _)
      | (with_reducible exact solventlaw14_sanity.mono _)
      | (with_reducible exact LeO.refl _)
      | (with_reducible exact LeO.none _)
      | (with_reducible refine LeO.ite ?_ ?_)
      | (with_reducible refine LeO.bind ?_ (fun _ => ?_))
      | exact ih0 _ _ _ _ _ _ _ _ _ _
      | exact ih1 _ _ _ _ _ _ _ _
      | exact ih2 _ _ _ _ _ _ _ _ _
      | exact ih3 _ _ _ _ _ _ _ _ _
      | exact ih4 _ _ _ _ _ _ _ _ _ _
      | exact ih5 _ _ _ _ _ _ _ _ _ _ _
      | exact ih6 _ _ _ _ _ _ _ _ _ _ _
      | exact ih7 _ _ _ _ _ _ _ _ _ _ _ _
      | exact ih8 _ _ _ _ _ _ _ _ _ _
      | exact ih9 _ _ _ _ _ _ _ _ _ _
      | exact ih10 _ _ _ _ _ _ _ _ _ _ _
      | exact ih11 _ _ _ _ _ _ _ _ _ _ _ _
      | exact ih12 _ _ _ _ _ _ _ _ _ _ _ _
      | exact layout_At.mono _ _ _ _ _ _ _ _ _ _ _
      | exact layout_Find.mono _ _ _ _ _ _ _ _ _ _
      | exact layout_Groups.mono _ _ _ _ _ _ _ _
      | exact layout_Place.mono _ _ _ _ _ _ _ _ _ _
      | exact layout_Spares.mono _ _ _ _ _ _ _ _ _
      | exact solventlaw14_proper.mono _ _ _ _ _ _ _ _
      | exact solventlaw14_sanity.mono _
      | exact LeO.none _
      | refine LeO.ite ?_ ?_
      | refine LeO.bind ?_ (fun _ => ?_)
    · intro y0 y1 y2 y3 y4 y5 y6 y7 y8 y9 y10 y11
      unfold solventlaw14_LayoutIsPartition.l1
      repeat' first
      | (with_reducible exact ih0 _ _ _ _ _ _ _ _ _ _)
      | (with_reducible exact ih1 _ _ _ _ _ _ _ _)
      | (with_reducible exact ih2 _ _ _ _ _ _ _ _ _)
      | (with_reducible exact ih3 _ _ _ _ _ _ _ _ _)
      | (with_reducible exact ih4 _ _ _ _ _ _ _ _ _ _)
      | (with_reducible exact ih5 _ _ _ _ _ _ _ _ _ _ _)
      | (with_reducible exact ih6 _ _ _ _ _ _ _ _ _ _ _)
      | (with_reducible exact ih7 _ _ _ _ _ _ _ _ _ _ _ _)
      | (with_reducible exact ih8 _ _ _ _ _ _ _ _ _ _)
      | (with_reducible exact ih9 _ _ _ _ _ _ _ _ _ _)
      | (with_reducible exact ih10 _ _ _ _ _ _ _ _ _ _ _)
      | (with_reducible exact ih11 _ _ _ _ _ _ _ _ _ _ _ _)
      | (with_reducible exact ih12 _ _ _ _ _ _ _ _ _ _ _ _)
      | (with_reducible exact layout_At.mono _ _ _ _ _ _ _ _ _ _ _)
      | (with_reducible exact layout_Find.mono _ _ _ _ _ _ _ _ _ _)
      | (with_reducible exact layout_Groups.mono _ _ _ _ _ _ _ _)
      | (with_reducible exact layout_Place.mono _ _ _ _ _ _ _ _ _ _)
      | (with_reducible exact layout_Spares.mono _ _ _ _ _ _ _ _ _)
      | (with_reducible exact solventlaw14_proper.mono _ _ _ _ _ _ _ _)
      | (with_reducible exact solventlaw14_sanity.mono _)
      | (with_reducible exact LeO.refl _)
      | (with_reducible exact LeO.none _)
      | (with_reducible refine LeO.ite ?_ ?_)
      | (with_reducible refine LeO.bind ?_ (fun _ => ?_))
      | exact ih0 _ _ _ _ _ _ _ _ _ _
      | exact ih1 _ _ _ _ _ _ _ _
      | exact ih2 _ _ _ _ _ _ _ _ _
      | exact ih3 _ _ _ _ _ _ _ _ _
      | exact ih4 _ _ _ _ _ _ _ _ _ _
      | exact ih5 _ _ _ _ _ _ _ _ _ _ _
      | exact ih6 _ _ _ _ _ _ _ _ _ _ _
      | exact ih7 _ _ _ _ _ _ _ _ _ _ _ _
      | exact ih8 _ _ _ _ _ _ _ _ _ _
      | exact ih9 _ _ _ _ _ _ _ _ _ _
      | exact ih10 _ _ _ _ _ _ _ _ _ _ _
      | exact ih11 _ _ _ _ _ _ _ _ _ _ _ _
      | exact ih12 _ _ _ _ _ _ _ _ _ _ _ _
      | exact layout_At.mono _ _ _ _ _ _ _ _ _ _ _
      | exact layout_Find.mono _ _ _ _ _ _ _ _ _ _
      | exact layout_Groups.mono _ _ _ _ _ _ _ _
      | exact layout_Place.mono _ _ _ _ _ _ _ _ _ _
      | exact layout_Spares.mono _ _ _ _ _ _ _ _ _
      | exact solventlaw14_proper.mono _ _ _ _ _ _ _ _
      | exact solventlaw14_sanity.mono _
      | exact LeO.none _
      | refine LeO.ite ?_ ?_
      | refine LeO.bind ?_ (fun _ => ?_)
    · intro y0 y1 y2 y3 y4 y5 y6 y7 y8 y9 y10 y11
      unfold solventlaw14_LayoutIsPartition.j6
      repeat' first
      | (with_reducible exact ih0 _ _ _ _ _ _ _ _ _ _)
      | (with_reducible exact ih1 _ _ _ _ _ _ _ _)
      | (with_reducible exact ih2 _ _ _ _ _ _ _ _ _)
      | (with_reducible exact ih3 _ _ _ _ _ _ _ _ _)
      | (with_reducible exact ih4 _ _ _ _ _ _ _ _ _ _)
      | (with_reducible exact ih5 _ _ _ _ _ _ _ _ _ _ _)
      | (with_reducible exact ih6 _ _ _ _ _ _ _ _ _ _ _)
      | (with_reducible exact ih7 _ _ _ _ _ _ _ _ _ _ _ _)
      | (with_reducible exact ih8 _ _ _ _ _ _ _ _ _ _)
      | (with_reducible exact ih9 _ _ _ _ _ _ _ _ _ _)
      | (with_reducible exact ih10 _ _ _ _ _ _ _ _ _ _ _)
      | (with_reducible exact ih11 _ _ _ _ _ _ _ _ _ _ _ _)
      | (with_reducible exact ih12 _ _ _ _ _ _ _ _ _ _ _ _)
      | (with_reducible exact layout_At.mono _ _ _ _ _ _ _ _ _ _ _)
      | (with_reducible exact layout_Find.mono _ _ _ _ _ _ _ _ _ _)
      | (with_reducible exact layout_Groups.mono _ _ _ _ _ _ _ _)
      | (with_reducible exact layout_Place.mono _ _ _ _ _ _ _ _ _ _)
      | (with_reducible exact layout_Spares.mono _ _ _ _ _ _ _ _ _)
      | (with_reducible exact solventlaw14_proper.mono _ _ _ _ _ _ _ _)
      | (with_reducible exact solventlaw14_sanity.mono _)
      | (with_reducible exact LeO.refl _)
      | (with_reducible exact LeO.none _)
      | (with_reducible refine LeO.ite ?_ ?_)
      | (with_reducible refine LeO.bind ?_ (fun _ => ?_))
      | exact ih0 _ _ _ _ _ _ _ _ _ _
      | exact ih1 _ _ _ _ _ _ _ _
      | exact ih2 _ _ _ _ _ _ _ _ _
      | exact ih3 _ _ _ _ _ _ _ _ _
      | exact ih4 _ _ _ _ _ _ _ _ _ _
      | exact ih5 _ _ _ _ _ _ _ _ _ _ _
      | exact ih6 _ _ _ _ _ _ _ _ _ _ _
      | exact ih7 _ _ _ _ _ _ _ _ _ _ _ _
      | exact ih8 _ _ _ _ _ _ _ _ _ _
      | exact ih9 _ _ _ _ _ _ _ _ _ _
      | exact ih10 _ _ _ _ _ _ _ _ _ _ _
      | exact ih11 _ _ _ _ _ _ _ _ _ _ _ _
      | exact ih12 _ _ _ _ _ _ _ _ _ _ _ _
      | exact layout_At.mono _ _ _ _ _ _ _ _ _ _ _
      | exact layout_Find.mono _ _ _ _ _ _ _ _ _ _
      | exact layout_Groups.mono _ _ _ _ _ _ _ _
      | exact layout_Place.mono _ _ _ _ _ _ _ _ _ _
      | exact layout_Spares.mono _ _ _ _ _ _ _ _ _
      | exact solventlaw14_proper.mono _ _ _ _ _ _ _ _
      | exact solventlaw14_sanity.mono _
      | exact LeO.none _
      | refine LeO.ite ?_ ?_
      | refine LeO.bind ?_ (fun _ => ?_)
theorem solventlaw14_LayoutIsPartition.mono : ∀ a0 a1 a2 a3 a4 a5 a6 a7 k, LeO (solventlaw14_LayoutIsPartition.f k a0 a1 a2 a3 a4 a5 a6 a7) (solventlaw14_LayoutIsPartition.f (k + 1) a0 a1 a2 a3 a4 a5 a6 a7) := by
  intro a0 a1 a2 a3 a4 a5 a6 a7 k
  obtain ⟨ih0, ih1, ih2, ih3, ih4, ih5, ih6, ih7, ih8, ih9, ih10, ih11, ih12⟩ := solventlaw14_LayoutIsPartition.mono_l k
  unfold solventlaw14_LayoutIsPartition.f
  repeat' first
      | (with_reducible exact ih0 _ _ _ _ _ _ _ _ _ _)
      | (with_reducible exact ih1 _ _ _ _ _ _ _ _)
      | (with_reducible exact ih2 _ _ _ _ _ _ _ _ _)
      | (with_reducible exact ih3 _ _ _ _ _ _ _ _ _)
      | (with_reducible exact ih4 _ _ _ _ _ _ _ _ _ _)
      | (with_reducible exact ih5 _ _ _ _ _ _ _ _ _ _ _)
      | (with_reducible exact ih6 _ _ _ _ _ _ _ _ _ _ _)
      | (with_reducible exact ih7 _ _ _ _ _ _ _ _ _ _ _ _)
      | (with_reducible exact ih8 _ _ _ _ _ _ _ _ _ _)
      | (with_reducible exact ih9 _ _ _ _ _ _ _ _ _ _)
      | (with_reducible exact ih10 _ _ _ _ _ _ _ _ _ _ _)
      | (with_reducible exact ih11 _ _ _ _ _ _ _ _ _ _ _ _)
      | (with_reducible exact ih12 _ _ _ _ _ _ _ _ _ _ _ _)
      | (with_reducible exact layout_At.mono _ _ _ _ _ _ _ _ _ _ _)
      | (with_reducible exact layout_Find.mono _ _ _ _ _ _ _ _ _ _)
      | (with_reducible exact layout_Groups.mono _ _ _ _ _ _ _ _)
      | (with_reducible exact layout_Place.mono _ _ _ _ _ _ _ _ _ _)
      | (with_reducible exact layout_Spares.mono _ _ _ _ _ _ _ _ _)
      | (with_reducible exact solventlaw14_proper.mono _ _ _ _ _ _ _ _)
      | (with_reducible exact solventlaw14_sanity.mono _)
      | (with_reducible exact LeO.refl _)
      | (with_reducible exact LeO.none _)
      | (with_reducible refine LeO.ite ?_ ?_)
      | (with_reducible refine LeO.bind ?_ (fun _ => ?_))
      | exact ih0 _ _ _ _ _ _ _ _ _ _
      | exact ih1 _ _ _ _ _ _ _ _
      | exact ih2 _ _ _ _ _ _ _ _ _
      | exact ih3 _ _ _ _ _ _ _ _ _
      | exact ih4 _ _ _ _ _ _ _ _ _ _
      | exact ih5 _ _ _ _ _ _ _ _ _ _ _
      | exact ih6 _ _ _ _ _ _ _ _ _ _ _
      | exact ih7 _ _ _ _ _ _ _ _ _ _ _ _
      | exact ih8 _ _ _ _ _ _ _ _ _ _
      | exact ih9 _ _ _ _ _ _ _ _ _ _
      | exact ih10 _ _ _ _ _ _ _ _ _ _ _
      | exact ih11 _ _ _ _ _ _ _ _ _ _ _ _
      | exact ih12 _ _ _ _ _ _ _ _ _ _ _ _
      | exact layout_At.mono _ _ _ _ _ _ _ _ _ _ _
      | exact layout_Find.mono _ _ _ _ _ _ _ _ _ _
      | exact layout_Groups.mono _ _ _ _ _ _ _ _
      | exact layout_Place.mono _ _ _ _ _ _ _ _ _ _
      | exact layout_Spares.mono _ _ _ _ _ _ _ _ _
      | exact solventlaw14_proper.mono _ _ _ _ _ _ _ _
      | exact solventlaw14_sanity.mono _
      | exact LeO.none _
      | refine LeO.ite ?_ ?_
      | refine LeO.bind ?_ (fun _ => ?_)
def solventlaw14_LayoutIsPartition.T17 : Bool × List (List Nat × List Nat) := (true, [([], []), ([], []), ([], []), ([], []), ([], []), ([3, 4], [3, 4]), ([5], [5]), ([0, 1, 2, 6], [0, 1, 2, 6]), ([7], [7]), ([8], [8]), ([8], [8]), ([], []), ([11, 9, 7, 0, 1, 2, 3, 4, 5, 6, 7, 8, 9, 11], [9, 11]), ([10, 12, 0, 1, 2, 3, 4, 5, 6, 7, 8, 9, 10, 11, 12], [10])])
def solventlaw14_LayoutIsPartition.B17 : List Nat := [0, 0, 0, 0, 0, 24, 56, 127, 255, 511, 511, 0, 3071, 8191]
theorem solventlaw14_LayoutIsPartition.tab17 : rtab .any (opsOf Try.f12 17) = solventlaw14_LayoutIsPartition.T17 := by kernel_rfl
theorem solventlaw14_LayoutIsPartition.bits17 : waitsOk solventlaw14_LayoutIsPartition.T17.2 solventlaw14_LayoutIsPartition.B17 = true := by kernel_rfl
def solventlaw14_LayoutIsPartition.T18 : Bool × List (List Nat × List Nat) := (true, [([], []), ([0], [0]), ([1], [1]), ([2], [2]), ([3, 2], [2, 3]), ([2, 4], [2, 4]), ([5, 2], [5]), ([6], [6]), ([6], [6]), ([7, 8, 6], [6, 7, 8]), ([6, 9], [6, 9]), ([10, 6], [10]), ([11], [11]), ([12, 11], [11, 12]), ([11], [11]), ([11], [11]), ([14, 15, 11], [11, 14, 15]), ([16, 11], [11, 16]), ([13, 17, 11], [11, 13, 17]), ([11, 18], [11, 18]), ([19, 11], [19]), ([20], [20]), ([21, 20], [20, 21]), ([22, 20], [20, 22]), ([20, 23], [20, 23]), ([24, 20], [24]), ([25], [25]), ([26, 25], [25, 26]), ([25], [25]), ([27, 28, 25], [25, 27, 28]), ([25, 29], [25, 29]), ([30, 25], [30]), ([31], [31]), ([31], [31]), ([32, 33, 31], [31, 32, 33]), ([34, 31], [31, 34]), ([35, 31], [31, 35]), ([31, 36], [31, 36]), ([37, 31], [37]), ([38], [38]), ([38], [38]), ([39, 40, 38], [38, 39, 40]), ([41, 38], [38, 41]), ([38], [38]), ([43, 38], [38, 43]), ([42, 44, 38], [38, 42, 44]), ([38, 45], [38, 45])])
def solventlaw14_LayoutIsPartition.B18 : List Nat := [0, 1, 3, 7, 15, 31, 63, 127, 127, 511, 1023, 2047, 4095, 8191, 4095, 4095, 53247, 118783, 262143, 524287, 1048575, 2097151, 4194303, 8388607, 16777215, 33554431, 67108863, 134217727, 67108863, 536870911, 1073741823, 2147483647, 4294967295, 4294967295, 17179869183, 34359738367, 68719476735, 137438953471, 274877906943, 549755813887, 549755813887, 2199023255551, 4398046511103, 549755813887, 9345848836095, 35184372088831, 70368744177663]
theorem solventlaw14_LayoutIsPartition.tab18 : rtab .any (opsOf Try.f12 18) = solventlaw14_LayoutIsPartition.T18 := by kernel_rfl
theorem solventlaw14_LayoutIsPartition.bits18 : waitsOk solventlaw14_LayoutIsPartition.T18.2 solventlaw14_LayoutIsPartition.B18 = true := by kernel_rfl
def solventlaw14_LayoutIsPartition.T25 : Bool × List (List Nat × List Nat) := (true, [([], []), ([], []), ([0, 1], [0, 1]), ([2], [2]), ([3], [3]), ([4], [4]), ([5], [5]), ([5], [5]), ([6, 7, 5], [5, 6, 7]), ([8, 5], [5, 8]), ([5], [5]), ([10, 5], [5, 10]), ([9, 11, 5], [5, 9, 11]), ([5, 12], [5, 12])])
def solventlaw14_LayoutIsPartition.B25 : List Nat := [0, 0, 3, 7, 15, 31, 63, 63, 255, 511, 63, 1087, 4095, 8191]
theorem solventlaw14_LayoutIsPartition.tab25 : rtab .any (opsOf Try.f12 25) = solventlaw14_LayoutIsPartition.T25 := by kernel_rfl
theorem solventlaw14_LayoutIsPartition.bits25 : waitsOk solventlaw14_LayoutIsPartition.T25.2 solventlaw14_LayoutIsPartition.B25 = true := by kernel_rfl
def solventlaw14_LayoutIsPartition.T27 : Bool × List (List Nat × List Nat) := (true, [([], []), ([], []), ([], []), ([], []), ([], []), ([3, 4], [3, 4]), ([5], [5]), ([0, 1, 2, 6], [0, 1, 2, 6]), ([7], [7]), ([8], [8]), ([8], [8]), ([], []), ([11, 9, 7, 0, 1, 2, 3, 4, 5, 6, 7, 8, 9, 11], [9, 11]), ([10, 12, 0, 1, 2, 3, 4, 5, 6, 7, 8, 9, 10, 11, 12], [10])])
def solventlaw14_LayoutIsPartition.B27 : List Nat := [0, 0, 0, 0, 0, 24, 56, 127, 255, 511, 511, 0, 3071, 8191]
theorem solventlaw14_LayoutIsPartition.tab27 : rtab .any (opsOf Try.f12 27) = solventlaw14_LayoutIsPartition.T27 := by kernel_rfl
theorem solventlaw14_LayoutIsPartition.bits27 : waitsOk solventlaw14_LayoutIsPartition.T27.2 solventlaw14_LayoutIsPartition.B27 = true := by kernel_rfl
end Go.Proofs.Ytiejibkjhmmpaaa.Q
