/- Printed by a program of this session (wip/tools) out of the translation: Lean functions that answer as the Go functions do, and the proofs of that; turned by hand where the program calls closures or cuts with three indexes. -/
import Derived.Test.YtiejibkjhmmpaaaQ0
import Derived.Test.YtiejibkjhmmpaaaQE1
import Derived.Test.YtiejibkjhmmpaaaQE2
import Derived.Test.YtiejibkjhmmpaaaQC
import Derived.Test.YtiejibkjhmmpaaaQL
import Derived.Test.YtiejibkjhmmpaaaQP
import Derived.Test.YtiejibkjhmmpaaaQK
import Derived.Test.YtiejibkjhmmpaaaQU
import Derived.Test.YtiejibkjhmmpaaaQR0
import Derived.Test.YtiejibkjhmmpaaaQR
import Derived.Test.YtiejibkjhmmpaaaQT
namespace Go.Proofs.Ytiejibkjhmmpaaa.Q
open Go.RowKit Go.Proofs.YtiejibkjhmmpaaaW.PrintWords Go.Proofs.YtiejibkjhmmpaaaW.PrintLast Go.Proofs.YtiejibkjhmmpaaaW.PrintMore
attribute [local go_sem] max2_int min2_int max_two min_two max_three min_three max_four min_four   -- for this text's walks alone
set_option linter.unusedVariables false
set_option linter.unusedSimpArgs false

attribute [local go_sem high] eqA45 eqA59
/-! ### solventlaw14_LayoutMatchesSpec: function 11 -/
mutual
def solventlaw14_LayoutMatchesSpec.j0 : Nat → Bool → Int → Int → Int → Int → Int → Int → Int → Int → Int → Int → Int → Int → Int → Int → Int → Int → Int → Int → Int → Option (Bool)
  | 0, _, _, _, _, _, _, _, _, _, _, _, _, _, _, _, _, _, _, _, _ => none
  | k + 1, x3, x5, x475000, x475001, x475002, x475003, x475004, x475005, x475006, x475007, x475008, x475009, x475010, x475011, x477000, x477001, x477002, x477003, x477004, x477005 => (layout_At.f k x477000 x477001 x477002 x477003 x477004 x477005 x5 x475007 x475008 x475009).bind fun bt478 => ((solventref14_At.f k x477000 x477001 x477002 x477003 x477004 x477005 x5 x475007 x475008 x475009).bind fun bt483 => ((layout_Find.f k x477000 x477001 x477002 x477003 x477004 x477005 x475007 x5 x475010).bind fun bt488 => ((solventref14_Find.f k x477000 x477001 x477002 x477003 x477004 x477005 x475007 x5 x475010).bind fun bt493 => (if (!(bt478.1 == bt483.1) || (!(bt478.2.1 == bt483.2.1) || (!(bt478.2.2.1 == bt483.2.2.1)))) = true then (solventlaw14_LayoutMatchesSpec.j1 k x3 x5 x475007 true x475000 x475001 x475002 x475003 x475004 x475005 x475006 x475007 x475008 x475009 x475010 x475011 x477000 x477001 x477002 x477003 x477004 x477005) else (if bt478.2.2.2 = bt483.2.2.2 then (if ((!(bt488.1 == bt493.1) || (!(bt488.2.1 == bt493.2.1))) || (!(bt488.2.2.1 == bt493.2.2.1))) = true then (solventlaw14_LayoutMatchesSpec.j1 k x3 x5 x475007 true x475000 x475001 x475002 x475003 x475004 x475005 x475006 x475007 x475008 x475009 x475010 x475011 x477000 x477001 x477002 x477003 x477004 x477005) else (solventlaw14_LayoutMatchesSpec.j1 k x3 x5 x475007 (bt488.2.2.2 != bt493.2.2.2) x475000 x475001 x475002 x475003 x475004 x475005 x475006 x475007 x475008 x475009 x475010 x475011 x477000 x477001 x477002 x477003 x477004 x477005)) else (solventlaw14_LayoutMatchesSpec.j1 k x3 x5 x475007 true x475000 x475001 x475002 x475003 x475004 x475005 x475006 x475007 x475008 x475009 x475010 x475011 x477000 x477001 x477002 x477003 x477004 x477005))))))
def solventlaw14_LayoutMatchesSpec.j1 : Nat → Bool → Int → Int → Bool → Int → Int → Int → Int → Int → Int → Int → Int → Int → Int → Int → Int → Int → Int → Int → Int → Int → Int → Option (Bool)
  | 0, _, _, _, _, _, _, _, _, _, _, _, _, _, _, _, _, _, _, _, _, _, _ => none
  | k + 1, x3, x5, x6, x82, x475000, x475001, x475002, x475003, x475004, x475005, x475006, x475007, x475008, x475009, x475010, x475011, x477000, x477001, x477002, x477003, x477004, x477005 => if x82 = true then (none) else (solventlaw14_LayoutMatchesSpec.j2 k x3 x5 x6 x475000 x475001 x475002 x475003 x475004 x475005 x475006 x475007 x475008 x475009 x475010 x475011 x477000 x477001 x477002 x477003 x477004 x477005)
def solventlaw14_LayoutMatchesSpec.j2 : Nat → Bool → Int → Int → Int → Int → Int → Int → Int → Int → Int → Int → Int → Int → Int → Int → Int → Int → Int → Int → Int → Int → Option (Bool)
  | 0, _, _, _, _, _, _, _, _, _, _, _, _, _, _, _, _, _, _, _, _, _ => none
  | k + 1, x3, x5, x6, x475000, x475001, x475002, x475003, x475004, x475005, x475006, x475007, x475008, x475009, x475010, x475011, x477000, x477001, x477002, x477003, x477004, x477005 => (layout_Place.f k x477000 x477001 x477002 x477003 x477004 x477005 x6 x5 x475008).bind fun t498 => ((solventref14_Place.f k x477000 x477001 x477002 x477003 x477004 x477005 x6 x5 x475008).bind fun t501 => ((solventref13_Same.f k t498 t501).bind fun t504 => ((layout_Spares.f k x477000 x477001 x477002 x477003 x477004 x477005 x6 x5).bind fun t505 => ((solventref14_Spares.f k x477000 x477001 x477002 x477003 x477004 x477005 x6 x5).bind fun t508 => ((solventref13_Same.f k t505 t508).bind fun t511 => ((layout_Units.f k x477000 x477001 x477002 x477003 x477004 x477005 x5 x475010 x475011).bind fun t512 => ((solventref14_Units.f k x477000 x477001 x477002 x477003 x477004 x477005 x5 x475010 x475011).bind fun t513 => (if x3 = true then (if t504 = true then (if t511 = true then (if t512 = t513 then ((layout_Groups.f k x477000 x477001 x477002 x477003 x477004 x477005 x5).bind fun t514 => ((solventref14_Groups.f k x477000 x477001 x477002 x477003 x477004 x477005 x5).bind fun t515 => (if t514 = t515 then ((layout_Crowd.f k x477000 x477001 x477002 x477003 x477004 x477005 x5).bind fun t516 => ((solventref14_Crowd.f k x477000 x477001 x477002 x477003 x477004 x477005 x5).bind fun t517 => (some (t516 == t517)))) else (none)))) else (none)) else (none)) else (none)) else (none)))))))))
end
def solventlaw14_LayoutMatchesSpec.f (k : Nat) (a0_0 : Int) (a0_1 : Int) (a0_2 : Int) (a0_3 : Int) (a0_4 : Int) (a0_5 : Int) (a0_6 : Int) (a0_7 : Int) (a0_8 : Int) (a0_9 : Int) (a0_10 : Int) (a0_11 : Int) : Option (Bool) := (solventlaw14_sanity.f k).bind fun t475 => ((solventref14_Small.f a0_0 a0_1 a0_2 a0_3 a0_4 a0_5).bind fun t477 => (if t477 = true then (solventlaw14_LayoutMatchesSpec.j0 k t475 a0_6 a0_0 a0_1 a0_2 a0_3 a0_4 a0_5 a0_6 a0_7 a0_8 a0_9 a0_10 a0_11 a0_0 a0_1 a0_2 a0_3 a0_4 a0_5) else (some t475)))
def solventlaw14_LayoutMatchesSpec.T13 : Bool × List (List Nat × List Nat) := (true, [([], []), ([], []), ([], []), ([], []), ([3], [3]), ([4], [4]), ([5], [5]), ([0, 1, 2, 6], [0, 1, 2, 6]), ([], []), ([], []), ([], []), ([], []), ([11], [11]), ([12], [12]), ([13], [13]), ([8, 9, 10, 14, 7], [8, 9, 10, 14]), ([7, 15, 15], [7, 15]), ([16, 16, 0, 1, 2, 3, 4, 5, 6, 7, 8, 9, 10, 11, 12, 13, 14, 15, 16], [16])])
def solventlaw14_LayoutMatchesSpec.B13 : List Nat := [0, 0, 0, 0, 8, 24, 56, 127, 0, 0, 0, 0, 2048, 6144, 14336, 32767, 65535, 131071]
theorem solventlaw14_LayoutMatchesSpec.tab13 : rtab .any (opsOf Try.f11 13) = solventlaw14_LayoutMatchesSpec.T13 := by kernel_rfl
theorem solventlaw14_LayoutMatchesSpec.bits13 : waitsOk solventlaw14_LayoutMatchesSpec.T13.2 solventlaw14_LayoutMatchesSpec.B13 = true := by kernel_rfl
def solventlaw14_LayoutMatchesSpec.T14 : Bool × List (List Nat × List Nat) := (true, [([], []), ([], []), ([], []), ([0, 1, 2], [0, 1, 2]), ([], []), ([], []), ([], []), ([4, 5, 6, 3], [4, 5, 6]), ([3, 7, 7], [3, 7]), ([8, 8, 0, 1, 2, 3, 4, 5, 6, 7, 8], [8])])
def solventlaw14_LayoutMatchesSpec.B14 : List Nat := [0, 0, 0, 7, 0, 0, 0, 127, 255, 511]
theorem solventlaw14_LayoutMatchesSpec.tab14 : rtab .any (opsOf Try.f11 14) = solventlaw14_LayoutMatchesSpec.T14 := by kernel_rfl
theorem solventlaw14_LayoutMatchesSpec.bits14 : waitsOk solventlaw14_LayoutMatchesSpec.T14.2 solventlaw14_LayoutMatchesSpec.B14 = true := by kernel_rfl
def solventlaw14_LayoutMatchesSpec.T15 : Bool × List (List Nat × List Nat) := (true, [([], []), ([], []), ([], []), ([2], [2]), ([], []), ([4], [4]), ([0, 1, 3, 5], [0, 1, 3, 5]), ([], []), ([], []), ([], []), ([9], [9]), ([], []), ([11], [11]), ([7, 8, 10, 12, 6], [7, 8, 10, 12]), ([6, 13], [6, 13]), ([14, 13, 0, 1, 2, 3, 4, 5, 6, 7, 8, 9, 10, 11, 12, 13, 14], [14])])
def solventlaw14_LayoutMatchesSpec.B15 : List Nat := [0, 0, 0, 4, 0, 16, 63, 0, 0, 0, 512, 0, 2048, 8191, 16383, 32767]
theorem solventlaw14_LayoutMatchesSpec.tab15 : rtab .any (opsOf Try.f11 15) = solventlaw14_LayoutMatchesSpec.T15 := by kernel_rfl
theorem solventlaw14_LayoutMatchesSpec.bits15 : waitsOk solventlaw14_LayoutMatchesSpec.T15.2 solventlaw14_LayoutMatchesSpec.B15 = true := by kernel_rfl
def solventlaw14_LayoutMatchesSpec.T16 : Bool × List (List Nat × List Nat) := (true, [([], []), ([0], [0]), ([1], [1]), ([1, 2], [1, 2]), ([3, 1], [3]), ([4], [4]), ([4, 5], [4, 5]), ([6, 4], [6]), ([7], [7]), ([7, 8], [7, 8]), ([9, 7], [9]), ([10], [10]), ([10], [10]), ([11, 12, 10, 10], [10, 11, 12]), ([10], [10]), ([10], [10]), ([14, 15, 13, 10], [10, 14, 15]), ([13, 16, 10], [10, 13, 16]), ([10, 17], [10, 17]), ([18, 16], [18]), ([19], [19]), ([19], [19]), ([20, 21, 19, 19], [19, 20, 21]), ([19], [19]), ([19], [19]), ([23, 24, 22, 19], [19, 23, 24]), ([22, 25, 19], [19, 22, 25]), ([19, 26], [19, 26]), ([27, 25, 0, 1, 2, 3, 4, 5, 6, 7, 8, 9, 10, 11, 12, 13, 14, 15, 16, 17, 18, 19, 20, 21, 22, 23, 24, 25, 26, 27], [27])])
def solventlaw14_LayoutMatchesSpec.B16 : List Nat := [0, 1, 3, 7, 15, 31, 63, 127, 255, 511, 1023, 2047, 2047, 8191, 2047, 2047, 65535, 131071, 262143, 524287, 1048575, 1048575, 4194303, 1048575, 1048575, 33554431, 67108863, 134217727, 268435455]
theorem solventlaw14_LayoutMatchesSpec.tab16 : rtab .any (opsOf Try.f11 16) = solventlaw14_LayoutMatchesSpec.T16 := by kernel_rfl
theorem solventlaw14_LayoutMatchesSpec.bits16 : waitsOk solventlaw14_LayoutMatchesSpec.T16.2 solventlaw14_LayoutMatchesSpec.B16 = true := by kernel_rfl
end Go.Proofs.Ytiejibkjhmmpaaa.Q
